/- The functions of the layer, walked. -/
import Derived.Test.YtdbiogihimdpcaaGreatDoorPartAE
open List renaming length_set→aaS,cons_append→aaW,nil_append→aa0,getElem?_set_ne→aa6,getElem?_set_self→abB,append_assoc→abO,getElem?_append_left→abT,getElem?_append_right→abY,getElem?_cons_zero→acK,getElem?_cons_succ→acZ,length_map→adV,length_nil→aeH,map_nil→aeM,map_cons→aeP,length_cons→aeW,getElem?_eq_some_iff→aeZ,set_cons_succ→ae7,set_cons_zero→ae8,append_nil→af4
open Nat renaming sub_self→ab9,add_sub_cancel_left→acF
open Int renaming natCast_zero→ae6,lt_irrefl→afM
set_option linter.unusedSimpArgs false
set_option linter.unusedVariables false
namespace Go.Proofs.YtdbiogihimdpcaaGreatDoor
open Go.Ev Go
set_option maxRecDepth 100000
set_option maxHeartbeats 16000000
def mX(a b:Int):Int:=if a<b then b else a
def Zl(c:Ag)(n:Int):Int:=IntKind.i64.wrap (IntKind.i64.wrap (c.fixed+IntKind.i64.wrap (c.inn*mX 0 n))+IntKind.i64.wrap (c.out*mX 0 (IntKind.i64.wrap (0-n))))
def zV(c:Ag)(k:Int):Int:=IntKind.i64.wrap (c.cut*mX k (IntKind.i64.wrap (0-k)))
def Da(hr:Int)(F W A:List Int)(i:Nat)(c:Ag)(L:List Int):List Int:=
 if Hw hr c.lo c.hi=true then
  if c.firm=true then sI (sI L i (IntKind.i64.wrap (gI L i+Zl c (gI F i)))) i (IntKind.i64.wrap (gI (sI L i (IntKind.i64.wrap (gI L i+Zl c (gI F i)))) i-zV c (IntKind.i64.wrap (gI W i-gI A i))))
  else sI L i (IntKind.i64.wrap (gI L i+Zl c (gI F i)))
 else L
theorem Pq(hr:Int)(F W A:List Int)(i:Nat)(c:Ag)(L:List Int):(Da hr F W A i c L).length=L.length:=by
 unfold Da;split<;>(try split)<;>simp[Bg]
theorem afO{s:Ac}{d:Ap}{w w1 w2 w3 w4 w5 w6 w7:Bool}{hr own fuel:Int}{G L W A F R:List Int}{O:List Aa}(hL:L.length=s.cons.length)(hW:W.length=s.cons.length)(hAl:A.length=s.cons.length)(hF:F.length=s.cons.length)(hl:s.cons.length≤1000):
 Ql Bi 110 [.ptr 0 0 0] [.live 19 false w [(rc s d hr (.slr 1 1 0 G.length) own fuel (.slr 1 2 0 L.length) .nils (.slr 1 3 0 W.length) (.slr 1 4 0 A.length) (.slr 1 5 0 F.length) .nils)],.live 1 true w1 (G.map iv),.live 1 true w2 (L.map iv),.live 1 true w4 (W.map iv),.live 1 true w6 (A.map iv),.live 1 true w7 (F.map iv)]
  fun o h'=>o=.ret (.tup [])∧∃wL,(wL=false→Kr (Da hr F W A) s.cons 0 L=L)∧h'=[.live 19 false w [(rc s d hr (.slr 1 1 0 G.length) own fuel (.slr 1 2 0 L.length) .nils (.slr 1 3 0 W.length) (.slr 1 4 0 A.length) (.slr 1 5 0 F.length) .nils)],.live 1 true w1 (G.map iv),.live 1 true wL ((Kr (Da hr F W A) s.cons 0 L).map iv),.live 1 true w4 (W.map iv),.live 1 true w6 (A.map iv),.live 1 true w7 (F.map iv)]:=by
 have hl':s.cons.length≤maxLen:=by unfold maxLen;omega
 refine Je rfl Tryz.func110 rfl rfl ?_
 simp only[Tryz.f110]
 (have hb:=trivial;with_reducible repeat' (first|simp only[hb,Vc.down,seval,Nq.down,adV]|refine Af ?_ ?_<;>intro hb|refine fd ?_|fail))
 generalize hLP:CB.lp _ _ _ _ _=LP
 refine aQ (Sm (s:=s) (d:=d) (hr:=hr) (y:=.yl 7) (Da hr F W A) (fun i a h=>(∃ww g,h=.live 19 false false [(rc s d hr (.slr 1 1 0 G.length) own fuel (.slr 1 2 0 L.length) .nils (.slr 1 3 0 W.length) (.slr 1 4 0 A.length) (.slr 1 5 0 F.length) .nils)]::.live 1 true false (G.map iv)::.live 1 true ww (a.map iv)::  .live 1 true false (W.map iv)::.live 1 true false (A.map iv)::.live 1 true false (F.map iv)::  .live 1 false false [[.ptr 0 0 0]]::LP::g∧Bv g=true∧a.length=s.cons.length∧(ww=false→a=L))) hl' ?_ ?_ ?_ ?_ L ?_) ?_
 ·rintro i a h ⟨ww,g,rfl,_,_,_⟩
  exact⟨_,_,_,_,_,_,_,_,_,_,_,rfl⟩
 ·rintro i a h fl w rows ⟨ww,g,rfl,hqg,hal,hwr⟩
  exact⟨ww,g++[.live 11 fl w rows],rfl,by rw[Ep,hqg];rfl,hal,hwr⟩
 ·rintro i c a h hx hact ⟨ww,g,rfl,hqg,hal,hwr⟩
  have hil:i<s.cons.length:=(aeZ.1 hx).1
  have hii:((i:Int)<(s.cons.length:Int))=True:=eq_true (by omega)
  have at_:∀l:List Int,l.length=s.cons.length→l[i]?=some (gI l i):=fun l hl=>by have:=Ff (l:=l) (i:=(i:Int)) (by simp;omega);simpa using this
  have aF:=at_ F hF
  have aW:=at_ W hW
  have aA:=at_ A hAl
  have aL:=at_ a hal
  have aL2:∀v,(sI a i v)[i]?=some (gI (sI a i v) i):=fun v=>at_ _ (by rw[Bg];exact hal)
  have hiL:((i:Int)<(L.length:Int))=True:=eq_true (by omega)
  have hiW:((i:Int)<(W.length:Int))=True:=eq_true (by omega)
  have hiA:((i:Int)<(A.length:Int))=True:=eq_true (by omega)
  have hiF:((i:Int)<(F.length:Int))=True:=eq_true (by omega)
  have aS:∀(a:List Int) v,(a.map iv).set i [.int .i64 v]=(sI a i v).map iv:=fun a v=>by have:=Dt a (i:Int) v;simpa using this
  have hal':(Da hr F W A i c a).length=s.cons.length:=by rw[Pq];exact hal
  have round:∀g0:Ab,Bv g0=true→RnQ Bi ([.int .i64 i,.agg [.bool c.firm,.int .i64 c.space,.int .i64 c.lo,.int .i64 c.hi,Ao 3 true c.nn (c.rates.map Bh.cells),.int .i64 c.gas,.int .i64 c.fixed,.int .i64 c.inn,.int .i64 c.out,.int .i64 c.cut,.int .i64 c.lack]]++[.yl 7]) (.live 19 false false [(rc s d hr (.slr 1 1 0 G.length) own fuel (.slr 1 2 0 L.length) .nils (.slr 1 3 0 W.length) (.slr 1 4 0 A.length) (.slr 1 5 0 F.length) .nils)]::.live 1 true false (G.map iv)::.live 1 true false (a.map iv)::  .live 1 true false (W.map iv)::.live 1 true false (A.map iv)::.live 1 true false (F.map iv)::  .live 1 false false [[.ptr 0 0 0]]::LP::g0)
   fun o h'=>o=.ret (.bool true)∧∃g',h'=.live 19 false false [(rc s d hr (.slr 1 1 0 G.length) own fuel (.slr 1 2 0 L.length) .nils (.slr 1 3 0 W.length) (.slr 1 4 0 A.length) (.slr 1 5 0 F.length) .nils)]::.live 1 true false (G.map iv)::.live 1 true true ((Da hr F W A i c a).map iv)::  .live 1 true false (W.map iv)::.live 1 true false (A.map iv)::.live 1 true false (F.map iv)::  .live 1 false false [[.ptr 0 0 0]]::LP::(g0++g')∧Bv g'=true:=by
   subst hLP
   intro g0 hq0
   refine wH rfl rfl ?_
   cases hf:c.firm with
   |true=>
    (have hb:=trivial;with_reducible repeat' (first|simp only[hb,Vc.down,seval,Nq.down,hx,hf,Ag.cells,hiL,hiW,hiA,hiF,aF,aW,aA,aL,aL2,aS,iv,adV]|refine Af ?_ ?_<;>intro hb|((refine Dh (g0.length) 7 ?_ ?_);(simp (discharger:=decide) only[Dc,Bq,aeP,aeM,Bf,Db,Dj,Df,Di,Bd,Bo,Br,aeW,aeH];kernel_rfl);intro _)|refine Wz ?_|fail))
    exact⟨_,_,rfl,rfl,[_],by rw[show Da hr F W A i c a=sI (sI a i (IntKind.i64.wrap (gI a i+Zl c (gI F i)))) i (IntKind.i64.wrap (gI (sI a i (IntKind.i64.wrap (gI a i+Zl c (gI F i)))) i-zV c (IntKind.i64.wrap (gI W i-gI A i)))) by simp[Da,hact,hf]];rfl,rfl⟩
   |false=>
    (have hb:=trivial;with_reducible repeat' (first|simp only[hb,Vc.down,seval,Nq.down,hx,hf,Ag.cells,hiL,hiW,hiA,hiF,aF,aW,aA,aL,aL2,aS,iv,adV]|refine Af ?_ ?_<;>intro hb|((refine Dh (g0.length) 7 ?_ ?_);(simp (discharger:=decide) only[Dc,Bq,aeP,aeM,Bf,Db,Dj,Df,Di,Bd,Bo,Br,aeW,aeH];kernel_rfl);intro _)|refine Wz ?_|fail))
    exact⟨_,_,rfl,rfl,[_],by rw[show Da hr F W A i c a=sI a i (IntKind.i64.wrap (gI a i+Zl c (gI F i))) by simp[Da,hact,hf]];rfl,rfl⟩
  obtain⟨o,h',e,rfl,g',rfl,hq'⟩:=round (fG g) (Pg hqg)
  have hst:=fun i l=>Iq hqg i l
  have hLc:LP.clean=LP:=by rw[←hLP];rfl
  have hLq:LP.quiet LP=true:=by rw[←hLP];rfl
  simp only[aaW,aa0]at e
  have hgg:Bv (g++g')=true:=by rw[Ep,hqg,hq'];rfl
  refine⟨_,by simp only[Vc.down,seval,hLc,e,hLq,hst];exact rfl,true,g++g',?_,hgg,hal',fun h=>by cases h⟩
  simp only[Ba,Cc,Du,ae7,ae8]
  rfl
 ·rintro i c a h hx hact ⟨ww,g,rfl,hqg,hal,hwr⟩
  exact⟨ww,g,by simp[Da,hact],hqg,by simpa [Da,hact]using hal,by simpa [Da,hact]using hwr⟩
 ·exact⟨false,[],rfl,rfl,hL,fun _=>rfl⟩
 ·rintro o h' ⟨rfl,ww,g,rfl,hqg,hal,hwr⟩
  have hst:=fun i l=>Iq hqg i l
  subst hLP
  cases ww with
  |false=>
   have hw0:=hwr rfl
   rw[hwr rfl]
   (have hb:=trivial;with_reducible repeat' (first|simp only[hb,Vc.down,seval,Nq.down,hst,Cc,aaW]|refine Af ?_ ?_<;>intro hb|refine fd ?_|fail))
   exact⟨w2,by simp⟩
  |true=>
   (have hb:=trivial;with_reducible repeat' (first|simp only[hb,Vc.down,seval,Nq.down,hst,Cc,aaW]|refine Af ?_ ?_<;>intro hb|refine fd ?_|fail))
   exact⟨true,(fun h=>by cases h),rfl⟩
theorem ajH{s:Ac}{d:Ap}{w w1 w2 w3 w4 w5 w6 w7:Bool}{hr own fuel:Int}{G L W A F R:List Int}{O:List Aa}(hL:L.length=s.cons.length)(hW:W.length=s.cons.length)(hAl:A.length=s.cons.length)(hF:F.length=s.cons.length)(hl:s.cons.length≤1000):
 Ql Bi 110 [.ptr 0 0 0] [.live 19 false w [(rc s d hr (.slr 1 1 0 G.length) own fuel (.slr 1 2 0 L.length) (.slr 5 3 0 O.length) (.slr 1 4 0 W.length) (.slr 1 5 0 A.length) (.slr 1 6 0 F.length) .nils)],.live 1 true w1 (G.map iv),.live 1 true w2 (L.map iv),.live 5 true w3 (O.map Aa.cells),.live 1 true w4 (W.map iv),.live 1 true w6 (A.map iv),.live 1 true w7 (F.map iv)]
  fun o h'=>o=.ret (.tup [])∧∃wL,(wL=false→Kr (Da hr F W A) s.cons 0 L=L)∧h'=[.live 19 false w [(rc s d hr (.slr 1 1 0 G.length) own fuel (.slr 1 2 0 L.length) (.slr 5 3 0 O.length) (.slr 1 4 0 W.length) (.slr 1 5 0 A.length) (.slr 1 6 0 F.length) .nils)],.live 1 true w1 (G.map iv),.live 1 true wL ((Kr (Da hr F W A) s.cons 0 L).map iv),.live 5 true w3 (O.map Aa.cells),.live 1 true w4 (W.map iv),.live 1 true w6 (A.map iv),.live 1 true w7 (F.map iv)]:=by
 have hl':s.cons.length≤maxLen:=by unfold maxLen;omega
 refine Je rfl Tryz.func110 rfl rfl ?_
 simp only[Tryz.f110]
 (have hb:=trivial;with_reducible repeat' (first|simp only[hb,Vc.down,seval,Nq.down,adV]|refine Af ?_ ?_<;>intro hb|refine fd ?_|fail))
 generalize hLP:CB.lp _ _ _ _ _=LP
 refine aQ (Sm (s:=s) (d:=d) (hr:=hr) (y:=.yl 8) (Da hr F W A) (fun i a h=>(∃ww g,h=.live 19 false false [(rc s d hr (.slr 1 1 0 G.length) own fuel (.slr 1 2 0 L.length) (.slr 5 3 0 O.length) (.slr 1 4 0 W.length) (.slr 1 5 0 A.length) (.slr 1 6 0 F.length) .nils)]::.live 1 true false (G.map iv)::.live 1 true ww (a.map iv)::.live 5 true false (O.map Aa.cells)::.live 1 true false (W.map iv)::.live 1 true false (A.map iv)::.live 1 true false (F.map iv)::  .live 1 false false [[.ptr 0 0 0]]::LP::g∧Bv g=true∧a.length=s.cons.length∧(ww=false→a=L))) hl' ?_ ?_ ?_ ?_ L ?_) ?_
 ·rintro i a h ⟨ww,g,rfl,_,_,_⟩
  exact⟨_,_,_,_,_,_,_,_,_,_,_,rfl⟩
 ·rintro i a h fl w rows ⟨ww,g,rfl,hqg,hal,hwr⟩
  exact⟨ww,g++[.live 11 fl w rows],rfl,by rw[Ep,hqg];rfl,hal,hwr⟩
 ·rintro i c a h hx hact ⟨ww,g,rfl,hqg,hal,hwr⟩
  have hil:i<s.cons.length:=(aeZ.1 hx).1
  have hii:((i:Int)<(s.cons.length:Int))=True:=eq_true (by omega)
  have at_:∀l:List Int,l.length=s.cons.length→l[i]?=some (gI l i):=fun l hl=>by have:=Ff (l:=l) (i:=(i:Int)) (by simp;omega);simpa using this
  have aF:=at_ F hF
  have aW:=at_ W hW
  have aA:=at_ A hAl
  have aL:=at_ a hal
  have aL2:∀v,(sI a i v)[i]?=some (gI (sI a i v) i):=fun v=>at_ _ (by rw[Bg];exact hal)
  have hiL:((i:Int)<(L.length:Int))=True:=eq_true (by omega)
  have hiW:((i:Int)<(W.length:Int))=True:=eq_true (by omega)
  have hiA:((i:Int)<(A.length:Int))=True:=eq_true (by omega)
  have hiF:((i:Int)<(F.length:Int))=True:=eq_true (by omega)
  have aS:∀(a:List Int) v,(a.map iv).set i [.int .i64 v]=(sI a i v).map iv:=fun a v=>by have:=Dt a (i:Int) v;simpa using this
  have hal':(Da hr F W A i c a).length=s.cons.length:=by rw[Pq];exact hal
  have round:∀g0:Ab,Bv g0=true→RnQ Bi ([.int .i64 i,.agg [.bool c.firm,.int .i64 c.space,.int .i64 c.lo,.int .i64 c.hi,Ao 3 true c.nn (c.rates.map Bh.cells),.int .i64 c.gas,.int .i64 c.fixed,.int .i64 c.inn,.int .i64 c.out,.int .i64 c.cut,.int .i64 c.lack]]++[.yl 8]) (.live 19 false false [(rc s d hr (.slr 1 1 0 G.length) own fuel (.slr 1 2 0 L.length) (.slr 5 3 0 O.length) (.slr 1 4 0 W.length) (.slr 1 5 0 A.length) (.slr 1 6 0 F.length) .nils)]::.live 1 true false (G.map iv)::.live 1 true false (a.map iv)::.live 5 true false (O.map Aa.cells)::.live 1 true false (W.map iv)::.live 1 true false (A.map iv)::.live 1 true false (F.map iv)::  .live 1 false false [[.ptr 0 0 0]]::LP::g0)
   fun o h'=>o=.ret (.bool true)∧∃g',h'=.live 19 false false [(rc s d hr (.slr 1 1 0 G.length) own fuel (.slr 1 2 0 L.length) (.slr 5 3 0 O.length) (.slr 1 4 0 W.length) (.slr 1 5 0 A.length) (.slr 1 6 0 F.length) .nils)]::.live 1 true false (G.map iv)::.live 1 true true ((Da hr F W A i c a).map iv)::.live 5 true false (O.map Aa.cells)::.live 1 true false (W.map iv)::.live 1 true false (A.map iv)::.live 1 true false (F.map iv)::  .live 1 false false [[.ptr 0 0 0]]::LP::(g0++g')∧Bv g'=true:=by
   subst hLP
   intro g0 hq0
   refine wH rfl rfl ?_
   cases hf:c.firm with
   |true=>
    (have hb:=trivial;with_reducible repeat' (first|simp only[hb,Vc.down,seval,Nq.down,hx,hf,Ag.cells,hiL,hiW,hiA,hiF,aF,aW,aA,aL,aL2,aS,iv,adV]|refine Af ?_ ?_<;>intro hb|((refine Dh (g0.length) 7 ?_ ?_);(simp (discharger:=decide) only[Dc,Bq,aeP,aeM,Bf,Db,Dj,Df,Di,Bd,Bo,Br,aeW,aeH];kernel_rfl);intro _)|refine Wz ?_|fail))
    exact⟨_,_,rfl,rfl,[_],by rw[show Da hr F W A i c a=sI (sI a i (IntKind.i64.wrap (gI a i+Zl c (gI F i)))) i (IntKind.i64.wrap (gI (sI a i (IntKind.i64.wrap (gI a i+Zl c (gI F i)))) i-zV c (IntKind.i64.wrap (gI W i-gI A i)))) by simp[Da,hact,hf]];rfl,rfl⟩
   |false=>
    (have hb:=trivial;with_reducible repeat' (first|simp only[hb,Vc.down,seval,Nq.down,hx,hf,Ag.cells,hiL,hiW,hiA,hiF,aF,aW,aA,aL,aL2,aS,iv,adV]|refine Af ?_ ?_<;>intro hb|((refine Dh (g0.length) 7 ?_ ?_);(simp (discharger:=decide) only[Dc,Bq,aeP,aeM,Bf,Db,Dj,Df,Di,Bd,Bo,Br,aeW,aeH];kernel_rfl);intro _)|refine Wz ?_|fail))
    exact⟨_,_,rfl,rfl,[_],by rw[show Da hr F W A i c a=sI a i (IntKind.i64.wrap (gI a i+Zl c (gI F i))) by simp[Da,hact,hf]];rfl,rfl⟩
  obtain⟨o,h',e,rfl,g',rfl,hq'⟩:=round (fG g) (Pg hqg)
  have hst:=fun i l=>Iq hqg i l
  have hLc:LP.clean=LP:=by rw[←hLP];rfl
  have hLq:LP.quiet LP=true:=by rw[←hLP];rfl
  simp only[aaW,aa0]at e
  have hgg:Bv (g++g')=true:=by rw[Ep,hqg,hq'];rfl
  refine⟨_,by simp only[Vc.down,seval,hLc,e,hLq,hst];exact rfl,true,g++g',?_,hgg,hal',fun h=>by cases h⟩
  simp only[Ba,Cc,Du,ae7,ae8]
  rfl
 ·rintro i c a h hx hact ⟨ww,g,rfl,hqg,hal,hwr⟩
  exact⟨ww,g,by simp[Da,hact],hqg,by simpa [Da,hact]using hal,by simpa [Da,hact]using hwr⟩
 ·exact⟨false,[],rfl,rfl,hL,fun _=>rfl⟩
 ·rintro o h' ⟨rfl,ww,g,rfl,hqg,hal,hwr⟩
  have hst:=fun i l=>Iq hqg i l
  subst hLP
  cases ww with
  |false=>
   have hw0:=hwr rfl
   rw[hwr rfl]
   (have hb:=trivial;with_reducible repeat' (first|simp only[hb,Vc.down,seval,Nq.down,hst,Cc,aaW]|refine Af ?_ ?_<;>intro hb|refine fd ?_|fail))
   exact⟨w2,by simp⟩
  |true=>
   (have hb:=trivial;with_reducible repeat' (first|simp only[hb,Vc.down,seval,Nq.down,hst,Cc,aaW]|refine Af ?_ ?_<;>intro hb|refine fd ?_|fail))
   exact⟨true,(fun h=>by cases h),rfl⟩
theorem aiX{s:Ac}{d:Ap}{w w1 w2 w3 w4 w5 w6 w7:Bool}{hr own fuel:Int}{G L W A F R:List Int}{O:List Aa}(hL:L.length=s.cons.length)(hW:W.length=s.cons.length)(hAl:A.length=s.cons.length)(hF:F.length=s.cons.length)(hl:s.cons.length≤1000):
 Ql Bi 110 [.ptr 0 0 0] [.live 19 false w [(rc s d hr (.slr 1 1 0 G.length) own fuel (.slr 1 2 0 L.length) .nils (.slr 1 3 0 W.length) (.slr 1 4 0 A.length) (.slr 1 5 0 F.length) (.slr 1 6 0 R.length))],.live 1 true w1 (G.map iv),.live 1 true w2 (L.map iv),.live 1 true w4 (W.map iv),.live 1 true w6 (A.map iv),.live 1 true w7 (F.map iv),.live 1 true w5 (R.map iv)]
  fun o h'=>o=.ret (.tup [])∧∃wL,(wL=false→Kr (Da hr F W A) s.cons 0 L=L)∧h'=[.live 19 false w [(rc s d hr (.slr 1 1 0 G.length) own fuel (.slr 1 2 0 L.length) .nils (.slr 1 3 0 W.length) (.slr 1 4 0 A.length) (.slr 1 5 0 F.length) (.slr 1 6 0 R.length))],.live 1 true w1 (G.map iv),.live 1 true wL ((Kr (Da hr F W A) s.cons 0 L).map iv),.live 1 true w4 (W.map iv),.live 1 true w6 (A.map iv),.live 1 true w7 (F.map iv),.live 1 true w5 (R.map iv)]:=by
 have hl':s.cons.length≤maxLen:=by unfold maxLen;omega
 refine Je rfl Tryz.func110 rfl rfl ?_
 simp only[Tryz.f110]
 (have hb:=trivial;with_reducible repeat' (first|simp only[hb,Vc.down,seval,Nq.down,adV]|refine Af ?_ ?_<;>intro hb|refine fd ?_|fail))
 generalize hLP:CB.lp _ _ _ _ _=LP
 refine aQ (Sm (s:=s) (d:=d) (hr:=hr) (y:=.yl 8) (Da hr F W A) (fun i a h=>(∃ww g,h=.live 19 false false [(rc s d hr (.slr 1 1 0 G.length) own fuel (.slr 1 2 0 L.length) .nils (.slr 1 3 0 W.length) (.slr 1 4 0 A.length) (.slr 1 5 0 F.length) (.slr 1 6 0 R.length))]::.live 1 true false (G.map iv)::.live 1 true ww (a.map iv)::  .live 1 true false (W.map iv)::.live 1 true false (A.map iv)::.live 1 true false (F.map iv)::.live 1 true false (R.map iv)::.live 1 false false [[.ptr 0 0 0]]::LP::g∧Bv g=true∧a.length=s.cons.length∧(ww=false→a=L))) hl' ?_ ?_ ?_ ?_ L ?_) ?_
 ·rintro i a h ⟨ww,g,rfl,_,_,_⟩
  exact⟨_,_,_,_,_,_,_,_,_,_,_,rfl⟩
 ·rintro i a h fl w rows ⟨ww,g,rfl,hqg,hal,hwr⟩
  exact⟨ww,g++[.live 11 fl w rows],rfl,by rw[Ep,hqg];rfl,hal,hwr⟩
 ·rintro i c a h hx hact ⟨ww,g,rfl,hqg,hal,hwr⟩
  have hil:i<s.cons.length:=(aeZ.1 hx).1
  have hii:((i:Int)<(s.cons.length:Int))=True:=eq_true (by omega)
  have at_:∀l:List Int,l.length=s.cons.length→l[i]?=some (gI l i):=fun l hl=>by have:=Ff (l:=l) (i:=(i:Int)) (by simp;omega);simpa using this
  have aF:=at_ F hF
  have aW:=at_ W hW
  have aA:=at_ A hAl
  have aL:=at_ a hal
  have aL2:∀v,(sI a i v)[i]?=some (gI (sI a i v) i):=fun v=>at_ _ (by rw[Bg];exact hal)
  have hiL:((i:Int)<(L.length:Int))=True:=eq_true (by omega)
  have hiW:((i:Int)<(W.length:Int))=True:=eq_true (by omega)
  have hiA:((i:Int)<(A.length:Int))=True:=eq_true (by omega)
  have hiF:((i:Int)<(F.length:Int))=True:=eq_true (by omega)
  have aS:∀(a:List Int) v,(a.map iv).set i [.int .i64 v]=(sI a i v).map iv:=fun a v=>by have:=Dt a (i:Int) v;simpa using this
  have hal':(Da hr F W A i c a).length=s.cons.length:=by rw[Pq];exact hal
  have round:∀g0:Ab,Bv g0=true→RnQ Bi ([.int .i64 i,.agg [.bool c.firm,.int .i64 c.space,.int .i64 c.lo,.int .i64 c.hi,Ao 3 true c.nn (c.rates.map Bh.cells),.int .i64 c.gas,.int .i64 c.fixed,.int .i64 c.inn,.int .i64 c.out,.int .i64 c.cut,.int .i64 c.lack]]++[.yl 8]) (.live 19 false false [(rc s d hr (.slr 1 1 0 G.length) own fuel (.slr 1 2 0 L.length) .nils (.slr 1 3 0 W.length) (.slr 1 4 0 A.length) (.slr 1 5 0 F.length) (.slr 1 6 0 R.length))]::.live 1 true false (G.map iv)::.live 1 true false (a.map iv)::  .live 1 true false (W.map iv)::.live 1 true false (A.map iv)::.live 1 true false (F.map iv)::.live 1 true false (R.map iv)::.live 1 false false [[.ptr 0 0 0]]::LP::g0)
   fun o h'=>o=.ret (.bool true)∧∃g',h'=.live 19 false false [(rc s d hr (.slr 1 1 0 G.length) own fuel (.slr 1 2 0 L.length) .nils (.slr 1 3 0 W.length) (.slr 1 4 0 A.length) (.slr 1 5 0 F.length) (.slr 1 6 0 R.length))]::.live 1 true false (G.map iv)::.live 1 true true ((Da hr F W A i c a).map iv)::  .live 1 true false (W.map iv)::.live 1 true false (A.map iv)::.live 1 true false (F.map iv)::.live 1 true false (R.map iv)::.live 1 false false [[.ptr 0 0 0]]::LP::(g0++g')∧Bv g'=true:=by
   subst hLP
   intro g0 hq0
   refine wH rfl rfl ?_
   cases hf:c.firm with
   |true=>
    (have hb:=trivial;with_reducible repeat' (first|simp only[hb,Vc.down,seval,Nq.down,hx,hf,Ag.cells,hiL,hiW,hiA,hiF,aF,aW,aA,aL,aL2,aS,iv,adV]|refine Af ?_ ?_<;>intro hb|((refine Dh (g0.length) 7 ?_ ?_);(simp (discharger:=decide) only[Dc,Bq,aeP,aeM,Bf,Db,Dj,Df,Di,Bd,Bo,Br,aeW,aeH];kernel_rfl);intro _)|refine Wz ?_|fail))
    exact⟨_,_,rfl,rfl,[_],by rw[show Da hr F W A i c a=sI (sI a i (IntKind.i64.wrap (gI a i+Zl c (gI F i)))) i (IntKind.i64.wrap (gI (sI a i (IntKind.i64.wrap (gI a i+Zl c (gI F i)))) i-zV c (IntKind.i64.wrap (gI W i-gI A i)))) by simp[Da,hact,hf]];rfl,rfl⟩
   |false=>
    (have hb:=trivial;with_reducible repeat' (first|simp only[hb,Vc.down,seval,Nq.down,hx,hf,Ag.cells,hiL,hiW,hiA,hiF,aF,aW,aA,aL,aL2,aS,iv,adV]|refine Af ?_ ?_<;>intro hb|((refine Dh (g0.length) 7 ?_ ?_);(simp (discharger:=decide) only[Dc,Bq,aeP,aeM,Bf,Db,Dj,Df,Di,Bd,Bo,Br,aeW,aeH];kernel_rfl);intro _)|refine Wz ?_|fail))
    exact⟨_,_,rfl,rfl,[_],by rw[show Da hr F W A i c a=sI a i (IntKind.i64.wrap (gI a i+Zl c (gI F i))) by simp[Da,hact,hf]];rfl,rfl⟩
  obtain⟨o,h',e,rfl,g',rfl,hq'⟩:=round (fG g) (Pg hqg)
  have hst:=fun i l=>Iq hqg i l
  have hLc:LP.clean=LP:=by rw[←hLP];rfl
  have hLq:LP.quiet LP=true:=by rw[←hLP];rfl
  simp only[aaW,aa0]at e
  have hgg:Bv (g++g')=true:=by rw[Ep,hqg,hq'];rfl
  refine⟨_,by simp only[Vc.down,seval,hLc,e,hLq,hst];exact rfl,true,g++g',?_,hgg,hal',fun h=>by cases h⟩
  simp only[Ba,Cc,Du,ae7,ae8]
  rfl
 ·rintro i c a h hx hact ⟨ww,g,rfl,hqg,hal,hwr⟩
  exact⟨ww,g,by simp[Da,hact],hqg,by simpa [Da,hact]using hal,by simpa [Da,hact]using hwr⟩
 ·exact⟨false,[],rfl,rfl,hL,fun _=>rfl⟩
 ·rintro o h' ⟨rfl,ww,g,rfl,hqg,hal,hwr⟩
  have hst:=fun i l=>Iq hqg i l
  subst hLP
  cases ww with
  |false=>
   have hw0:=hwr rfl
   rw[hwr rfl]
   (have hb:=trivial;with_reducible repeat' (first|simp only[hb,Vc.down,seval,Nq.down,hst,Cc,aaW]|refine Af ?_ ?_<;>intro hb|refine fd ?_|fail))
   exact⟨w2,by simp⟩
  |true=>
   (have hb:=trivial;with_reducible repeat' (first|simp only[hb,Vc.down,seval,Nq.down,hst,Cc,aaW]|refine Af ?_ ?_<;>intro hb|refine fd ?_|fail))
   exact⟨true,(fun h=>by cases h),rfl⟩
theorem akW{s:Ac}{d:Ap}{w w1 w2 w3 w4 w5 w6 w7:Bool}{hr own fuel:Int}{G L W A F R:List Int}{O:List Aa}(hL:L.length=s.cons.length)(hW:W.length=s.cons.length)(hAl:A.length=s.cons.length)(hF:F.length=s.cons.length)(hl:s.cons.length≤1000):
 Ql Bi 110 [.ptr 0 0 0] [.live 19 false w [(rc s d hr (.slr 1 1 0 G.length) own fuel (.slr 1 2 0 L.length) (.slr 5 3 0 O.length) (.slr 1 4 0 W.length) (.slr 1 5 0 A.length) (.slr 1 6 0 F.length) (.slr 1 7 0 R.length))],.live 1 true w1 (G.map iv),.live 1 true w2 (L.map iv),.live 5 true w3 (O.map Aa.cells),.live 1 true w4 (W.map iv),.live 1 true w6 (A.map iv),.live 1 true w7 (F.map iv),.live 1 true w5 (R.map iv)]
  fun o h'=>o=.ret (.tup [])∧∃wL,(wL=false→Kr (Da hr F W A) s.cons 0 L=L)∧h'=[.live 19 false w [(rc s d hr (.slr 1 1 0 G.length) own fuel (.slr 1 2 0 L.length) (.slr 5 3 0 O.length) (.slr 1 4 0 W.length) (.slr 1 5 0 A.length) (.slr 1 6 0 F.length) (.slr 1 7 0 R.length))],.live 1 true w1 (G.map iv),.live 1 true wL ((Kr (Da hr F W A) s.cons 0 L).map iv),.live 5 true w3 (O.map Aa.cells),.live 1 true w4 (W.map iv),.live 1 true w6 (A.map iv),.live 1 true w7 (F.map iv),.live 1 true w5 (R.map iv)]:=by
 have hl':s.cons.length≤maxLen:=by unfold maxLen;omega
 refine Je rfl Tryz.func110 rfl rfl ?_
 simp only[Tryz.f110]
 (have hb:=trivial;with_reducible repeat' (first|simp only[hb,Vc.down,seval,Nq.down,adV]|refine Af ?_ ?_<;>intro hb|refine fd ?_|fail))
 generalize hLP:CB.lp _ _ _ _ _=LP
 refine aQ (Sm (s:=s) (d:=d) (hr:=hr) (y:=.yl 9) (Da hr F W A) (fun i a h=>(∃ww g,h=.live 19 false false [(rc s d hr (.slr 1 1 0 G.length) own fuel (.slr 1 2 0 L.length) (.slr 5 3 0 O.length) (.slr 1 4 0 W.length) (.slr 1 5 0 A.length) (.slr 1 6 0 F.length) (.slr 1 7 0 R.length))]::.live 1 true false (G.map iv)::.live 1 true ww (a.map iv)::.live 5 true false (O.map Aa.cells)::.live 1 true false (W.map iv)::.live 1 true false (A.map iv)::.live 1 true false (F.map iv)::.live 1 true false (R.map iv)::.live 1 false false [[.ptr 0 0 0]]::LP::g∧Bv g=true∧a.length=s.cons.length∧(ww=false→a=L))) hl' ?_ ?_ ?_ ?_ L ?_) ?_
 ·rintro i a h ⟨ww,g,rfl,_,_,_⟩
  exact⟨_,_,_,_,_,_,_,_,_,_,_,rfl⟩
 ·rintro i a h fl w rows ⟨ww,g,rfl,hqg,hal,hwr⟩
  exact⟨ww,g++[.live 11 fl w rows],rfl,by rw[Ep,hqg];rfl,hal,hwr⟩
 ·rintro i c a h hx hact ⟨ww,g,rfl,hqg,hal,hwr⟩
  have hil:i<s.cons.length:=(aeZ.1 hx).1
  have hii:((i:Int)<(s.cons.length:Int))=True:=eq_true (by omega)
  have at_:∀l:List Int,l.length=s.cons.length→l[i]?=some (gI l i):=fun l hl=>by have:=Ff (l:=l) (i:=(i:Int)) (by simp;omega);simpa using this
  have aF:=at_ F hF
  have aW:=at_ W hW
  have aA:=at_ A hAl
  have aL:=at_ a hal
  have aL2:∀v,(sI a i v)[i]?=some (gI (sI a i v) i):=fun v=>at_ _ (by rw[Bg];exact hal)
  have hiL:((i:Int)<(L.length:Int))=True:=eq_true (by omega)
  have hiW:((i:Int)<(W.length:Int))=True:=eq_true (by omega)
  have hiA:((i:Int)<(A.length:Int))=True:=eq_true (by omega)
  have hiF:((i:Int)<(F.length:Int))=True:=eq_true (by omega)
  have aS:∀(a:List Int) v,(a.map iv).set i [.int .i64 v]=(sI a i v).map iv:=fun a v=>by have:=Dt a (i:Int) v;simpa using this
  have hal':(Da hr F W A i c a).length=s.cons.length:=by rw[Pq];exact hal
  have round:∀g0:Ab,Bv g0=true→RnQ Bi ([.int .i64 i,.agg [.bool c.firm,.int .i64 c.space,.int .i64 c.lo,.int .i64 c.hi,Ao 3 true c.nn (c.rates.map Bh.cells),.int .i64 c.gas,.int .i64 c.fixed,.int .i64 c.inn,.int .i64 c.out,.int .i64 c.cut,.int .i64 c.lack]]++[.yl 9]) (.live 19 false false [(rc s d hr (.slr 1 1 0 G.length) own fuel (.slr 1 2 0 L.length) (.slr 5 3 0 O.length) (.slr 1 4 0 W.length) (.slr 1 5 0 A.length) (.slr 1 6 0 F.length) (.slr 1 7 0 R.length))]::.live 1 true false (G.map iv)::.live 1 true false (a.map iv)::.live 5 true false (O.map Aa.cells)::.live 1 true false (W.map iv)::.live 1 true false (A.map iv)::.live 1 true false (F.map iv)::.live 1 true false (R.map iv)::.live 1 false false [[.ptr 0 0 0]]::LP::g0)
   fun o h'=>o=.ret (.bool true)∧∃g',h'=.live 19 false false [(rc s d hr (.slr 1 1 0 G.length) own fuel (.slr 1 2 0 L.length) (.slr 5 3 0 O.length) (.slr 1 4 0 W.length) (.slr 1 5 0 A.length) (.slr 1 6 0 F.length) (.slr 1 7 0 R.length))]::.live 1 true false (G.map iv)::.live 1 true true ((Da hr F W A i c a).map iv)::.live 5 true false (O.map Aa.cells)::.live 1 true false (W.map iv)::.live 1 true false (A.map iv)::.live 1 true false (F.map iv)::.live 1 true false (R.map iv)::.live 1 false false [[.ptr 0 0 0]]::LP::(g0++g')∧Bv g'=true:=by
   subst hLP
   intro g0 hq0
   refine wH rfl rfl ?_
   cases hf:c.firm with
   |true=>
    (have hb:=trivial;with_reducible repeat' (first|simp only[hb,Vc.down,seval,Nq.down,hx,hf,Ag.cells,hiL,hiW,hiA,hiF,aF,aW,aA,aL,aL2,aS,iv,adV]|refine Af ?_ ?_<;>intro hb|((refine Dh (g0.length) 7 ?_ ?_);(simp (discharger:=decide) only[Dc,Bq,aeP,aeM,Bf,Db,Dj,Df,Di,Bd,Bo,Br,aeW,aeH];kernel_rfl);intro _)|refine Wz ?_|fail))
    exact⟨_,_,rfl,rfl,[_],by rw[show Da hr F W A i c a=sI (sI a i (IntKind.i64.wrap (gI a i+Zl c (gI F i)))) i (IntKind.i64.wrap (gI (sI a i (IntKind.i64.wrap (gI a i+Zl c (gI F i)))) i-zV c (IntKind.i64.wrap (gI W i-gI A i)))) by simp[Da,hact,hf]];rfl,rfl⟩
   |false=>
    (have hb:=trivial;with_reducible repeat' (first|simp only[hb,Vc.down,seval,Nq.down,hx,hf,Ag.cells,hiL,hiW,hiA,hiF,aF,aW,aA,aL,aL2,aS,iv,adV]|refine Af ?_ ?_<;>intro hb|((refine Dh (g0.length) 7 ?_ ?_);(simp (discharger:=decide) only[Dc,Bq,aeP,aeM,Bf,Db,Dj,Df,Di,Bd,Bo,Br,aeW,aeH];kernel_rfl);intro _)|refine Wz ?_|fail))
    exact⟨_,_,rfl,rfl,[_],by rw[show Da hr F W A i c a=sI a i (IntKind.i64.wrap (gI a i+Zl c (gI F i))) by simp[Da,hact,hf]];rfl,rfl⟩
  obtain⟨o,h',e,rfl,g',rfl,hq'⟩:=round (fG g) (Pg hqg)
  have hst:=fun i l=>Iq hqg i l
  have hLc:LP.clean=LP:=by rw[←hLP];rfl
  have hLq:LP.quiet LP=true:=by rw[←hLP];rfl
  simp only[aaW,aa0]at e
  have hgg:Bv (g++g')=true:=by rw[Ep,hqg,hq'];rfl
  refine⟨_,by simp only[Vc.down,seval,hLc,e,hLq,hst];exact rfl,true,g++g',?_,hgg,hal',fun h=>by cases h⟩
  simp only[Ba,Cc,Du,ae7,ae8]
  rfl
 ·rintro i c a h hx hact ⟨ww,g,rfl,hqg,hal,hwr⟩
  exact⟨ww,g,by simp[Da,hact],hqg,by simpa [Da,hact]using hal,by simpa [Da,hact]using hwr⟩
 ·exact⟨false,[],rfl,rfl,hL,fun _=>rfl⟩
 ·rintro o h' ⟨rfl,ww,g,rfl,hqg,hal,hwr⟩
  have hst:=fun i l=>Iq hqg i l
  subst hLP
  cases ww with
  |false=>
   have hw0:=hwr rfl
   rw[hwr rfl]
   (have hb:=trivial;with_reducible repeat' (first|simp only[hb,Vc.down,seval,Nq.down,hst,Cc,aaW]|refine Af ?_ ?_<;>intro hb|refine fd ?_|fail))
   exact⟨w2,by simp⟩
  |true=>
   (have hb:=trivial;with_reducible repeat' (first|simp only[hb,Vc.down,seval,Nq.down,hst,Cc,aaW]|refine Af ?_ ?_<;>intro hb|refine fd ?_|fail))
   exact⟨true,(fun h=>by cases h),rfl⟩
def zg:Bool→AV
 |true=>.slr 1 1 0 0
 |false=>.nils
def zi:Bool→Bool→Nat
 |false,false=>1
 |true,false=>2
 |false,true=>2
 |true,true=>3
def zl(a:Bool):Bool→AV
 |true=>.slr 1 (zi a false) 0 0
 |false=>.nils
def zo(a b:Bool):Bool→AV
 |true=>.slr 5 (zi a b) 0 0
 |false=>.nils
def zb(st:Nat)(w:Bool):Bool→Ab→Ab
 |true,h=>.live st true w []::h
 |false,h=>h
theorem aoG(a b c:Bool){s:Ac}{d:Ap}{fl w w1 w2 w3:Bool}{hr own fuel:Int}:
 Bi.call (.fn 104) [.ptr 0 0 0] (.live 19 fl w [(rc s d hr (zg a) own fuel (zl a b) (zo a b c) .nils .nils .nils .nils)]::zb 1 w1 a (zb 1 w2 b (zb 5 w3 c [])))=
  some (.ret (.tup []),.live 19 false true [(rc s d hr (zg a) own fuel (zl a b) .nils .nils .nils .nils .nils)]::zb 1 w1 a (zb 1 w2 b (zb 5 w3 c []))):=by
 cases a<;>cases b<;>cases c<;>simp only[zg,zi,zl,zo,zb]
 all_goals (refine ce Tryz.func104 ?_;simp only[Tryz.f104];(have hb:=trivial;with_reducible repeat' (first|simp only[hb,Vc.down,seval,Zj.down,aeH,ae6,afM,decide_false]|refine Af ?_ ?_<;>intro hb|refine fd ?_|refine yO ?_|fail)))
theorem aj8(a b:Bool){s:Ac}{d:Ap}{w w1 w2:Bool}{hr own fuel:Int}(hT:d.trades=[]):
 Bi.call (.fn 105) [.ptr 0 0 0] (.live 19 false w [(rc s d hr (zg a) own fuel (zl a b) .nils .nils .nils .nils .nils)]::zb 1 w1 a (zb 1 w2 b []))=
  some (.ret (.tup []),.live 19 false w [(rc s d hr (zg a) own fuel (zl a b) .nils .nils .nils .nils .nils)]::zb 1 w1 a (zb 1 w2 b [])):=by
 have hz:d.trades.length=0:=by rw[hT];rfl
 cases a<;>cases b<;>simp only[zg,zi,zl,zb]
 all_goals (refine ce Tryz.func105 ?_;simp only[Tryz.f105];(have hb:=trivial;with_reducible repeat' (first|simp only[hb,Vc.down,seval,Jl.down,adV,hz,ae6,afM,decide_false]|refine Af ?_ ?_<;>intro hb|refine fd ?_|refine yO ?_|fail)))
theorem uC{s:Ac}{d:Ap}(hs:s.cons=[]){fl w:Bool}{hr own fuel:Int}{gv lv ov wv av fv rv y:AV}(tl:Ab):
 Bi.call (.sh 131) [.ptr 0 0 0,y] (.live 19 fl w [(rc s d hr gv own fuel lv ov wv av fv rv)]::tl)=some (.ret (.tup []),.live 19 fl w [(rc s d hr gv own fuel lv ov wv av fv rv)]::tl):=by
 have hz:s.cons.length=0:=by rw[hs];rfl
 (refine csh Tryz.func131 ?_;simp only[Tryz.f131];(have hb:=trivial;with_reducible repeat' (first|simp only[hb,Vc.down,seval,pE.down,adV,hz,ae6,afM,decide_false]|refine Af ?_ ?_<;>intro hb|refine fd ?_|refine yO ?_|fail)))
theorem aoQ(a b:Bool){s:Ac}{d:Ap}{w w1 w2:Bool}{hr own fuel:Int}(hs:s.cons=[]):
 Bi.call (.fn 106) [.ptr 0 0 0] (.live 19 false w [(rc s d hr (zg a) own fuel (zl a b) .nils .nils .nils .nils .nils)]::zb 1 w1 a (zb 1 w2 b []))=
  some (.ret (.tup []),.live 19 false true [(rc s d hr (zg a) own fuel (zl a b) .nils (.slr 1 (zi a b) 0 0) .nils .nils .nils)]::zb 1 w1 a (zb 1 w2 b [.live 1 true false []])):=by
 have hz:s.cons.length=0:=by rw[hs];rfl
 have ha:=fun gv lv wv y=>uC (s:=s) (d:=d) hs (fl:=false) (w:=false) (hr:=hr) (own:=own) (fuel:=fuel) (gv:=gv) (lv:=lv) (ov:=.nils) (wv:=wv) (av:=.nils) (fv:=.nils) (rv:=.nils) (y:=y)
 cases a<;>cases b<;>simp only[zg,zi,zl,zb]
 all_goals (refine ce Tryz.func106 ?_;simp only[Tryz.f106];(have hb:=trivial;with_reducible repeat' (first|simp only[hb,Vc.down,seval,Nv.down,adV,hz,ae6,Int.le_refl,Int.reducePow,Int.reduceLE,List.replicate_zero,Int.toNat_zero,ha]|refine Af ?_ ?_<;>intro hb|refine fd ?_|refine yO ?_|fail)))
theorem anD(a b:Bool){s:Ac}{d:Ap}{w w1 w2 w3:Bool}{hr own fuel:Int}(hs:s.cons=[]):
 Bi.call (.fn 110) [.ptr 0 0 0] (.live 19 false w [(rc s d hr (zg a) own fuel (zl a b) .nils (.slr 1 (zi a b) 0 0) .nils .nils .nils)]::zb 1 w1 a (zb 1 w2 b [.live 1 true w3 []]))=some (.ret (.tup []),.live 19 false w [(rc s d hr (zg a) own fuel (zl a b) .nils (.slr 1 (zi a b) 0 0) .nils .nils .nils)]::zb 1 w1 a (zb 1 w2 b [.live 1 true w3 []])):=by
 have ha:=fun gv lv wv y=>uC (s:=s) (d:=d) hs (fl:=false) (w:=false) (hr:=hr) (own:=own) (fuel:=fuel) (gv:=gv) (lv:=lv) (ov:=.nils) (wv:=wv) (av:=.nils) (fv:=.nils) (rv:=.nils) (y:=y)
 cases a<;>cases b<;>simp only[zg,zi,zl,zb]
 all_goals (refine ce Tryz.func110 ?_;simp only[Tryz.f110];(have hb:=trivial;with_reducible repeat' (first|simp only[hb,Vc.down,seval,Nq.down,adV,ha]|refine Af ?_ ?_<;>intro hb|refine fd ?_|refine yO ?_|fail)))
theorem axI(a b:Bool){s:Ac}{d:Ap}{w w1 w2 w3:Bool}{hr own fuel:Int}:
 Bi.call (.fn 109) [.ptr 0 0 0] (.live 19 false w [(rc s d hr (zg a) own fuel (zl a b) .nils (.slr 1 (zi a b) 0 0) .nils .nils .nils)]::zb 1 w1 a (zb 1 w2 b [.live 1 true w3 []]))=some (.ret (.tup []),.live 19 false w [(rc s d hr (zg a) own fuel (zl a b) .nils (.slr 1 (zi a b) 0 0) .nils .nils .nils)]::zb 1 w1 a (zb 1 w2 b [.live 1 true w3 []])):=by
 cases a<;>cases b<;>simp only[zg,zi,zl,zb]
 all_goals (refine ce Tryz.func109 ?_;simp only[Tryz.f109];(have hb:=trivial;with_reducible repeat' (first|simp only[hb,Vc.down,seval,Rr.down,aeH,ae6,afM,decide_false]|refine Af ?_ ?_<;>intro hb|refine fd ?_|refine yO ?_|fail)))
theorem afI{s:Ac}{d:Ap}{hr fuel:Int}{x:Bc}(h0:0≤hr)(hx:d.hours[hr.toNat]?=some x)(own:Int)(gv lv wv:AV)(tl:Ab):
 Bi.call (.sh 133) [.ptr 0 0 0] (.live 19 false false [(rc s d hr gv own fuel lv .nils wv .nils .nils .nils)]::tl)=some (.ret (.agg x.cells),.live 19 false false [(rc s d hr gv own fuel lv .nils wv .nils .nils .nils)]::tl++[.live 4 true true [x.cells]]):=Yp (b:=0) rfl h0 hx
theorem akZ(a b:Bool){s:Ac}{d:Ap}{w w1 w2 w3:Bool}{hr own fuel:Int}{x:Bc}(h0:0≤hr)(hx:d.hours[hr.toNat]?=some x)(hi:0≤x.inn)(ho:0≤x.out):
 Bi.call (.fn 107) [.ptr 0 0 0] (.live 19 false w [(rc s d hr (zg a) own fuel (zl a b) .nils (.slr 1 (zi a b) 0 0) .nils .nils .nils)]::zb 1 w1 a (zb 1 w2 b [.live 1 true w3 []]))=some (.ret (.tup []),.live 19 false true [(rc s d hr (zg a) own fuel (zl a b) .nils (.slr 1 (zi a b) 0 0) .nils .nils .nils)]::zb 1 w1 a (zb 1 w2 b [.live 1 true w3 []])):=by
 have g1:=uD (s:=s) (nn:=true) hi ho
 rw[An]at g1
 have hh:=afI (s:=s) (d:=d) (fuel:=fuel) h0 hx
 cases a<;>cases b<;>simp only[zg,zi,zl,zb]
 all_goals (refine ce Tryz.func107 ?_;simp only[Tryz.f107];(have hb:=trivial;with_reducible repeat' (first|simp only[hb,Vc.down,seval,uH.down,hh,Bc.cells,g1,List.drop_nil,List.take_nil,aeH]|refine Af ?_ ?_<;>intro hb|refine fd ?_|fail)))
theorem amW(a b:Bool){s:Ac}{d:Ap}{w w1 w2 w3:Bool}{hr own fuel:Int}{x:Bc}(h0:0≤hr)(hx:d.hours[hr.toNat]?=some x):
 Bi.call (.fn 108) [.ptr 0 0 0] (.live 19 false w [(rc s d hr (zg a) own fuel (zl a b) .nils (.slr 1 (zi a b) 0 0) .nils .nils .nils)]::zb 1 w1 a (zb 1 w2 b [.live 1 true w3 []]))=some (.ret (.tup []),.live 19 false true [(rc s d hr (zg a) (eJ [] x own) fuel (zl a b) .nils (.slr 1 (zi a b) 0 0) .nils .nils .nils)]::zb 1 w1 a (zb 1 w2 b [.live 1 true w3 []])):=by
 have g1:=iE (nn:=false)
 rw[Gi]at g1
 have g2:=Zz (l:=[]) (nn:=false) (by simp)
 rw[aeM,Gi]at g2
 have g4:=fun amount=>Qc (amount:=amount) (l:=[]) (nn:=false) (g:=134) (w:=fun x=>x) (fun x _=>Po x) (by simp)
 simp only[aeM,Gi,aeH,aa0,Ar,Cm]at g4 g2
 have g6:=Qu [] [] true true (by simp) (by simp) _ _ (fun _=>rfl) (fun h=>absurd rfl h)
 simp only[aeM,An]at g6
 have hh:=afI (s:=s) (d:=d) (fuel:=fuel) h0 hx
 cases a<;>cases b<;>simp only[zg,zi,zl,zb]
 all_goals
  (refine ce Tryz.func108 ?_;simp only[Tryz.f108];(have hb:=trivial;with_reducible repeat' (first|simp only[hb,Vc.down,seval,xF.down,hh,Bc.cells,g1,g2,g4,g6,List.drop_nil,List.take_nil,aeH,aeM]|refine Af ?_ ?_<;>intro hb|refine fd ?_|fail)))
  rfl
def OvS(O:List Aa)(ov:AV)(h:Ab):Prop:=(O=[]∧ov=.nils)∨∃b w,ov=.slr 5 b 0 O.length∧h[b]?=some (.live 5 true w (O.map Aa.cells))∧6<b
def RvS(R:List Int)(rv:AV)(ex:List Nat)(h:Ab):Prop:=(R=[]∧rv=.nils)∨∃b w,R≠[]∧rv=.slr 1 b 0 R.length∧h[b]?=some (.live 1 true w (R.map iv))∧6<b∧b∉ex
def HsA(s:Ac)(d:Ap)(hr own fuel:Int)(G L:List Int)(O:List Aa)(R:List Int)(r:Nat)(h:Ab):Prop:=
 6<r∧G.length=s.cons.length∧L.length=s.cons.length∧∃w w1 w2 ov rv,h[r]?=some (.live 19 false w [(rc s d hr (.slr 1 5 0 s.cons.length) own fuel (.slr 1 6 0 s.cons.length) ov .nils .nils .nils rv)])∧h[5]?=some (.live 1 true w1 (G.map iv))∧h[6]?=some (.live 1 true w2 (L.map iv))∧OvS O ov h∧RvS R rv [] h
theorem ax0{h:Ab}{b:Nat}{c d:CB}(hb:h[b]?=some d):(h.set b c)[b]?=some c:=by
 rw[abB (aeZ.1 hb).1]
def Bh5(h h':Ab):Prop:=∀x,x<5→h'[x]?=h[x]?
theorem Bh5.refl(h:Ab):Bh5 h h:=fun _ _=>rfl
theorem Bh5.set{h h':Ab}(k:Bh5 h h'){b:Nat}(hb:4<b)(c:CB):Bh5 h (h'.set b c):=fun x hx=>by
 rw[aa6 (by omega)];exact k x hx
theorem aqC{h:Ab}{b x:Nat}{c:CB}(hb:b≠x):(h.set b c)[x]?=h[x]?:=aa6 hb
theorem Fb{h:Ab}{x:Nat}{d:CB}(hx:h[x]?=some d):x<h.length:=(aeZ.1 hx).1
theorem Ri(cs:List Ag)(hr:Int):∀(O:List Aa) (G L:List Int) (p:List Aa),(Dv cs hr O (G,L,p)).1.length=G.length∧(Dv cs hr O (G,L,p)).2.1.length=L.length
 | [],_,_,_=>⟨rfl,rfl⟩
 |t::O,G,L,p=>by
  simp only[Dv]
  split
  ·have:=Ri cs hr O (Vm cs t G) (Wp cs t G L) p
   rw[Ye,Qa]at this
   exact this
  ·exact Ri cs hr O G L (p++[t])
theorem aiR{s:Ac}{d:Ap}{hr own fuel:Int}{h:Ab}{r:Nat}{G L:List Int}{O:List Aa}(hOl:O.length≤1000)(ho:∀t∈O,t.ok s.cons.length)(H:HsA s d hr own fuel G L O [] r h):
 ∃es,cl Bi h (some (.func (.func 104) [.ptr r 0 0] [])) (some [])=some (.ret (.tup []),es)∧Bh5 h (Ba h es)∧
  HsA s d hr own fuel (Dv s.cons hr O (G,L,[])).1 (Dv s.cons hr O (G,L,[])).2.1 (Dv s.cons hr O (G,L,[])).2.2 [] r (Ba h es):=by
 obtain⟨hr6,hG,hL,w,w1,w2,ov,rv,hR,hg,hb,hov,hrv⟩:=H
 have n1:(r=5)=False:=eq_false (by omega)
 have n2:(r=6)=False:=eq_false (by omega)
 obtain⟨_,rfl⟩|⟨_,_,hne,_⟩:=hrv
 ·rcases hov with⟨rfl,rfl⟩|⟨io,w3,rfl,hio,hio6⟩
  ·obtain⟨o,h',e,rfl,rfl⟩:=ag2 (s:=s) (d:=d) (fl:=false) (w:=false) (w1:=false) (w2:=false) (hr:=hr) (own:=own) (fuel:=fuel) (G:=G) (L:=L) rfl rfl rfl rfl
   rw[hG,hL]at e
   refine⟨_,by simp only[Vc.down,seval,hR,hg,hb,n1,n2,e];exact rfl,?_⟩
   simp only[Ba,Du]
   refine⟨(Bh5.refl h).set (by omega) _,hr6,hG,hL,true,w1,w2,.nils,.nils,ax0 hR,?_,?_,.inl ⟨rfl,rfl⟩,.inl ⟨rfl,rfl⟩⟩
   ·rw[aqC (by omega)];exact hg
   ·rw[aqC (by omega)];exact hb
  ·have n3:(r=io)=False:=eq_false fun e=>by subst e;rw[hR]at hio;simp at hio
   have n4:(5=io)=False:=eq_false (by omega)
   have n5:(6=io)=False:=eq_false (by omega)
   obtain⟨o,h',e,rfl,wG,wL,hq⟩:=amU (s:=s) (d:=d) (fl:=false) (w:=false) (w1:=false) (w2:=false) (w3:=false) (hr:=hr) (own:=own) (fuel:=fuel) (G:=G) (L:=L) hG hL hOl ho rfl rfl rfl rfl
   generalize hF:Dv s.cons hr O (G,L,[])=F at *
   obtain⟨G',L',p'⟩:=F
   obtain⟨hwG,hwL,rfl⟩:=hq _ _ _ rfl
   rw[hG,hL]at e
   clear hq
   have hG':G'.length=s.cons.length:=by have:=Ri s.cons hr O G L [];rw[hF]at this;dsimp only at this;omega
   have hL':L'.length=s.cons.length:=by have:=Ri s.cons hr O G L [];rw[hF]at this;dsimp only at this;omega
   have l1:=Fb hR
   have l2:=Fb hg
   have l3:=Fb hb
   have l4:=Fb hio
   have m1:r≠io:=of_eq_false n3
   by_cases hp:p'=[]
   ·subst hp
    simp only[sO,tG,if_true,af4]at e
    obtain⟨vG,hvG⟩:∃v,v=wG:=⟨_,rfl⟩
    obtain⟨vL,hvL⟩:∃v,v=wL:=⟨_,rfl⟩
    cases wG<;>cases wL<;>(try have:=hwG rfl)<;>(try have:=hwL rfl)<;>(try subst G')<;>(try subst L')<;>(
     refine⟨_,by simp only[Vc.down,seval,hR,hg,hb,hio,n1,n2,n3,n4,n5,e];exact rfl,?_⟩
     simp only[Ba,Du]
     refine⟨fun x hx=>by((try simp (discharger:=((try simp only[aaS]);omega)) only[abO,aaW,aa0,abT,abY,aa6,abB,aaS,ab9,acF,acK,acZ])<;>(first|exact rfl|exact rfl)),hr6,hG',hL',true,(vG||w1),(vL||w2),.nils,.nils,?_,?_,?_,.inl ⟨rfl,rfl⟩,.inl ⟨rfl,rfl⟩⟩
     all_goals (subst vG;subst vL;((try simp (discharger:=((try simp only[aaS]);omega)) only[abO,aaW,aa0,abT,abY,aa6,abB,aaS,ab9,acF,acK,acZ])<;>(first|exact rfl|exact hg|exact hb))))
   ·simp only[sO,tG,hp,if_false]at e
    obtain⟨vG,hvG⟩:∃v,v=wG:=⟨_,rfl⟩
    obtain⟨vL,hvL⟩:∃v,v=wL:=⟨_,rfl⟩
    cases wG<;>cases wL<;>(try have:=hwG rfl)<;>(try have:=hwL rfl)<;>(try subst G')<;>(try subst L')<;>(
     refine⟨_,by simp only[Vc.down,seval,hR,hg,hb,hio,n1,n2,n3,n4,n5,e];exact rfl,?_⟩
     simp only[Ba,Du]
     refine⟨fun x hx=>by((try simp (discharger:=((try simp only[aaS]);omega)) only[abO,aaW,aa0,abT,abY,aa6,abB,aaS,ab9,acF,acK,acZ])<;>(first|exact rfl|exact rfl)),hr6,hG',hL',true,(vG||w1),(vL||w2),.slr 5 h.length 0 p'.length,.nils,?_,?_,?_,.inr ⟨h.length,false,rfl,?_,?_⟩,.inl ⟨rfl,rfl⟩⟩
     all_goals first
      |omega
      |(subst vG;subst vL;((try simp (discharger:=((try simp only[aaS]);omega)) only[abO,aaW,aa0,abT,abY,aa6,abB,aaS,ab9,acF,acK,acZ])<;>(first|exact rfl|exact hg|exact hb))))
 ·exact absurd rfl hne
theorem Pn(cs:List Ag)(hr:Int):∀(T:List Aa) (i:Nat) (G:List Int) (O:List Aa) (R:List Int),(Am cs hr T i (G,O,R)).1.length=G.length
 | [],_,_,_,_=>rfl
 |t::T,i,G,O,R=>by
  simp only[Am]
  split
  ·split
   ·exact Pn cs hr T _ _ _ _
   ·rw[Pn cs hr T _ _ _ _,Gv]
  ·exact Pn cs hr T _ _ _ _
theorem ae2{s:Ac}{d:Ap}{hr own fuel:Int}{h:Ab}{r:Nat}{G L:List Int}{O:List Aa}(hOl:O.length≤1000)(hd50:d.trades.length≤1000)(ho:∀t∈d.trades,t.ok s.cons.length)(H:HsA s d hr own fuel G L O [] r h):
 ∃es,cl Bi h (some (.func (.func 105) [.ptr r 0 0] [])) (some [])=some (.ret (.tup []),es)∧Bh5 h (Ba h es)∧
  HsA s d hr own fuel (Am s.cons hr d.trades 0 (G,O,[])).1 L (Am s.cons hr d.trades 0 (G,O,[])).2.1 (Am s.cons hr d.trades 0 (G,O,[])).2.2 r (Ba h es):=by
 obtain⟨hr6,hG,hL,w,w1,w2,ov,rv,hR,hg,hb,hov,hrv⟩:=H
 have n1:(r=5)=False:=eq_false (by omega)
 have n2:(r=6)=False:=eq_false (by omega)
 have l1:=Fb hR
 have l2:=Fb hg
 have l3:=Fb hb
 have hG0:(Am s.cons hr d.trades 0 (G,O,[])).1.length=s.cons.length:=by rw[Pn,hG]
 obtain⟨_,rfl⟩|⟨_,_,hne,_⟩:=hrv
 ·rcases hov with⟨rfl,rfl⟩|⟨io,w3,rfl,hio,hio6⟩
  ·obtain⟨o,h',e,rfl,wr,wG,wo,wR,ov,rv,T,hq⟩:=aeA (s:=s) (d:=d) (w:=false) (w1:=false) (w2:=false) (hr:=hr) (own:=own) (fuel:=fuel) (G:=G) (L:=L) (O:=[]) (w3:=false) hG rfl hd50 ho
   generalize hF:Am s.cons hr d.trades 0 (G,[],[])=F at *
   obtain⟨G',O',R⟩:=F
   obtain⟨hwG,hwr,rfl,hT⟩:=hq _ _ _ rfl
   clear hq
   dsimp only at hG0 ⊢
   rw[hG,hL]at e
   rcases hT with⟨rfl,rfl,rfl,rfl,rfl⟩|⟨hO',rfl,rfl,rfl,rfl⟩|⟨rfl,hR',rfl,rfl,rfl⟩|⟨hO',hR',rfl,rfl,rfl⟩
   ·simp only[af4]at e
    obtain⟨vG,hvG⟩:∃v,v=wG:=⟨_,rfl⟩
    obtain⟨vr,hvr⟩:∃v,v=wr:=⟨_,rfl⟩
    cases wr<;>cases wG<;>(try have:=hwG rfl)<;>(try subst G')<;>(
     refine⟨_,by simp only[Vc.down,seval,hR,hg,hb,n1,n2,e];exact rfl,?_⟩
     simp only[Ba,Du]
     refine⟨fun x hx=>by((try simp (discharger:=((try simp only[aaS]);omega)) only[abO,aaW,aa0,abT,abY,aa6,abB,aaS,ab9,acF,acK,acZ])<;>(first|exact rfl|exact rfl)),hr6,hG0,hL,(vr||w),(vG||w1),w2,.nils,.nils,?_,?_,?_,.inl ⟨rfl,rfl⟩,.inl ⟨rfl,rfl⟩⟩
     all_goals (subst vG;subst vr;((try simp (discharger:=((try simp only[aaS]);omega)) only[abO,aaW,aa0,abT,abY,aa6,abB,aaS,ab9,acF,acK,acZ])<;>(first|exact rfl|exact hR|exact hg|exact hb))))
   ·have hwt:wr=true:=by
     cases wr
     ·have:=hwr rfl;simp at this
     ·rfl
    subst hwt
    simp only[aaW,aa0]at e
    obtain⟨vG,hvG⟩:∃v,v=wG:=⟨_,rfl⟩
    cases wG<;>(try have:=hwG rfl)<;>(try subst G')<;>(
     refine⟨_,by simp only[Vc.down,seval,hR,hg,hb,n1,n2,e];exact rfl,?_⟩
     simp only[Ba,Du]
     refine⟨fun x hx=>by((try simp (discharger:=((try simp only[aaS]);omega)) only[abO,aaW,aa0,abT,abY,aa6,abB,aaS,ab9,acF,acK,acZ])<;>(first|exact rfl|exact rfl)),hr6,hG0,hL,true,(vG||w1),w2,.slr 5 h.length 0 O'.length,.nils,?_,?_,?_,.inr ⟨h.length,wo,rfl,?_,by omega⟩,.inl ⟨rfl,rfl⟩⟩
     all_goals (subst vG;((try simp (discharger:=((try simp only[aaS]);omega)) only[abO,aaW,aa0,abT,abY,aa6,abB,aaS,ab9,acF,acK,acZ])<;>(first|exact rfl|exact hR|exact hg|exact hb))))
   ·have hwt:wr=true:=by
     cases wr
     ·have:=hwr rfl;simp at this
     ·rfl
    subst hwt
    simp only[aaW,aa0]at e
    obtain⟨vG,hvG⟩:∃v,v=wG:=⟨_,rfl⟩
    cases wG<;>(try have:=hwG rfl)<;>(try subst G')<;>(
     refine⟨_,by simp only[Vc.down,seval,hR,hg,hb,n1,n2,e];exact rfl,?_⟩
     simp only[Ba,Du]
     refine⟨fun x hx=>by((try simp (discharger:=((try simp only[aaS]);omega)) only[abO,aaW,aa0,abT,abY,aa6,abB,aaS,ab9,acF,acK,acZ])<;>(first|exact rfl|exact rfl)),hr6,hG0,hL,true,(vG||w1),w2,.nils,.slr 1 h.length 0 R.length,?_,?_,?_,.inl ⟨rfl,rfl⟩,.inr ⟨h.length,wR,hR',rfl,?_,by omega,by simp⟩⟩
     all_goals (subst vG;((try simp (discharger:=((try simp only[aaS]);omega)) only[abO,aaW,aa0,abT,abY,aa6,abB,aaS,ab9,acF,acK,acZ])<;>(first|exact rfl|exact hR|exact hg|exact hb))))
   ·have hwt:wr=true:=by
     cases wr
     ·have:=hwr rfl;simp at this
     ·rfl
    subst hwt
    simp only[aaW,aa0]at e
    obtain⟨vG,hvG⟩:∃v,v=wG:=⟨_,rfl⟩
    cases wG<;>(try have:=hwG rfl)<;>(try subst G')<;>(
     refine⟨_,by simp only[Vc.down,seval,hR,hg,hb,n1,n2,e];exact rfl,?_⟩
     simp only[Ba,Du]
     refine⟨fun x hx=>by((try simp (discharger:=((try simp only[aaS]);omega)) only[abO,aaW,aa0,abT,abY,aa6,abB,aaS,ab9,acF,acK,acZ])<;>(first|exact rfl|exact rfl)),hr6,hG0,hL,true,(vG||w1),w2,.slr 5 h.length 0 O'.length,.slr 1 (h.length+1) 0 R.length,?_,?_,?_,.inr ⟨h.length,wo,rfl,?_,by omega⟩,.inr ⟨h.length+1,wR,hR',rfl,?_,by omega,by simp⟩⟩
     all_goals (subst vG;((try simp (discharger:=((try simp only[aaS]);omega)) only[abO,aaW,aa0,abT,abY,aa6,abB,aaS,ab9,acF,acK,acZ])<;>(first|exact rfl|exact hR|exact hg|exact hb))))
  ·have n3:(r=io)=False:=eq_false fun e=>by subst e;rw[hR]at hio;simp at hio
   have n4:(5=io)=False:=eq_false (by omega)
   have n5:(6=io)=False:=eq_false (by omega)
   have l4:=Fb hio
   have m1:r≠io:=of_eq_false n3
   obtain⟨o,h',e,rfl,wr,wG,wo,wR,ov,rv,T,hq⟩:=adT (s:=s) (d:=d) (w:=false) (w1:=false) (w2:=false) (w3:=false) (hr:=hr) (own:=own) (fuel:=fuel) (G:=G) (L:=L) (O:=O) hG hOl hd50 ho
   generalize hF:Am s.cons hr d.trades 0 (G,O,[])=F at *
   obtain⟨G',O',R⟩:=F
   obtain⟨hwG,hwr,rfl,hT⟩:=hq _ _ _ rfl
   clear hq
   dsimp only at hG0 ⊢
   rw[hG,hL]at e
   rcases hT with⟨rfl,rfl,rfl,rfl,rfl⟩|⟨hR',rfl,rfl,rfl,rfl⟩|⟨rfl,rfl,rfl,rfl⟩|⟨hR',rfl,rfl,rfl⟩
   ·simp only[aaW,aa0]at e
    obtain⟨vG,hvG⟩:∃v,v=wG:=⟨_,rfl⟩
    obtain⟨vr,hvr⟩:∃v,v=wr:=⟨_,rfl⟩
    obtain⟨vo,hvo⟩:∃v,v=wo:=⟨_,rfl⟩
    cases wr<;>cases wG<;>cases wo<;>(try have:=hwG rfl)<;>(try subst G')<;>(
     refine⟨_,by simp only[Vc.down,seval,hR,hg,hb,hio,n1,n2,n3,n4,n5,e];exact rfl,?_⟩
     simp only[Ba,Du]
     refine⟨fun x hx=>by((try simp (discharger:=((try simp only[aaS]);omega)) only[abO,aaW,aa0,abT,abY,aa6,abB,aaS,ab9,acF,acK,acZ])<;>(first|exact rfl|exact rfl)),hr6,hG0,hL,(vr||w),(vG||w1),w2,.slr 5 io 0 O'.length,.nils,?_,?_,?_,.inr ⟨io,(vo||w3),rfl,?_,hio6⟩,.inl ⟨rfl,rfl⟩⟩
     all_goals (subst vG;subst vr;subst vo;((try simp (discharger:=((try simp only[aaS]);omega)) only[abO,aaW,aa0,abT,abY,aa6,abB,aaS,ab9,acF,acK,acZ])<;>(first|exact rfl|exact hR|exact hg|exact hb|exact hio))))
   ·have hwt:wr=true:=by
     cases wr
     ·have:=hwr rfl;simp at this
     ·rfl
    subst hwt
    simp only[aaW,aa0]at e
    obtain⟨vG,hvG⟩:∃v,v=wG:=⟨_,rfl⟩
    obtain⟨vo,hvo⟩:∃v,v=wo:=⟨_,rfl⟩
    cases wG<;>cases wo<;>(try have:=hwG rfl)<;>(try subst G')<;>(
     refine⟨_,by simp only[Vc.down,seval,hR,hg,hb,hio,n1,n2,n3,n4,n5,e];exact rfl,?_⟩
     simp only[Ba,Du]
     refine⟨fun x hx=>by((try simp (discharger:=((try simp only[aaS]);omega)) only[abO,aaW,aa0,abT,abY,aa6,abB,aaS,ab9,acF,acK,acZ])<;>(first|exact rfl|exact rfl)),hr6,hG0,hL,true,(vG||w1),w2,.slr 5 io 0 O'.length,.slr 1 h.length 0 R.length,?_,?_,?_,.inr ⟨io,(vo||w3),rfl,?_,hio6⟩,.inr ⟨h.length,wR,hR',rfl,?_,by omega,by simp⟩⟩
     all_goals (subst vG;subst vo;((try simp (discharger:=((try simp only[aaS]);omega)) only[abO,aaW,aa0,abT,abY,aa6,abB,aaS,ab9,acF,acK,acZ])<;>(first|exact rfl|exact hR|exact hg|exact hb|exact hio))))
   ·have hwt:wr=true:=by
     cases wr
     ·have:=hwr rfl;simp at this
     ·rfl
    subst hwt
    simp only[aaW,aa0]at e
    obtain⟨vG,hvG⟩:∃v,v=wG:=⟨_,rfl⟩
    obtain⟨vo,hvo⟩:∃v,v=wo:=⟨_,rfl⟩
    cases wG<;>cases wo<;>(try have:=hwG rfl)<;>(try subst G')<;>(
     refine⟨_,by simp only[Vc.down,seval,hR,hg,hb,hio,n1,n2,n3,n4,n5,e];exact rfl,?_⟩
     simp only[Ba,Du]
     refine⟨fun x hx=>by((try simp (discharger:=((try simp only[aaS]);omega)) only[abO,aaW,aa0,abT,abY,aa6,abB,aaS,ab9,acF,acK,acZ])<;>(first|exact rfl|exact rfl)),hr6,hG0,hL,true,(vG||w1),w2,.slr 5 h.length 0 O'.length,.nils,?_,?_,?_,.inr ⟨h.length,vo,rfl,?_,by omega⟩,.inl ⟨rfl,rfl⟩⟩
     all_goals (subst vG;subst vo;((try simp (discharger:=((try simp only[aaS]);omega)) only[abO,aaW,aa0,abT,abY,aa6,abB,aaS,ab9,acF,acK,acZ])<;>(first|exact rfl|exact hR|exact hg|exact hb|exact hio))))
   ·have hwt:wr=true:=by
     cases wr
     ·have:=hwr rfl;simp at this
     ·rfl
    subst hwt
    simp only[aaW,aa0]at e
    obtain⟨vG,hvG⟩:∃v,v=wG:=⟨_,rfl⟩
    obtain⟨vo,hvo⟩:∃v,v=wo:=⟨_,rfl⟩
    cases wG<;>cases wo<;>(try have:=hwG rfl)<;>(try subst G')<;>(
     refine⟨_,by simp only[Vc.down,seval,hR,hg,hb,hio,n1,n2,n3,n4,n5,e];exact rfl,?_⟩
     simp only[Ba,Du]
     refine⟨fun x hx=>by((try simp (discharger:=((try simp only[aaS]);omega)) only[abO,aaW,aa0,abT,abY,aa6,abB,aaS,ab9,acF,acK,acZ])<;>(first|exact rfl|exact rfl)),hr6,hG0,hL,true,(vG||w1),w2,.slr 5 h.length 0 O'.length,.slr 1 (h.length+1) 0 R.length,?_,?_,?_,.inr ⟨h.length,vo,rfl,?_,by omega⟩,.inr ⟨h.length+1,wR,hR',rfl,?_,by omega,by simp⟩⟩
     all_goals (subst vG;subst vo;((try simp (discharger:=((try simp only[aaS]);omega)) only[abO,aaW,aa0,abT,abY,aa6,abB,aaS,ab9,acF,acK,acZ])<;>(first|exact rfl|exact hR|exact hg|exact hb|exact hio))))
 ·exact absurd rfl hne
end Go.Proofs.YtdbiogihimdpcaaGreatDoor
