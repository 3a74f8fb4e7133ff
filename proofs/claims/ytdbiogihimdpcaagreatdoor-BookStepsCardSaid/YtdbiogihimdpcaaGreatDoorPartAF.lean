/- The functions of the layer, walked. -/
import Derived.Test.YtdbiogihimdpcaaGreatDoorPartAE
set_option linter.unusedSimpArgs false
set_option linter.unusedVariables false
/- Layer 6: the bills of an hour. -/
namespace Go.Proofs.YtdbiogihimdpcaaGreatDoor
open Go.Ev Go
set_option maxRecDepth 100000
set_option maxHeartbeats 16000000
def mxx(a b:Int):Int:=if a<b then b else a
def chgW(c:BCon)(n:Int):Int:=IntKind.i64.wrap (IntKind.i64.wrap (c.fixed+IntKind.i64.wrap (c.inn*mxx 0 n))+IntKind.i64.wrap (c.out*mxx 0 (IntKind.i64.wrap (0-n))))
def cutW(c:BCon)(k:Int):Int:=IntKind.i64.wrap (c.cut*mxx k (IntKind.i64.wrap (0-k)))
def billS(hr:Int)(F W A:List Int)(i:Nat)(c:BCon)(L:List Int):List Int:=
 if inB hr c.lo c.hi=true then
  if c.firm=true then sI (sI L i (IntKind.i64.wrap (gI L i+chgW c (gI F i)))) i (IntKind.i64.wrap (gI (sI L i (IntKind.i64.wrap (gI L i+chgW c (gI F i)))) i-cutW c (IntKind.i64.wrap (gI W i-gI A i))))
  else sI L i (IntKind.i64.wrap (gI L i+chgW c (gI F i)))
 else L
theorem billS_length(hr:Int)(F W A:List Int)(i:Nat)(c:BCon)(L:List Int):(billS hr F W A i c L).length=L.length:=by
 unfold billS;split<;>(try split)<;>simp[sI_length]
theorem h_billsA{s:BStore}{d:BDay}{w w1 w2 w3 w4 w5 w6 w7:Bool}{hr own fuel:Int}{G L W A F R:List Int}{O:List BTrade}(hL:L.length=s.cons.length)(hW:W.length=s.cons.length)(hAl:A.length=s.cons.length)(hF:F.length=s.cons.length)(hl:s.cons.length≤1000):
 ClQ om' 110 [.ptr 0 0 0] [.live 19 false w [(rc s d hr (.slr 1 1 0 G.length) own fuel (.slr 1 2 0 L.length) .nils (.slr 1 3 0 W.length) (.slr 1 4 0 A.length) (.slr 1 5 0 F.length) .nils)],.live 1 true w1 (G.map iv),.live 1 true w2 (L.map iv),.live 1 true w4 (W.map iv),.live 1 true w6 (A.map iv),.live 1 true w7 (F.map iv)]
  fun o h'=>o=.ret (.tup [])∧∃wL,(wL=false→actF (billS hr F W A) s.cons 0 L=L)∧h'=[.live 19 false w [(rc s d hr (.slr 1 1 0 G.length) own fuel (.slr 1 2 0 L.length) .nils (.slr 1 3 0 W.length) (.slr 1 4 0 A.length) (.slr 1 5 0 F.length) .nils)],.live 1 true w1 (G.map iv),.live 1 true wL ((actF (billS hr F W A) s.cons 0 L).map iv),.live 1 true w4 (W.map iv),.live 1 true w6 (A.map iv),.live 1 true w7 (F.map iv)]:=by
 have hl':s.cons.length≤maxLen:=by unfold maxLen;omega
 refine stOf rfl Tryz.func110 rfl rfl ?_
 simp only[Tryz.f110]
 (have hb:=trivial;with_reducible repeat' (first|simp only[hb,Vc.down,seval,TY110.down,List.length_map]|refine fsp ?_ ?_<;>intro hb|refine fd ?_|fail))
 generalize hLP:CB.lp _ _ _ _ _=LP
 refine rn_use (h_active (s:=s) (d:=d) (hr:=hr) (y:=.yl 7) (billS hr F W A) (fun i a h=>(∃ww g,h=.live 19 false false [(rc s d hr (.slr 1 1 0 G.length) own fuel (.slr 1 2 0 L.length) .nils (.slr 1 3 0 W.length) (.slr 1 4 0 A.length) (.slr 1 5 0 F.length) .nils)]::.live 1 true false (G.map iv)::.live 1 true ww (a.map iv)::  .live 1 true false (W.map iv)::.live 1 true false (A.map iv)::.live 1 true false (F.map iv)::  .live 1 false false [[.ptr 0 0 0]]::LP::g∧quietH g=true∧a.length=s.cons.length∧(ww=false→a=L))) hl' ?_ ?_ ?_ ?_ L ?_) ?_
 ·rintro i a h ⟨ww,g,rfl,_,_,_⟩
  exact⟨_,_,_,_,_,_,_,_,_,_,_,rfl⟩
 ·rintro i a h fl w rows ⟨ww,g,rfl,hqg,hal,hwr⟩
  exact⟨ww,g++[.live 11 fl w rows],rfl,by rw[qh_app,hqg];rfl,hal,hwr⟩
 ·rintro i c a h hx hact ⟨ww,g,rfl,hqg,hal,hwr⟩
  have hil:i<s.cons.length:=(List.getElem?_eq_some_iff.1 hx).1
  have hii:((i:Int)<(s.cons.length:Int))=True:=eq_true (by omega)
  have at_:∀l:List Int,l.length=s.cons.length→l[i]?=some (gI l i):=fun l hl=>by have:=gI_at (l:=l) (i:=(i:Int)) (by simp;omega);simpa using this
  have aF:=at_ F hF
  have aW:=at_ W hW
  have aA:=at_ A hAl
  have aL:=at_ a hal
  have aL2:∀v,(sI a i v)[i]?=some (gI (sI a i v) i):=fun v=>at_ _ (by rw[sI_length];exact hal)
  have hiL:((i:Int)<(L.length:Int))=True:=eq_true (by omega)
  have hiW:((i:Int)<(W.length:Int))=True:=eq_true (by omega)
  have hiA:((i:Int)<(A.length:Int))=True:=eq_true (by omega)
  have hiF:((i:Int)<(F.length:Int))=True:=eq_true (by omega)
  have aS:∀(a:List Int) v,(a.map iv).set i [.int .i64 v]=(sI a i v).map iv:=fun a v=>by have:=sI_map a (i:Int) v;simpa using this
  have hal':(billS hr F W A i c a).length=s.cons.length:=by rw[billS_length];exact hal
  have round:∀g0:Heap,quietH g0=true→RnQ om' ([.int .i64 i,.agg [.bool c.firm,.int .i64 c.space,.int .i64 c.lo,.int .i64 c.hi,slv 3 true c.nn (c.rates.map BRate.cells),.int .i64 c.gas,.int .i64 c.fixed,.int .i64 c.inn,.int .i64 c.out,.int .i64 c.cut,.int .i64 c.lack]]++[.yl 7]) (.live 19 false false [(rc s d hr (.slr 1 1 0 G.length) own fuel (.slr 1 2 0 L.length) .nils (.slr 1 3 0 W.length) (.slr 1 4 0 A.length) (.slr 1 5 0 F.length) .nils)]::.live 1 true false (G.map iv)::.live 1 true false (a.map iv)::  .live 1 true false (W.map iv)::.live 1 true false (A.map iv)::.live 1 true false (F.map iv)::  .live 1 false false [[.ptr 0 0 0]]::LP::g0)
   fun o h'=>o=.ret (.bool true)∧∃g',h'=.live 19 false false [(rc s d hr (.slr 1 1 0 G.length) own fuel (.slr 1 2 0 L.length) .nils (.slr 1 3 0 W.length) (.slr 1 4 0 A.length) (.slr 1 5 0 F.length) .nils)]::.live 1 true false (G.map iv)::.live 1 true true ((billS hr F W A i c a).map iv)::  .live 1 true false (W.map iv)::.live 1 true false (A.map iv)::.live 1 true false (F.map iv)::  .live 1 false false [[.ptr 0 0 0]]::LP::(g0++g')∧quietH g'=true:=by
   subst hLP
   intro g0 hq0
   refine stRn rfl rfl ?_
   cases hf:c.firm with
   |true=>
    (have hb:=trivial;with_reducible repeat' (first|simp only[hb,Vc.down,seval,TY110.down,hx,hf,BCon.cells,hiL,hiW,hiA,hiF,aF,aW,aA,aL,aL2,aS,iv,List.length_map]|refine fsp ?_ ?_<;>intro hb|((refine fw_gdF (g0.length) 7 ?_ ?_);(simp (discharger:=decide) only[lg_nil,lg_cons,List.map_cons,List.map_nil,mf_cells,mf_blk,mf_all,ef_new,ef_cells,sft_lit,sft_add,List.length_cons,List.length_nil];kernel_rfl);intro _)|refine fdq ?_|fail))
    exact⟨_,_,rfl,rfl,[_],by rw[show billS hr F W A i c a=sI (sI a i (IntKind.i64.wrap (gI a i+chgW c (gI F i)))) i (IntKind.i64.wrap (gI (sI a i (IntKind.i64.wrap (gI a i+chgW c (gI F i)))) i-cutW c (IntKind.i64.wrap (gI W i-gI A i)))) by simp[billS,hact,hf]];rfl,rfl⟩
   |false=>
    (have hb:=trivial;with_reducible repeat' (first|simp only[hb,Vc.down,seval,TY110.down,hx,hf,BCon.cells,hiL,hiW,hiA,hiF,aF,aW,aA,aL,aL2,aS,iv,List.length_map]|refine fsp ?_ ?_<;>intro hb|((refine fw_gdF (g0.length) 7 ?_ ?_);(simp (discharger:=decide) only[lg_nil,lg_cons,List.map_cons,List.map_nil,mf_cells,mf_blk,mf_all,ef_new,ef_cells,sft_lit,sft_add,List.length_cons,List.length_nil];kernel_rfl);intro _)|refine fdq ?_|fail))
    exact⟨_,_,rfl,rfl,[_],by rw[show billS hr F W A i c a=sI a i (IntKind.i64.wrap (gI a i+chgW c (gI F i))) by simp[billS,hact,hf]];rfl,rfl⟩
  obtain⟨o,h',e,rfl,g',rfl,hq'⟩:=round (clH g) (quietH_cl hqg)
  have hst:=fun i l=>se_tail hqg i l
  have hLc:LP.clean=LP:=by rw[←hLP];rfl
  have hLq:LP.quiet LP=true:=by rw[←hLP];rfl
  simp only[List.cons_append,List.nil_append]at e
  have hgg:quietH (g++g')=true:=by rw[qh_app,hqg,hq'];rfl
  refine⟨_,by simp only[Vc.down,seval,hLc,e,hLq,hst];exact rfl,true,g++g',?_,hgg,hal',fun h=>by cases h⟩
  simp only[happ,happ_news,happ1,List.set_cons_succ,List.set_cons_zero]
  rfl
 ·rintro i c a h hx hact ⟨ww,g,rfl,hqg,hal,hwr⟩
  exact⟨ww,g,by simp[billS,hact],hqg,by simpa [billS,hact]using hal,by simpa [billS,hact]using hwr⟩
 ·exact⟨false,[],rfl,rfl,hL,fun _=>rfl⟩
 ·rintro o h' ⟨rfl,ww,g,rfl,hqg,hal,hwr⟩
  have hst:=fun i l=>se_tail hqg i l
  subst hLP
  cases ww with
  |false=>
   have hw0:=hwr rfl
   rw[hwr rfl]
   (have hb:=trivial;with_reducible repeat' (first|simp only[hb,Vc.down,seval,TY110.down,hst,happ_news,List.cons_append]|refine fsp ?_ ?_<;>intro hb|refine fd ?_|fail))
   exact⟨w2,by simp⟩
  |true=>
   (have hb:=trivial;with_reducible repeat' (first|simp only[hb,Vc.down,seval,TY110.down,hst,happ_news,List.cons_append]|refine fsp ?_ ?_<;>intro hb|refine fd ?_|fail))
   exact⟨true,(fun h=>by cases h),rfl⟩
theorem h_billsB{s:BStore}{d:BDay}{w w1 w2 w3 w4 w5 w6 w7:Bool}{hr own fuel:Int}{G L W A F R:List Int}{O:List BTrade}(hL:L.length=s.cons.length)(hW:W.length=s.cons.length)(hAl:A.length=s.cons.length)(hF:F.length=s.cons.length)(hl:s.cons.length≤1000):
 ClQ om' 110 [.ptr 0 0 0] [.live 19 false w [(rc s d hr (.slr 1 1 0 G.length) own fuel (.slr 1 2 0 L.length) (.slr 5 3 0 O.length) (.slr 1 4 0 W.length) (.slr 1 5 0 A.length) (.slr 1 6 0 F.length) .nils)],.live 1 true w1 (G.map iv),.live 1 true w2 (L.map iv),.live 5 true w3 (O.map BTrade.cells),.live 1 true w4 (W.map iv),.live 1 true w6 (A.map iv),.live 1 true w7 (F.map iv)]
  fun o h'=>o=.ret (.tup [])∧∃wL,(wL=false→actF (billS hr F W A) s.cons 0 L=L)∧h'=[.live 19 false w [(rc s d hr (.slr 1 1 0 G.length) own fuel (.slr 1 2 0 L.length) (.slr 5 3 0 O.length) (.slr 1 4 0 W.length) (.slr 1 5 0 A.length) (.slr 1 6 0 F.length) .nils)],.live 1 true w1 (G.map iv),.live 1 true wL ((actF (billS hr F W A) s.cons 0 L).map iv),.live 5 true w3 (O.map BTrade.cells),.live 1 true w4 (W.map iv),.live 1 true w6 (A.map iv),.live 1 true w7 (F.map iv)]:=by
 have hl':s.cons.length≤maxLen:=by unfold maxLen;omega
 refine stOf rfl Tryz.func110 rfl rfl ?_
 simp only[Tryz.f110]
 (have hb:=trivial;with_reducible repeat' (first|simp only[hb,Vc.down,seval,TY110.down,List.length_map]|refine fsp ?_ ?_<;>intro hb|refine fd ?_|fail))
 generalize hLP:CB.lp _ _ _ _ _=LP
 refine rn_use (h_active (s:=s) (d:=d) (hr:=hr) (y:=.yl 8) (billS hr F W A) (fun i a h=>(∃ww g,h=.live 19 false false [(rc s d hr (.slr 1 1 0 G.length) own fuel (.slr 1 2 0 L.length) (.slr 5 3 0 O.length) (.slr 1 4 0 W.length) (.slr 1 5 0 A.length) (.slr 1 6 0 F.length) .nils)]::.live 1 true false (G.map iv)::.live 1 true ww (a.map iv)::.live 5 true false (O.map BTrade.cells)::.live 1 true false (W.map iv)::.live 1 true false (A.map iv)::.live 1 true false (F.map iv)::  .live 1 false false [[.ptr 0 0 0]]::LP::g∧quietH g=true∧a.length=s.cons.length∧(ww=false→a=L))) hl' ?_ ?_ ?_ ?_ L ?_) ?_
 ·rintro i a h ⟨ww,g,rfl,_,_,_⟩
  exact⟨_,_,_,_,_,_,_,_,_,_,_,rfl⟩
 ·rintro i a h fl w rows ⟨ww,g,rfl,hqg,hal,hwr⟩
  exact⟨ww,g++[.live 11 fl w rows],rfl,by rw[qh_app,hqg];rfl,hal,hwr⟩
 ·rintro i c a h hx hact ⟨ww,g,rfl,hqg,hal,hwr⟩
  have hil:i<s.cons.length:=(List.getElem?_eq_some_iff.1 hx).1
  have hii:((i:Int)<(s.cons.length:Int))=True:=eq_true (by omega)
  have at_:∀l:List Int,l.length=s.cons.length→l[i]?=some (gI l i):=fun l hl=>by have:=gI_at (l:=l) (i:=(i:Int)) (by simp;omega);simpa using this
  have aF:=at_ F hF
  have aW:=at_ W hW
  have aA:=at_ A hAl
  have aL:=at_ a hal
  have aL2:∀v,(sI a i v)[i]?=some (gI (sI a i v) i):=fun v=>at_ _ (by rw[sI_length];exact hal)
  have hiL:((i:Int)<(L.length:Int))=True:=eq_true (by omega)
  have hiW:((i:Int)<(W.length:Int))=True:=eq_true (by omega)
  have hiA:((i:Int)<(A.length:Int))=True:=eq_true (by omega)
  have hiF:((i:Int)<(F.length:Int))=True:=eq_true (by omega)
  have aS:∀(a:List Int) v,(a.map iv).set i [.int .i64 v]=(sI a i v).map iv:=fun a v=>by have:=sI_map a (i:Int) v;simpa using this
  have hal':(billS hr F W A i c a).length=s.cons.length:=by rw[billS_length];exact hal
  have round:∀g0:Heap,quietH g0=true→RnQ om' ([.int .i64 i,.agg [.bool c.firm,.int .i64 c.space,.int .i64 c.lo,.int .i64 c.hi,slv 3 true c.nn (c.rates.map BRate.cells),.int .i64 c.gas,.int .i64 c.fixed,.int .i64 c.inn,.int .i64 c.out,.int .i64 c.cut,.int .i64 c.lack]]++[.yl 8]) (.live 19 false false [(rc s d hr (.slr 1 1 0 G.length) own fuel (.slr 1 2 0 L.length) (.slr 5 3 0 O.length) (.slr 1 4 0 W.length) (.slr 1 5 0 A.length) (.slr 1 6 0 F.length) .nils)]::.live 1 true false (G.map iv)::.live 1 true false (a.map iv)::.live 5 true false (O.map BTrade.cells)::.live 1 true false (W.map iv)::.live 1 true false (A.map iv)::.live 1 true false (F.map iv)::  .live 1 false false [[.ptr 0 0 0]]::LP::g0)
   fun o h'=>o=.ret (.bool true)∧∃g',h'=.live 19 false false [(rc s d hr (.slr 1 1 0 G.length) own fuel (.slr 1 2 0 L.length) (.slr 5 3 0 O.length) (.slr 1 4 0 W.length) (.slr 1 5 0 A.length) (.slr 1 6 0 F.length) .nils)]::.live 1 true false (G.map iv)::.live 1 true true ((billS hr F W A i c a).map iv)::.live 5 true false (O.map BTrade.cells)::.live 1 true false (W.map iv)::.live 1 true false (A.map iv)::.live 1 true false (F.map iv)::  .live 1 false false [[.ptr 0 0 0]]::LP::(g0++g')∧quietH g'=true:=by
   subst hLP
   intro g0 hq0
   refine stRn rfl rfl ?_
   cases hf:c.firm with
   |true=>
    (have hb:=trivial;with_reducible repeat' (first|simp only[hb,Vc.down,seval,TY110.down,hx,hf,BCon.cells,hiL,hiW,hiA,hiF,aF,aW,aA,aL,aL2,aS,iv,List.length_map]|refine fsp ?_ ?_<;>intro hb|((refine fw_gdF (g0.length) 7 ?_ ?_);(simp (discharger:=decide) only[lg_nil,lg_cons,List.map_cons,List.map_nil,mf_cells,mf_blk,mf_all,ef_new,ef_cells,sft_lit,sft_add,List.length_cons,List.length_nil];kernel_rfl);intro _)|refine fdq ?_|fail))
    exact⟨_,_,rfl,rfl,[_],by rw[show billS hr F W A i c a=sI (sI a i (IntKind.i64.wrap (gI a i+chgW c (gI F i)))) i (IntKind.i64.wrap (gI (sI a i (IntKind.i64.wrap (gI a i+chgW c (gI F i)))) i-cutW c (IntKind.i64.wrap (gI W i-gI A i)))) by simp[billS,hact,hf]];rfl,rfl⟩
   |false=>
    (have hb:=trivial;with_reducible repeat' (first|simp only[hb,Vc.down,seval,TY110.down,hx,hf,BCon.cells,hiL,hiW,hiA,hiF,aF,aW,aA,aL,aL2,aS,iv,List.length_map]|refine fsp ?_ ?_<;>intro hb|((refine fw_gdF (g0.length) 7 ?_ ?_);(simp (discharger:=decide) only[lg_nil,lg_cons,List.map_cons,List.map_nil,mf_cells,mf_blk,mf_all,ef_new,ef_cells,sft_lit,sft_add,List.length_cons,List.length_nil];kernel_rfl);intro _)|refine fdq ?_|fail))
    exact⟨_,_,rfl,rfl,[_],by rw[show billS hr F W A i c a=sI a i (IntKind.i64.wrap (gI a i+chgW c (gI F i))) by simp[billS,hact,hf]];rfl,rfl⟩
  obtain⟨o,h',e,rfl,g',rfl,hq'⟩:=round (clH g) (quietH_cl hqg)
  have hst:=fun i l=>se_tail hqg i l
  have hLc:LP.clean=LP:=by rw[←hLP];rfl
  have hLq:LP.quiet LP=true:=by rw[←hLP];rfl
  simp only[List.cons_append,List.nil_append]at e
  have hgg:quietH (g++g')=true:=by rw[qh_app,hqg,hq'];rfl
  refine⟨_,by simp only[Vc.down,seval,hLc,e,hLq,hst];exact rfl,true,g++g',?_,hgg,hal',fun h=>by cases h⟩
  simp only[happ,happ_news,happ1,List.set_cons_succ,List.set_cons_zero]
  rfl
 ·rintro i c a h hx hact ⟨ww,g,rfl,hqg,hal,hwr⟩
  exact⟨ww,g,by simp[billS,hact],hqg,by simpa [billS,hact]using hal,by simpa [billS,hact]using hwr⟩
 ·exact⟨false,[],rfl,rfl,hL,fun _=>rfl⟩
 ·rintro o h' ⟨rfl,ww,g,rfl,hqg,hal,hwr⟩
  have hst:=fun i l=>se_tail hqg i l
  subst hLP
  cases ww with
  |false=>
   have hw0:=hwr rfl
   rw[hwr rfl]
   (have hb:=trivial;with_reducible repeat' (first|simp only[hb,Vc.down,seval,TY110.down,hst,happ_news,List.cons_append]|refine fsp ?_ ?_<;>intro hb|refine fd ?_|fail))
   exact⟨w2,by simp⟩
  |true=>
   (have hb:=trivial;with_reducible repeat' (first|simp only[hb,Vc.down,seval,TY110.down,hst,happ_news,List.cons_append]|refine fsp ?_ ?_<;>intro hb|refine fd ?_|fail))
   exact⟨true,(fun h=>by cases h),rfl⟩
theorem h_billsC{s:BStore}{d:BDay}{w w1 w2 w3 w4 w5 w6 w7:Bool}{hr own fuel:Int}{G L W A F R:List Int}{O:List BTrade}(hL:L.length=s.cons.length)(hW:W.length=s.cons.length)(hAl:A.length=s.cons.length)(hF:F.length=s.cons.length)(hl:s.cons.length≤1000):
 ClQ om' 110 [.ptr 0 0 0] [.live 19 false w [(rc s d hr (.slr 1 1 0 G.length) own fuel (.slr 1 2 0 L.length) .nils (.slr 1 3 0 W.length) (.slr 1 4 0 A.length) (.slr 1 5 0 F.length) (.slr 1 6 0 R.length))],.live 1 true w1 (G.map iv),.live 1 true w2 (L.map iv),.live 1 true w4 (W.map iv),.live 1 true w6 (A.map iv),.live 1 true w7 (F.map iv),.live 1 true w5 (R.map iv)]
  fun o h'=>o=.ret (.tup [])∧∃wL,(wL=false→actF (billS hr F W A) s.cons 0 L=L)∧h'=[.live 19 false w [(rc s d hr (.slr 1 1 0 G.length) own fuel (.slr 1 2 0 L.length) .nils (.slr 1 3 0 W.length) (.slr 1 4 0 A.length) (.slr 1 5 0 F.length) (.slr 1 6 0 R.length))],.live 1 true w1 (G.map iv),.live 1 true wL ((actF (billS hr F W A) s.cons 0 L).map iv),.live 1 true w4 (W.map iv),.live 1 true w6 (A.map iv),.live 1 true w7 (F.map iv),.live 1 true w5 (R.map iv)]:=by
 have hl':s.cons.length≤maxLen:=by unfold maxLen;omega
 refine stOf rfl Tryz.func110 rfl rfl ?_
 simp only[Tryz.f110]
 (have hb:=trivial;with_reducible repeat' (first|simp only[hb,Vc.down,seval,TY110.down,List.length_map]|refine fsp ?_ ?_<;>intro hb|refine fd ?_|fail))
 generalize hLP:CB.lp _ _ _ _ _=LP
 refine rn_use (h_active (s:=s) (d:=d) (hr:=hr) (y:=.yl 8) (billS hr F W A) (fun i a h=>(∃ww g,h=.live 19 false false [(rc s d hr (.slr 1 1 0 G.length) own fuel (.slr 1 2 0 L.length) .nils (.slr 1 3 0 W.length) (.slr 1 4 0 A.length) (.slr 1 5 0 F.length) (.slr 1 6 0 R.length))]::.live 1 true false (G.map iv)::.live 1 true ww (a.map iv)::  .live 1 true false (W.map iv)::.live 1 true false (A.map iv)::.live 1 true false (F.map iv)::.live 1 true false (R.map iv)::.live 1 false false [[.ptr 0 0 0]]::LP::g∧quietH g=true∧a.length=s.cons.length∧(ww=false→a=L))) hl' ?_ ?_ ?_ ?_ L ?_) ?_
 ·rintro i a h ⟨ww,g,rfl,_,_,_⟩
  exact⟨_,_,_,_,_,_,_,_,_,_,_,rfl⟩
 ·rintro i a h fl w rows ⟨ww,g,rfl,hqg,hal,hwr⟩
  exact⟨ww,g++[.live 11 fl w rows],rfl,by rw[qh_app,hqg];rfl,hal,hwr⟩
 ·rintro i c a h hx hact ⟨ww,g,rfl,hqg,hal,hwr⟩
  have hil:i<s.cons.length:=(List.getElem?_eq_some_iff.1 hx).1
  have hii:((i:Int)<(s.cons.length:Int))=True:=eq_true (by omega)
  have at_:∀l:List Int,l.length=s.cons.length→l[i]?=some (gI l i):=fun l hl=>by have:=gI_at (l:=l) (i:=(i:Int)) (by simp;omega);simpa using this
  have aF:=at_ F hF
  have aW:=at_ W hW
  have aA:=at_ A hAl
  have aL:=at_ a hal
  have aL2:∀v,(sI a i v)[i]?=some (gI (sI a i v) i):=fun v=>at_ _ (by rw[sI_length];exact hal)
  have hiL:((i:Int)<(L.length:Int))=True:=eq_true (by omega)
  have hiW:((i:Int)<(W.length:Int))=True:=eq_true (by omega)
  have hiA:((i:Int)<(A.length:Int))=True:=eq_true (by omega)
  have hiF:((i:Int)<(F.length:Int))=True:=eq_true (by omega)
  have aS:∀(a:List Int) v,(a.map iv).set i [.int .i64 v]=(sI a i v).map iv:=fun a v=>by have:=sI_map a (i:Int) v;simpa using this
  have hal':(billS hr F W A i c a).length=s.cons.length:=by rw[billS_length];exact hal
  have round:∀g0:Heap,quietH g0=true→RnQ om' ([.int .i64 i,.agg [.bool c.firm,.int .i64 c.space,.int .i64 c.lo,.int .i64 c.hi,slv 3 true c.nn (c.rates.map BRate.cells),.int .i64 c.gas,.int .i64 c.fixed,.int .i64 c.inn,.int .i64 c.out,.int .i64 c.cut,.int .i64 c.lack]]++[.yl 8]) (.live 19 false false [(rc s d hr (.slr 1 1 0 G.length) own fuel (.slr 1 2 0 L.length) .nils (.slr 1 3 0 W.length) (.slr 1 4 0 A.length) (.slr 1 5 0 F.length) (.slr 1 6 0 R.length))]::.live 1 true false (G.map iv)::.live 1 true false (a.map iv)::  .live 1 true false (W.map iv)::.live 1 true false (A.map iv)::.live 1 true false (F.map iv)::.live 1 true false (R.map iv)::.live 1 false false [[.ptr 0 0 0]]::LP::g0)
   fun o h'=>o=.ret (.bool true)∧∃g',h'=.live 19 false false [(rc s d hr (.slr 1 1 0 G.length) own fuel (.slr 1 2 0 L.length) .nils (.slr 1 3 0 W.length) (.slr 1 4 0 A.length) (.slr 1 5 0 F.length) (.slr 1 6 0 R.length))]::.live 1 true false (G.map iv)::.live 1 true true ((billS hr F W A i c a).map iv)::  .live 1 true false (W.map iv)::.live 1 true false (A.map iv)::.live 1 true false (F.map iv)::.live 1 true false (R.map iv)::.live 1 false false [[.ptr 0 0 0]]::LP::(g0++g')∧quietH g'=true:=by
   subst hLP
   intro g0 hq0
   refine stRn rfl rfl ?_
   cases hf:c.firm with
   |true=>
    (have hb:=trivial;with_reducible repeat' (first|simp only[hb,Vc.down,seval,TY110.down,hx,hf,BCon.cells,hiL,hiW,hiA,hiF,aF,aW,aA,aL,aL2,aS,iv,List.length_map]|refine fsp ?_ ?_<;>intro hb|((refine fw_gdF (g0.length) 7 ?_ ?_);(simp (discharger:=decide) only[lg_nil,lg_cons,List.map_cons,List.map_nil,mf_cells,mf_blk,mf_all,ef_new,ef_cells,sft_lit,sft_add,List.length_cons,List.length_nil];kernel_rfl);intro _)|refine fdq ?_|fail))
    exact⟨_,_,rfl,rfl,[_],by rw[show billS hr F W A i c a=sI (sI a i (IntKind.i64.wrap (gI a i+chgW c (gI F i)))) i (IntKind.i64.wrap (gI (sI a i (IntKind.i64.wrap (gI a i+chgW c (gI F i)))) i-cutW c (IntKind.i64.wrap (gI W i-gI A i)))) by simp[billS,hact,hf]];rfl,rfl⟩
   |false=>
    (have hb:=trivial;with_reducible repeat' (first|simp only[hb,Vc.down,seval,TY110.down,hx,hf,BCon.cells,hiL,hiW,hiA,hiF,aF,aW,aA,aL,aL2,aS,iv,List.length_map]|refine fsp ?_ ?_<;>intro hb|((refine fw_gdF (g0.length) 7 ?_ ?_);(simp (discharger:=decide) only[lg_nil,lg_cons,List.map_cons,List.map_nil,mf_cells,mf_blk,mf_all,ef_new,ef_cells,sft_lit,sft_add,List.length_cons,List.length_nil];kernel_rfl);intro _)|refine fdq ?_|fail))
    exact⟨_,_,rfl,rfl,[_],by rw[show billS hr F W A i c a=sI a i (IntKind.i64.wrap (gI a i+chgW c (gI F i))) by simp[billS,hact,hf]];rfl,rfl⟩
  obtain⟨o,h',e,rfl,g',rfl,hq'⟩:=round (clH g) (quietH_cl hqg)
  have hst:=fun i l=>se_tail hqg i l
  have hLc:LP.clean=LP:=by rw[←hLP];rfl
  have hLq:LP.quiet LP=true:=by rw[←hLP];rfl
  simp only[List.cons_append,List.nil_append]at e
  have hgg:quietH (g++g')=true:=by rw[qh_app,hqg,hq'];rfl
  refine⟨_,by simp only[Vc.down,seval,hLc,e,hLq,hst];exact rfl,true,g++g',?_,hgg,hal',fun h=>by cases h⟩
  simp only[happ,happ_news,happ1,List.set_cons_succ,List.set_cons_zero]
  rfl
 ·rintro i c a h hx hact ⟨ww,g,rfl,hqg,hal,hwr⟩
  exact⟨ww,g,by simp[billS,hact],hqg,by simpa [billS,hact]using hal,by simpa [billS,hact]using hwr⟩
 ·exact⟨false,[],rfl,rfl,hL,fun _=>rfl⟩
 ·rintro o h' ⟨rfl,ww,g,rfl,hqg,hal,hwr⟩
  have hst:=fun i l=>se_tail hqg i l
  subst hLP
  cases ww with
  |false=>
   have hw0:=hwr rfl
   rw[hwr rfl]
   (have hb:=trivial;with_reducible repeat' (first|simp only[hb,Vc.down,seval,TY110.down,hst,happ_news,List.cons_append]|refine fsp ?_ ?_<;>intro hb|refine fd ?_|fail))
   exact⟨w2,by simp⟩
  |true=>
   (have hb:=trivial;with_reducible repeat' (first|simp only[hb,Vc.down,seval,TY110.down,hst,happ_news,List.cons_append]|refine fsp ?_ ?_<;>intro hb|refine fd ?_|fail))
   exact⟨true,(fun h=>by cases h),rfl⟩
theorem h_billsD{s:BStore}{d:BDay}{w w1 w2 w3 w4 w5 w6 w7:Bool}{hr own fuel:Int}{G L W A F R:List Int}{O:List BTrade}(hL:L.length=s.cons.length)(hW:W.length=s.cons.length)(hAl:A.length=s.cons.length)(hF:F.length=s.cons.length)(hl:s.cons.length≤1000):
 ClQ om' 110 [.ptr 0 0 0] [.live 19 false w [(rc s d hr (.slr 1 1 0 G.length) own fuel (.slr 1 2 0 L.length) (.slr 5 3 0 O.length) (.slr 1 4 0 W.length) (.slr 1 5 0 A.length) (.slr 1 6 0 F.length) (.slr 1 7 0 R.length))],.live 1 true w1 (G.map iv),.live 1 true w2 (L.map iv),.live 5 true w3 (O.map BTrade.cells),.live 1 true w4 (W.map iv),.live 1 true w6 (A.map iv),.live 1 true w7 (F.map iv),.live 1 true w5 (R.map iv)]
  fun o h'=>o=.ret (.tup [])∧∃wL,(wL=false→actF (billS hr F W A) s.cons 0 L=L)∧h'=[.live 19 false w [(rc s d hr (.slr 1 1 0 G.length) own fuel (.slr 1 2 0 L.length) (.slr 5 3 0 O.length) (.slr 1 4 0 W.length) (.slr 1 5 0 A.length) (.slr 1 6 0 F.length) (.slr 1 7 0 R.length))],.live 1 true w1 (G.map iv),.live 1 true wL ((actF (billS hr F W A) s.cons 0 L).map iv),.live 5 true w3 (O.map BTrade.cells),.live 1 true w4 (W.map iv),.live 1 true w6 (A.map iv),.live 1 true w7 (F.map iv),.live 1 true w5 (R.map iv)]:=by
 have hl':s.cons.length≤maxLen:=by unfold maxLen;omega
 refine stOf rfl Tryz.func110 rfl rfl ?_
 simp only[Tryz.f110]
 (have hb:=trivial;with_reducible repeat' (first|simp only[hb,Vc.down,seval,TY110.down,List.length_map]|refine fsp ?_ ?_<;>intro hb|refine fd ?_|fail))
 generalize hLP:CB.lp _ _ _ _ _=LP
 refine rn_use (h_active (s:=s) (d:=d) (hr:=hr) (y:=.yl 9) (billS hr F W A) (fun i a h=>(∃ww g,h=.live 19 false false [(rc s d hr (.slr 1 1 0 G.length) own fuel (.slr 1 2 0 L.length) (.slr 5 3 0 O.length) (.slr 1 4 0 W.length) (.slr 1 5 0 A.length) (.slr 1 6 0 F.length) (.slr 1 7 0 R.length))]::.live 1 true false (G.map iv)::.live 1 true ww (a.map iv)::.live 5 true false (O.map BTrade.cells)::.live 1 true false (W.map iv)::.live 1 true false (A.map iv)::.live 1 true false (F.map iv)::.live 1 true false (R.map iv)::.live 1 false false [[.ptr 0 0 0]]::LP::g∧quietH g=true∧a.length=s.cons.length∧(ww=false→a=L))) hl' ?_ ?_ ?_ ?_ L ?_) ?_
 ·rintro i a h ⟨ww,g,rfl,_,_,_⟩
  exact⟨_,_,_,_,_,_,_,_,_,_,_,rfl⟩
 ·rintro i a h fl w rows ⟨ww,g,rfl,hqg,hal,hwr⟩
  exact⟨ww,g++[.live 11 fl w rows],rfl,by rw[qh_app,hqg];rfl,hal,hwr⟩
 ·rintro i c a h hx hact ⟨ww,g,rfl,hqg,hal,hwr⟩
  have hil:i<s.cons.length:=(List.getElem?_eq_some_iff.1 hx).1
  have hii:((i:Int)<(s.cons.length:Int))=True:=eq_true (by omega)
  have at_:∀l:List Int,l.length=s.cons.length→l[i]?=some (gI l i):=fun l hl=>by have:=gI_at (l:=l) (i:=(i:Int)) (by simp;omega);simpa using this
  have aF:=at_ F hF
  have aW:=at_ W hW
  have aA:=at_ A hAl
  have aL:=at_ a hal
  have aL2:∀v,(sI a i v)[i]?=some (gI (sI a i v) i):=fun v=>at_ _ (by rw[sI_length];exact hal)
  have hiL:((i:Int)<(L.length:Int))=True:=eq_true (by omega)
  have hiW:((i:Int)<(W.length:Int))=True:=eq_true (by omega)
  have hiA:((i:Int)<(A.length:Int))=True:=eq_true (by omega)
  have hiF:((i:Int)<(F.length:Int))=True:=eq_true (by omega)
  have aS:∀(a:List Int) v,(a.map iv).set i [.int .i64 v]=(sI a i v).map iv:=fun a v=>by have:=sI_map a (i:Int) v;simpa using this
  have hal':(billS hr F W A i c a).length=s.cons.length:=by rw[billS_length];exact hal
  have round:∀g0:Heap,quietH g0=true→RnQ om' ([.int .i64 i,.agg [.bool c.firm,.int .i64 c.space,.int .i64 c.lo,.int .i64 c.hi,slv 3 true c.nn (c.rates.map BRate.cells),.int .i64 c.gas,.int .i64 c.fixed,.int .i64 c.inn,.int .i64 c.out,.int .i64 c.cut,.int .i64 c.lack]]++[.yl 9]) (.live 19 false false [(rc s d hr (.slr 1 1 0 G.length) own fuel (.slr 1 2 0 L.length) (.slr 5 3 0 O.length) (.slr 1 4 0 W.length) (.slr 1 5 0 A.length) (.slr 1 6 0 F.length) (.slr 1 7 0 R.length))]::.live 1 true false (G.map iv)::.live 1 true false (a.map iv)::.live 5 true false (O.map BTrade.cells)::.live 1 true false (W.map iv)::.live 1 true false (A.map iv)::.live 1 true false (F.map iv)::.live 1 true false (R.map iv)::.live 1 false false [[.ptr 0 0 0]]::LP::g0)
   fun o h'=>o=.ret (.bool true)∧∃g',h'=.live 19 false false [(rc s d hr (.slr 1 1 0 G.length) own fuel (.slr 1 2 0 L.length) (.slr 5 3 0 O.length) (.slr 1 4 0 W.length) (.slr 1 5 0 A.length) (.slr 1 6 0 F.length) (.slr 1 7 0 R.length))]::.live 1 true false (G.map iv)::.live 1 true true ((billS hr F W A i c a).map iv)::.live 5 true false (O.map BTrade.cells)::.live 1 true false (W.map iv)::.live 1 true false (A.map iv)::.live 1 true false (F.map iv)::.live 1 true false (R.map iv)::.live 1 false false [[.ptr 0 0 0]]::LP::(g0++g')∧quietH g'=true:=by
   subst hLP
   intro g0 hq0
   refine stRn rfl rfl ?_
   cases hf:c.firm with
   |true=>
    (have hb:=trivial;with_reducible repeat' (first|simp only[hb,Vc.down,seval,TY110.down,hx,hf,BCon.cells,hiL,hiW,hiA,hiF,aF,aW,aA,aL,aL2,aS,iv,List.length_map]|refine fsp ?_ ?_<;>intro hb|((refine fw_gdF (g0.length) 7 ?_ ?_);(simp (discharger:=decide) only[lg_nil,lg_cons,List.map_cons,List.map_nil,mf_cells,mf_blk,mf_all,ef_new,ef_cells,sft_lit,sft_add,List.length_cons,List.length_nil];kernel_rfl);intro _)|refine fdq ?_|fail))
    exact⟨_,_,rfl,rfl,[_],by rw[show billS hr F W A i c a=sI (sI a i (IntKind.i64.wrap (gI a i+chgW c (gI F i)))) i (IntKind.i64.wrap (gI (sI a i (IntKind.i64.wrap (gI a i+chgW c (gI F i)))) i-cutW c (IntKind.i64.wrap (gI W i-gI A i)))) by simp[billS,hact,hf]];rfl,rfl⟩
   |false=>
    (have hb:=trivial;with_reducible repeat' (first|simp only[hb,Vc.down,seval,TY110.down,hx,hf,BCon.cells,hiL,hiW,hiA,hiF,aF,aW,aA,aL,aL2,aS,iv,List.length_map]|refine fsp ?_ ?_<;>intro hb|((refine fw_gdF (g0.length) 7 ?_ ?_);(simp (discharger:=decide) only[lg_nil,lg_cons,List.map_cons,List.map_nil,mf_cells,mf_blk,mf_all,ef_new,ef_cells,sft_lit,sft_add,List.length_cons,List.length_nil];kernel_rfl);intro _)|refine fdq ?_|fail))
    exact⟨_,_,rfl,rfl,[_],by rw[show billS hr F W A i c a=sI a i (IntKind.i64.wrap (gI a i+chgW c (gI F i))) by simp[billS,hact,hf]];rfl,rfl⟩
  obtain⟨o,h',e,rfl,g',rfl,hq'⟩:=round (clH g) (quietH_cl hqg)
  have hst:=fun i l=>se_tail hqg i l
  have hLc:LP.clean=LP:=by rw[←hLP];rfl
  have hLq:LP.quiet LP=true:=by rw[←hLP];rfl
  simp only[List.cons_append,List.nil_append]at e
  have hgg:quietH (g++g')=true:=by rw[qh_app,hqg,hq'];rfl
  refine⟨_,by simp only[Vc.down,seval,hLc,e,hLq,hst];exact rfl,true,g++g',?_,hgg,hal',fun h=>by cases h⟩
  simp only[happ,happ_news,happ1,List.set_cons_succ,List.set_cons_zero]
  rfl
 ·rintro i c a h hx hact ⟨ww,g,rfl,hqg,hal,hwr⟩
  exact⟨ww,g,by simp[billS,hact],hqg,by simpa [billS,hact]using hal,by simpa [billS,hact]using hwr⟩
 ·exact⟨false,[],rfl,rfl,hL,fun _=>rfl⟩
 ·rintro o h' ⟨rfl,ww,g,rfl,hqg,hal,hwr⟩
  have hst:=fun i l=>se_tail hqg i l
  subst hLP
  cases ww with
  |false=>
   have hw0:=hwr rfl
   rw[hwr rfl]
   (have hb:=trivial;with_reducible repeat' (first|simp only[hb,Vc.down,seval,TY110.down,hst,happ_news,List.cons_append]|refine fsp ?_ ?_<;>intro hb|refine fd ?_|fail))
   exact⟨w2,by simp⟩
  |true=>
   (have hb:=trivial;with_reducible repeat' (first|simp only[hb,Vc.down,seval,TY110.down,hst,happ_news,List.cons_append]|refine fsp ?_ ?_<;>intro hb|refine fd ?_|fail))
   exact⟨true,(fun h=>by cases h),rfl⟩
/-- Loans in a heap: nil, or a block. -/
def OvS(O:List BTrade)(ov:AV)(h:Heap):Prop:=(O=[]∧ov=.nils)∨∃b w,ov=.slr 5 b 0 O.length∧h[b]?=some (.live 5 true w (O.map BTrade.cells))∧6<b
/-- What is refused: nil, or a block, none of some. -/
def RvS(R:List Int)(rv:AV)(ex:List Nat)(h:Heap):Prop:=(R=[]∧rv=.nils)∨∃b w,R≠[]∧rv=.slr 1 b 0 R.length∧h[b]?=some (.live 1 true w (R.map iv))∧6<b∧b∉ex
def HsA(s:BStore)(d:BDay)(hr own fuel:Int)(G L:List Int)(O:List BTrade)(R:List Int)(r:Nat)(h:Heap):Prop:=
 6<r∧G.length=s.cons.length∧L.length=s.cons.length∧∃w w1 w2 ov rv,h[r]?=some (.live 19 false w [(rc s d hr (.slr 1 5 0 s.cons.length) own fuel (.slr 1 6 0 s.cons.length) ov .nils .nils .nils rv)])∧h[5]?=some (.live 1 true w1 (G.map iv))∧h[6]?=some (.live 1 true w2 (L.map iv))∧OvS O ov h∧RvS R rv [] h
theorem gs_eq{h:Heap}{b:Nat}{c d:CB}(hb:h[b]?=some d):(h.set b c)[b]?=some c:=by
 rw[List.getElem?_set_self (List.getElem?_eq_some_iff.1 hb).1]
def Bh5(h h':Heap):Prop:=∀x,x<5→h'[x]?=h[x]?
theorem Bh5.refl(h:Heap):Bh5 h h:=fun _ _=>rfl
theorem Bh5.set{h h':Heap}(k:Bh5 h h'){b:Nat}(hb:4<b)(c:CB):Bh5 h (h'.set b c):=fun x hx=>by
 rw[List.getElem?_set_ne (by omega)];exact k x hx
theorem gs_ne{h:Heap}{b x:Nat}{c:CB}(hb:b≠x):(h.set b c)[x]?=h[x]?:=List.getElem?_set_ne hb
theorem h_lt{h:Heap}{x:Nat}{d:CB}(hx:h[x]?=some d):x<h.length:=(List.getElem?_eq_some_iff.1 hx).1
theorem loansF_length(cs:List BCon)(hr:Int):∀(O:List BTrade) (G L:List Int) (p:List BTrade),(loansF cs hr O (G,L,p)).1.length=G.length∧(loansF cs hr O (G,L,p)).2.1.length=L.length
 | [],_,_,_=>⟨rfl,rfl⟩
 |t::O,G,L,p=>by
  simp only[loansF]
  split
  ·have:=loansF_length cs hr O (loanG cs t G) (loanL cs t G L) p
   rw[loanG_length,loanL_length]at this
   exact this
  ·exact loansF_length cs hr O G L (p++[t])
theorem st_loans{s:BStore}{d:BDay}{hr own fuel:Int}{h:Heap}{r:Nat}{G L:List Int}{O:List BTrade}(hOl:O.length≤1000)(ho:∀t∈O,t.ok s.cons.length)(H:HsA s d hr own fuel G L O [] r h):
 ∃es,cl om' h (some (.func (.func 104) [.ptr r 0 0] [])) (some [])=some (.ret (.tup []),es)∧Bh5 h (happ h es)∧
  HsA s d hr own fuel (loansF s.cons hr O (G,L,[])).1 (loansF s.cons hr O (G,L,[])).2.1 (loansF s.cons hr O (G,L,[])).2.2 [] r (happ h es):=by
 obtain⟨hr6,hG,hL,w,w1,w2,ov,rv,hR,hg,hb,hov,hrv⟩:=H
 have n1:(r=5)=False:=eq_false (by omega)
 have n2:(r=6)=False:=eq_false (by omega)
 obtain⟨_,rfl⟩|⟨_,_,hne,_⟩:=hrv
 ·rcases hov with⟨rfl,rfl⟩|⟨io,w3,rfl,hio,hio6⟩
  ·obtain⟨o,h',e,rfl,rfl⟩:=h_loansN (s:=s) (d:=d) (fl:=false) (w:=false) (w1:=false) (w2:=false) (hr:=hr) (own:=own) (fuel:=fuel) (G:=G) (L:=L) rfl rfl rfl rfl
   rw[hG,hL]at e
   refine⟨_,by simp only[Vc.down,seval,hR,hg,hb,n1,n2,e];exact rfl,?_⟩
   simp only[happ,happ1]
   refine⟨(Bh5.refl h).set (by omega) _,hr6,hG,hL,true,w1,w2,.nils,.nils,gs_eq hR,?_,?_,.inl ⟨rfl,rfl⟩,.inl ⟨rfl,rfl⟩⟩
   ·rw[gs_ne (by omega)];exact hg
   ·rw[gs_ne (by omega)];exact hb
  ·have n3:(r=io)=False:=eq_false fun e=>by subst e;rw[hR]at hio;simp at hio
   have n4:(5=io)=False:=eq_false (by omega)
   have n5:(6=io)=False:=eq_false (by omega)
   obtain⟨o,h',e,rfl,wG,wL,hq⟩:=h_loans (s:=s) (d:=d) (fl:=false) (w:=false) (w1:=false) (w2:=false) (w3:=false) (hr:=hr) (own:=own) (fuel:=fuel) (G:=G) (L:=L) hG hL hOl ho rfl rfl rfl rfl
   generalize hF:loansF s.cons hr O (G,L,[])=F at *
   obtain⟨G',L',p'⟩:=F
   obtain⟨hwG,hwL,rfl⟩:=hq _ _ _ rfl
   rw[hG,hL]at e
   clear hq
   have hG':G'.length=s.cons.length:=by have:=loansF_length s.cons hr O G L [];rw[hF]at this;dsimp only at this;omega
   have hL':L'.length=s.cons.length:=by have:=loansF_length s.cons hr O G L [];rw[hF]at this;dsimp only at this;omega
   have l1:=h_lt hR
   have l2:=h_lt hg
   have l3:=h_lt hb
   have l4:=h_lt hio
   have m1:r≠io:=of_eq_false n3
   by_cases hp:p'=[]
   ·subst hp
    simp only[leftV,leftH,if_true,List.append_nil]at e
    obtain⟨vG,hvG⟩:∃v,v=wG:=⟨_,rfl⟩
    obtain⟨vL,hvL⟩:∃v,v=wL:=⟨_,rfl⟩
    cases wG<;>cases wL<;>(try have:=hwG rfl)<;>(try have:=hwL rfl)<;>(try subst G')<;>(try subst L')<;>(
     refine⟨_,by simp only[Vc.down,seval,hR,hg,hb,hio,n1,n2,n3,n4,n5,e];exact rfl,?_⟩
     simp only[happ,happ1]
     refine⟨fun x hx=>by((try simp (discharger:=((try simp only[List.length_set]);omega)) only[List.append_assoc,List.cons_append,List.nil_append,List.getElem?_append_left,List.getElem?_append_right,List.getElem?_set_ne,List.getElem?_set_self,List.length_set,Nat.sub_self,Nat.add_sub_cancel_left,List.getElem?_cons_zero,List.getElem?_cons_succ])<;>(first|exact rfl|exact rfl)),hr6,hG',hL',true,(vG||w1),(vL||w2),.nils,.nils,?_,?_,?_,.inl ⟨rfl,rfl⟩,.inl ⟨rfl,rfl⟩⟩
     all_goals (subst vG;subst vL;((try simp (discharger:=((try simp only[List.length_set]);omega)) only[List.append_assoc,List.cons_append,List.nil_append,List.getElem?_append_left,List.getElem?_append_right,List.getElem?_set_ne,List.getElem?_set_self,List.length_set,Nat.sub_self,Nat.add_sub_cancel_left,List.getElem?_cons_zero,List.getElem?_cons_succ])<;>(first|exact rfl|exact hg|exact hb))))
   ·simp only[leftV,leftH,hp,if_false]at e
    obtain⟨vG,hvG⟩:∃v,v=wG:=⟨_,rfl⟩
    obtain⟨vL,hvL⟩:∃v,v=wL:=⟨_,rfl⟩
    cases wG<;>cases wL<;>(try have:=hwG rfl)<;>(try have:=hwL rfl)<;>(try subst G')<;>(try subst L')<;>(
     refine⟨_,by simp only[Vc.down,seval,hR,hg,hb,hio,n1,n2,n3,n4,n5,e];exact rfl,?_⟩
     simp only[happ,happ1]
     refine⟨fun x hx=>by((try simp (discharger:=((try simp only[List.length_set]);omega)) only[List.append_assoc,List.cons_append,List.nil_append,List.getElem?_append_left,List.getElem?_append_right,List.getElem?_set_ne,List.getElem?_set_self,List.length_set,Nat.sub_self,Nat.add_sub_cancel_left,List.getElem?_cons_zero,List.getElem?_cons_succ])<;>(first|exact rfl|exact rfl)),hr6,hG',hL',true,(vG||w1),(vL||w2),.slr 5 h.length 0 p'.length,.nils,?_,?_,?_,.inr ⟨h.length,false,rfl,?_,?_⟩,.inl ⟨rfl,rfl⟩⟩
     all_goals first
      |omega
      |(subst vG;subst vL;((try simp (discharger:=((try simp only[List.length_set]);omega)) only[List.append_assoc,List.cons_append,List.nil_append,List.getElem?_append_left,List.getElem?_append_right,List.getElem?_set_ne,List.getElem?_set_self,List.length_set,Nat.sub_self,Nat.add_sub_cancel_left,List.getElem?_cons_zero,List.getElem?_cons_succ])<;>(first|exact rfl|exact hg|exact hb))))
 ·exact absurd rfl hne
theorem tradesF_length(cs:List BCon)(hr:Int):∀(T:List BTrade) (i:Nat) (G:List Int) (O:List BTrade) (R:List Int),(tradesF cs hr T i (G,O,R)).1.length=G.length
 | [],_,_,_,_=>rfl
 |t::T,i,G,O,R=>by
  simp only[tradesF]
  split
  ·split
   ·exact tradesF_length cs hr T _ _ _ _
   ·rw[tradesF_length cs hr T _ _ _ _,tradeG_length]
  ·exact tradesF_length cs hr T _ _ _ _
theorem st_trades{s:BStore}{d:BDay}{hr own fuel:Int}{h:Heap}{r:Nat}{G L:List Int}{O:List BTrade}(hOl:O.length≤1000)(hd50:d.trades.length≤1000)(ho:∀t∈d.trades,t.ok s.cons.length)(H:HsA s d hr own fuel G L O [] r h):
 ∃es,cl om' h (some (.func (.func 105) [.ptr r 0 0] [])) (some [])=some (.ret (.tup []),es)∧Bh5 h (happ h es)∧
  HsA s d hr own fuel (tradesF s.cons hr d.trades 0 (G,O,[])).1 L (tradesF s.cons hr d.trades 0 (G,O,[])).2.1 (tradesF s.cons hr d.trades 0 (G,O,[])).2.2 r (happ h es):=by
 obtain⟨hr6,hG,hL,w,w1,w2,ov,rv,hR,hg,hb,hov,hrv⟩:=H
 have n1:(r=5)=False:=eq_false (by omega)
 have n2:(r=6)=False:=eq_false (by omega)
 have l1:=h_lt hR
 have l2:=h_lt hg
 have l3:=h_lt hb
 have hG0:(tradesF s.cons hr d.trades 0 (G,O,[])).1.length=s.cons.length:=by rw[tradesF_length,hG]
 obtain⟨_,rfl⟩|⟨_,_,hne,_⟩:=hrv
 ·rcases hov with⟨rfl,rfl⟩|⟨io,w3,rfl,hio,hio6⟩
  ·obtain⟨o,h',e,rfl,wr,wG,wo,wR,ov,rv,T,hq⟩:=h_tradesN (s:=s) (d:=d) (w:=false) (w1:=false) (w2:=false) (hr:=hr) (own:=own) (fuel:=fuel) (G:=G) (L:=L) (O:=[]) (w3:=false) hG rfl hd50 ho
   generalize hF:tradesF s.cons hr d.trades 0 (G,[],[])=F at *
   obtain⟨G',O',R⟩:=F
   obtain⟨hwG,hwr,rfl,hT⟩:=hq _ _ _ rfl
   clear hq
   dsimp only at hG0 ⊢
   rw[hG,hL]at e
   rcases hT with⟨rfl,rfl,rfl,rfl,rfl⟩|⟨hO',rfl,rfl,rfl,rfl⟩|⟨rfl,hR',rfl,rfl,rfl⟩|⟨hO',hR',rfl,rfl,rfl⟩
   ·simp only[List.append_nil]at e
    obtain⟨vG,hvG⟩:∃v,v=wG:=⟨_,rfl⟩
    obtain⟨vr,hvr⟩:∃v,v=wr:=⟨_,rfl⟩
    cases wr<;>cases wG<;>(try have:=hwG rfl)<;>(try subst G')<;>(
     refine⟨_,by simp only[Vc.down,seval,hR,hg,hb,n1,n2,e];exact rfl,?_⟩
     simp only[happ,happ1]
     refine⟨fun x hx=>by((try simp (discharger:=((try simp only[List.length_set]);omega)) only[List.append_assoc,List.cons_append,List.nil_append,List.getElem?_append_left,List.getElem?_append_right,List.getElem?_set_ne,List.getElem?_set_self,List.length_set,Nat.sub_self,Nat.add_sub_cancel_left,List.getElem?_cons_zero,List.getElem?_cons_succ])<;>(first|exact rfl|exact rfl)),hr6,hG0,hL,(vr||w),(vG||w1),w2,.nils,.nils,?_,?_,?_,.inl ⟨rfl,rfl⟩,.inl ⟨rfl,rfl⟩⟩
     all_goals (subst vG;subst vr;((try simp (discharger:=((try simp only[List.length_set]);omega)) only[List.append_assoc,List.cons_append,List.nil_append,List.getElem?_append_left,List.getElem?_append_right,List.getElem?_set_ne,List.getElem?_set_self,List.length_set,Nat.sub_self,Nat.add_sub_cancel_left,List.getElem?_cons_zero,List.getElem?_cons_succ])<;>(first|exact rfl|exact hR|exact hg|exact hb))))
   ·have hwt:wr=true:=by
     cases wr
     ·have:=hwr rfl;simp at this
     ·rfl
    subst hwt
    simp only[List.cons_append,List.nil_append]at e
    obtain⟨vG,hvG⟩:∃v,v=wG:=⟨_,rfl⟩
    cases wG<;>(try have:=hwG rfl)<;>(try subst G')<;>(
     refine⟨_,by simp only[Vc.down,seval,hR,hg,hb,n1,n2,e];exact rfl,?_⟩
     simp only[happ,happ1]
     refine⟨fun x hx=>by((try simp (discharger:=((try simp only[List.length_set]);omega)) only[List.append_assoc,List.cons_append,List.nil_append,List.getElem?_append_left,List.getElem?_append_right,List.getElem?_set_ne,List.getElem?_set_self,List.length_set,Nat.sub_self,Nat.add_sub_cancel_left,List.getElem?_cons_zero,List.getElem?_cons_succ])<;>(first|exact rfl|exact rfl)),hr6,hG0,hL,true,(vG||w1),w2,.slr 5 h.length 0 O'.length,.nils,?_,?_,?_,.inr ⟨h.length,wo,rfl,?_,by omega⟩,.inl ⟨rfl,rfl⟩⟩
     all_goals (subst vG;((try simp (discharger:=((try simp only[List.length_set]);omega)) only[List.append_assoc,List.cons_append,List.nil_append,List.getElem?_append_left,List.getElem?_append_right,List.getElem?_set_ne,List.getElem?_set_self,List.length_set,Nat.sub_self,Nat.add_sub_cancel_left,List.getElem?_cons_zero,List.getElem?_cons_succ])<;>(first|exact rfl|exact hR|exact hg|exact hb))))
   ·have hwt:wr=true:=by
     cases wr
     ·have:=hwr rfl;simp at this
     ·rfl
    subst hwt
    simp only[List.cons_append,List.nil_append]at e
    obtain⟨vG,hvG⟩:∃v,v=wG:=⟨_,rfl⟩
    cases wG<;>(try have:=hwG rfl)<;>(try subst G')<;>(
     refine⟨_,by simp only[Vc.down,seval,hR,hg,hb,n1,n2,e];exact rfl,?_⟩
     simp only[happ,happ1]
     refine⟨fun x hx=>by((try simp (discharger:=((try simp only[List.length_set]);omega)) only[List.append_assoc,List.cons_append,List.nil_append,List.getElem?_append_left,List.getElem?_append_right,List.getElem?_set_ne,List.getElem?_set_self,List.length_set,Nat.sub_self,Nat.add_sub_cancel_left,List.getElem?_cons_zero,List.getElem?_cons_succ])<;>(first|exact rfl|exact rfl)),hr6,hG0,hL,true,(vG||w1),w2,.nils,.slr 1 h.length 0 R.length,?_,?_,?_,.inl ⟨rfl,rfl⟩,.inr ⟨h.length,wR,hR',rfl,?_,by omega,by simp⟩⟩
     all_goals (subst vG;((try simp (discharger:=((try simp only[List.length_set]);omega)) only[List.append_assoc,List.cons_append,List.nil_append,List.getElem?_append_left,List.getElem?_append_right,List.getElem?_set_ne,List.getElem?_set_self,List.length_set,Nat.sub_self,Nat.add_sub_cancel_left,List.getElem?_cons_zero,List.getElem?_cons_succ])<;>(first|exact rfl|exact hR|exact hg|exact hb))))
   ·have hwt:wr=true:=by
     cases wr
     ·have:=hwr rfl;simp at this
     ·rfl
    subst hwt
    simp only[List.cons_append,List.nil_append]at e
    obtain⟨vG,hvG⟩:∃v,v=wG:=⟨_,rfl⟩
    cases wG<;>(try have:=hwG rfl)<;>(try subst G')<;>(
     refine⟨_,by simp only[Vc.down,seval,hR,hg,hb,n1,n2,e];exact rfl,?_⟩
     simp only[happ,happ1]
     refine⟨fun x hx=>by((try simp (discharger:=((try simp only[List.length_set]);omega)) only[List.append_assoc,List.cons_append,List.nil_append,List.getElem?_append_left,List.getElem?_append_right,List.getElem?_set_ne,List.getElem?_set_self,List.length_set,Nat.sub_self,Nat.add_sub_cancel_left,List.getElem?_cons_zero,List.getElem?_cons_succ])<;>(first|exact rfl|exact rfl)),hr6,hG0,hL,true,(vG||w1),w2,.slr 5 h.length 0 O'.length,.slr 1 (h.length+1) 0 R.length,?_,?_,?_,.inr ⟨h.length,wo,rfl,?_,by omega⟩,.inr ⟨h.length+1,wR,hR',rfl,?_,by omega,by simp⟩⟩
     all_goals (subst vG;((try simp (discharger:=((try simp only[List.length_set]);omega)) only[List.append_assoc,List.cons_append,List.nil_append,List.getElem?_append_left,List.getElem?_append_right,List.getElem?_set_ne,List.getElem?_set_self,List.length_set,Nat.sub_self,Nat.add_sub_cancel_left,List.getElem?_cons_zero,List.getElem?_cons_succ])<;>(first|exact rfl|exact hR|exact hg|exact hb))))
  ·have n3:(r=io)=False:=eq_false fun e=>by subst e;rw[hR]at hio;simp at hio
   have n4:(5=io)=False:=eq_false (by omega)
   have n5:(6=io)=False:=eq_false (by omega)
   have l4:=h_lt hio
   have m1:r≠io:=of_eq_false n3
   obtain⟨o,h',e,rfl,wr,wG,wo,wR,ov,rv,T,hq⟩:=h_tradesB (s:=s) (d:=d) (w:=false) (w1:=false) (w2:=false) (w3:=false) (hr:=hr) (own:=own) (fuel:=fuel) (G:=G) (L:=L) (O:=O) hG hOl hd50 ho
   generalize hF:tradesF s.cons hr d.trades 0 (G,O,[])=F at *
   obtain⟨G',O',R⟩:=F
   obtain⟨hwG,hwr,rfl,hT⟩:=hq _ _ _ rfl
   clear hq
   dsimp only at hG0 ⊢
   rw[hG,hL]at e
   rcases hT with⟨rfl,rfl,rfl,rfl,rfl⟩|⟨hR',rfl,rfl,rfl,rfl⟩|⟨rfl,rfl,rfl,rfl⟩|⟨hR',rfl,rfl,rfl⟩
   ·simp only[List.cons_append,List.nil_append]at e
    obtain⟨vG,hvG⟩:∃v,v=wG:=⟨_,rfl⟩
    obtain⟨vr,hvr⟩:∃v,v=wr:=⟨_,rfl⟩
    obtain⟨vo,hvo⟩:∃v,v=wo:=⟨_,rfl⟩
    cases wr<;>cases wG<;>cases wo<;>(try have:=hwG rfl)<;>(try subst G')<;>(
     refine⟨_,by simp only[Vc.down,seval,hR,hg,hb,hio,n1,n2,n3,n4,n5,e];exact rfl,?_⟩
     simp only[happ,happ1]
     refine⟨fun x hx=>by((try simp (discharger:=((try simp only[List.length_set]);omega)) only[List.append_assoc,List.cons_append,List.nil_append,List.getElem?_append_left,List.getElem?_append_right,List.getElem?_set_ne,List.getElem?_set_self,List.length_set,Nat.sub_self,Nat.add_sub_cancel_left,List.getElem?_cons_zero,List.getElem?_cons_succ])<;>(first|exact rfl|exact rfl)),hr6,hG0,hL,(vr||w),(vG||w1),w2,.slr 5 io 0 O'.length,.nils,?_,?_,?_,.inr ⟨io,(vo||w3),rfl,?_,hio6⟩,.inl ⟨rfl,rfl⟩⟩
     all_goals (subst vG;subst vr;subst vo;((try simp (discharger:=((try simp only[List.length_set]);omega)) only[List.append_assoc,List.cons_append,List.nil_append,List.getElem?_append_left,List.getElem?_append_right,List.getElem?_set_ne,List.getElem?_set_self,List.length_set,Nat.sub_self,Nat.add_sub_cancel_left,List.getElem?_cons_zero,List.getElem?_cons_succ])<;>(first|exact rfl|exact hR|exact hg|exact hb|exact hio))))
   ·have hwt:wr=true:=by
     cases wr
     ·have:=hwr rfl;simp at this
     ·rfl
    subst hwt
    simp only[List.cons_append,List.nil_append]at e
    obtain⟨vG,hvG⟩:∃v,v=wG:=⟨_,rfl⟩
    obtain⟨vo,hvo⟩:∃v,v=wo:=⟨_,rfl⟩
    cases wG<;>cases wo<;>(try have:=hwG rfl)<;>(try subst G')<;>(
     refine⟨_,by simp only[Vc.down,seval,hR,hg,hb,hio,n1,n2,n3,n4,n5,e];exact rfl,?_⟩
     simp only[happ,happ1]
     refine⟨fun x hx=>by((try simp (discharger:=((try simp only[List.length_set]);omega)) only[List.append_assoc,List.cons_append,List.nil_append,List.getElem?_append_left,List.getElem?_append_right,List.getElem?_set_ne,List.getElem?_set_self,List.length_set,Nat.sub_self,Nat.add_sub_cancel_left,List.getElem?_cons_zero,List.getElem?_cons_succ])<;>(first|exact rfl|exact rfl)),hr6,hG0,hL,true,(vG||w1),w2,.slr 5 io 0 O'.length,.slr 1 h.length 0 R.length,?_,?_,?_,.inr ⟨io,(vo||w3),rfl,?_,hio6⟩,.inr ⟨h.length,wR,hR',rfl,?_,by omega,by simp⟩⟩
     all_goals (subst vG;subst vo;((try simp (discharger:=((try simp only[List.length_set]);omega)) only[List.append_assoc,List.cons_append,List.nil_append,List.getElem?_append_left,List.getElem?_append_right,List.getElem?_set_ne,List.getElem?_set_self,List.length_set,Nat.sub_self,Nat.add_sub_cancel_left,List.getElem?_cons_zero,List.getElem?_cons_succ])<;>(first|exact rfl|exact hR|exact hg|exact hb|exact hio))))
   ·have hwt:wr=true:=by
     cases wr
     ·have:=hwr rfl;simp at this
     ·rfl
    subst hwt
    simp only[List.cons_append,List.nil_append]at e
    obtain⟨vG,hvG⟩:∃v,v=wG:=⟨_,rfl⟩
    obtain⟨vo,hvo⟩:∃v,v=wo:=⟨_,rfl⟩
    cases wG<;>cases wo<;>(try have:=hwG rfl)<;>(try subst G')<;>(
     refine⟨_,by simp only[Vc.down,seval,hR,hg,hb,hio,n1,n2,n3,n4,n5,e];exact rfl,?_⟩
     simp only[happ,happ1]
     refine⟨fun x hx=>by((try simp (discharger:=((try simp only[List.length_set]);omega)) only[List.append_assoc,List.cons_append,List.nil_append,List.getElem?_append_left,List.getElem?_append_right,List.getElem?_set_ne,List.getElem?_set_self,List.length_set,Nat.sub_self,Nat.add_sub_cancel_left,List.getElem?_cons_zero,List.getElem?_cons_succ])<;>(first|exact rfl|exact rfl)),hr6,hG0,hL,true,(vG||w1),w2,.slr 5 h.length 0 O'.length,.nils,?_,?_,?_,.inr ⟨h.length,vo,rfl,?_,by omega⟩,.inl ⟨rfl,rfl⟩⟩
     all_goals (subst vG;subst vo;((try simp (discharger:=((try simp only[List.length_set]);omega)) only[List.append_assoc,List.cons_append,List.nil_append,List.getElem?_append_left,List.getElem?_append_right,List.getElem?_set_ne,List.getElem?_set_self,List.length_set,Nat.sub_self,Nat.add_sub_cancel_left,List.getElem?_cons_zero,List.getElem?_cons_succ])<;>(first|exact rfl|exact hR|exact hg|exact hb|exact hio))))
   ·have hwt:wr=true:=by
     cases wr
     ·have:=hwr rfl;simp at this
     ·rfl
    subst hwt
    simp only[List.cons_append,List.nil_append]at e
    obtain⟨vG,hvG⟩:∃v,v=wG:=⟨_,rfl⟩
    obtain⟨vo,hvo⟩:∃v,v=wo:=⟨_,rfl⟩
    cases wG<;>cases wo<;>(try have:=hwG rfl)<;>(try subst G')<;>(
     refine⟨_,by simp only[Vc.down,seval,hR,hg,hb,hio,n1,n2,n3,n4,n5,e];exact rfl,?_⟩
     simp only[happ,happ1]
     refine⟨fun x hx=>by((try simp (discharger:=((try simp only[List.length_set]);omega)) only[List.append_assoc,List.cons_append,List.nil_append,List.getElem?_append_left,List.getElem?_append_right,List.getElem?_set_ne,List.getElem?_set_self,List.length_set,Nat.sub_self,Nat.add_sub_cancel_left,List.getElem?_cons_zero,List.getElem?_cons_succ])<;>(first|exact rfl|exact rfl)),hr6,hG0,hL,true,(vG||w1),w2,.slr 5 h.length 0 O'.length,.slr 1 (h.length+1) 0 R.length,?_,?_,?_,.inr ⟨h.length,vo,rfl,?_,by omega⟩,.inr ⟨h.length+1,wR,hR',rfl,?_,by omega,by simp⟩⟩
     all_goals (subst vG;subst vo;((try simp (discharger:=((try simp only[List.length_set]);omega)) only[List.append_assoc,List.cons_append,List.nil_append,List.getElem?_append_left,List.getElem?_append_right,List.getElem?_set_ne,List.getElem?_set_self,List.length_set,Nat.sub_self,Nat.add_sub_cancel_left,List.getElem?_cons_zero,List.getElem?_cons_succ])<;>(first|exact rfl|exact hR|exact hg|exact hb|exact hio))))
 ·exact absurd rfl hne
end Go.Proofs.YtdbiogihimdpcaaGreatDoor
