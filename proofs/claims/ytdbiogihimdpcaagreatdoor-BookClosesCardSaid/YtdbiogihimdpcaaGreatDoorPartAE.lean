/- The functions of the layer, walked. -/
import Derived.Test.YtdbiogihimdpcaaGreatDoorLibE
import Derived.Test.YtdbiogihimdpcaaGreatDoorPartAD
open List renaming length_map→aaE,cons_append→abH,replicate→abI,length_nil→ab1,map_nil→acM,length_cons→acT,map_cons→acZ,nil_append→adA,getElem?_eq_some_iff→adF,set_cons_succ→adI,set_cons_zero→adJ,getElem?_eq_getElem→adL,mem_of_getElem?→adP,length_pos_iff→aiK
open Int renaming lt_irrefl→adK,le_refl→adM,reducePow→adN,natCast_zero→adO
set_option linter.unusedSimpArgs false
set_option linter.unusedVariables false
namespace Go.Proofs.YtdbiogihimdpcaaGreatDoor
open Go.Ev Go
set_option maxRecDepth 100000
set_option maxHeartbeats 16000000
theorem sM{vs:List AV}{b:Nat}{h:Aa}{ps:List Nat}{asg body:Code}{tm:List AV}{st:Qh}{Q:Ec→Aa→Prop}(hb:h[b]?=some (.lp ps asg body tm st))(hl:ps.length=vs.length)
 (he:RnE b Q (aiB Bo Tryz.prog b body (Db Bo Tryz.prog 5000 asg [] ⟨Rk tm ps vs,h⟩))):RnQ Bo (vs++[.yl b]) h Q:=RnQ.start (pr:=pr) hb hl he
theorem Lx{g:Aa}(h:Bd g=true):Bd (dN g)=true:=by
 simp only[Bd,dN,List.all_eq_true,List.mem_map]at h ⊢
 rintro c ⟨c',hc',rfl⟩
 have:=h c' hc'
 cases c'<;>simp_all[CB.quiet,CB.clean,CB.same]
def Jc{σ:Type}(st:Nat→Ag→σ→σ):List Ag→Nat→σ→σ
 | [],_,a=>a
 |c::rest,i,a=>Jc st rest (i+1) (st i c a)
theorem Pz{s:Ac}{d:Ao}{hr:Int}{y:AV}{σ:Type}(st:Nat→Ag→σ→σ)(Tf:Nat→σ→Aa→Prop)(hl:s.cons.length≤maxLen)
 (hI:∀i a h,Tf i a h→∃fl w gv own fuel lv ov wv av fv rv,h[0]?=some (.live 19 fl w [(rc s d hr gv own fuel lv ov wv av fv rv)]))
 (hA:∀i a h fl w (rows:List (List AV)),Tf i a h→Tf i a (h++[.live 11 fl w rows]))
 (hR:∀(i:Nat) (c:Ag) a h,s.cons[i]?=some c→Gg hr c.lo c.hi=true→Tf i a h→∃es,cl Bo h (some y) (some [.int .i64 i,.agg [.bool c.firm,.int .i64 c.space,.int .i64 c.lo,.int .i64 c.hi,Bj 3 true c.nn (c.rates.map Bh.cells),.int .i64 c.gas,.int .i64 c.fixed,.int .i64 c.inn,.int .i64 c.out,.int .i64 c.cut,.int .i64 c.lack]])=some (.ret (.bool true),es)∧Tf (i+1) (st i c a) (Ar h es))
 (hN:∀(i:Nat) (c:Ag) a h,s.cons[i]?=some c→Gg hr c.lo c.hi=false→Tf i a h→Tf (i+1) (st i c a) h)
 (a0:σ) {h0:Aa} (h0I:Tf 0 a0 h0):
 ShQ Bo 131 [.ptr 0 0 0,y] h0 fun o h'=>o=.ret (.tup [])∧Tf s.cons.length (Jc st s.cons 0 a0) h':=by
 obtain⟨fl,w,gv,own,fuel,lv,ov,wv,av,fv,rv,hB⟩:=hI _ _ _ h0I
 refine atI rfl Tryz.func131 rfl rfl ?_
 simp only[Tryz.f131]
 (have hb:=trivial;with_reducible repeat' (first|simp only[hb,Vc.down,seval,nT.down,hB,aaE]|refine Aj ?_ ?_<;>intro hb|refine fd ?_|fail))
 refine Dk (Sr 32 s.cons (fun i (zz:σ × Nat) t h=>t 0=.ptr 0 0 0∧t 1=y∧t 10=Bj 11 false s.nn (s.cons.map Ag.cells)∧t 11=.int .i64 s.cons.length∧t 12=.int .i64 i∧(Tf i zz.1 h∧i=zz.2)) (fun rest zz=>Jc st rest zz.2 zz.1) (fun r e t h=>e=.exit 0∧Tf s.cons.length r h) ?_ ?_ (a0,0) _ _ ?_) (fun e t h hk=>?_)
 ·rintro⟨a,k⟩ t h Q' kQ ⟨h0,h1,h10,h11,h12,⟨hv,rfl⟩⟩
  try dsimp only at *
  (have hb:=trivial;with_reducible repeat' (first|simp only[hb,Vc.down,seval,nT.down,h0,h1,h10,h11,h12,adK,decide_false]|refine Aj ?_ ?_<;>intro hb|refine fd ?_|fail))
  exact kQ _ _ _ ⟨rfl,hv⟩
 ·rintro x rest i ⟨a,k⟩ t h J Q' kJ kQ hx hi ⟨h0,h1,h10,h11,h12,⟨hv,rfl⟩⟩
  have hd:decide ((i:Int)<(s.cons.length:Int))=true:=decide_eq_true (by omega)
  have hw:=Ak hi hl
  try dsimp only at *
  obtain⟨fl,w,gv,own,fuel,lv,ov,wv,av,fv,rv,hB⟩:=hI _ _ _ hv
  have hB1:=Bv hB
  have hii:((i:Int)<(s.cons.length:Int))=True:=eq_true (by omega)
  have hv1:=hA _ _ _ false true [[.bool x.firm,.int .i64 x.space,.int .i64 x.lo,.int .i64 x.hi,Bj 3 true x.nn (x.rates.map Bh.cells),.int .i64 x.gas,.int .i64 x.fixed,.int .i64 x.inn,.int .i64 x.out,.int .i64 x.cut,.int .i64 x.lack]] hv
  have hac:=sL x x.firm hr
  cases hact:Gg hr x.lo x.hi with
  |false=>
   rw[hact]at hac
   (have hb:=trivial;with_reducible repeat' (first|simp only[hb,Vc.down,seval,nT.down,h0,h1,h10,h11,h12,hd,hx,hw,hii,hB1,Ag.cells,hac]|refine Aj ?_ ?_<;>intro hb|refine fd ?_|fail))
   (refine Aq (kJ _ _ (st i x a,i+1) ⟨?_,?_,?_,?_,?_,⟨hN _ _ _ _ hx hact hv1,rfl⟩⟩ ?_);(simp[up,h0]);(simp[up,h1]);(simp[up,h10]);(simp[up,h11]);(simp[up]);(simp[Jc]))
  |true=>
   rw[hact]at hac
   obtain⟨es,hes,hv2⟩:=hR _ _ _ _ hx hact hv1
   (have hb:=trivial;with_reducible repeat' (first|simp only[hb,Vc.down,seval,nT.down,h0,h1,h10,h11,h12,hd,hx,hw,hii,hB1,Ag.cells,hac,hes]|refine Aj ?_ ?_<;>intro hb|refine fd ?_|fail))
   (refine Aq (kJ _ _ (st i x a,i+1) ⟨?_,?_,?_,?_,?_,⟨hv2,rfl⟩⟩ ?_);(simp[up,h0]);(simp[up,h1]);(simp[up,h10]);(simp[up,h11]);(simp[up]);(simp[Jc]))
 ·exact⟨by simp[up,Dn],by simp[up,Dn],by simp[up,Dn],by simp[up,Dn],by simp[up],⟨h0I,rfl⟩⟩
 ·obtain⟨rfl,hv⟩:=hk
  (have hb:=trivial;with_reducible repeat' (first|simp only[hb,Vc.down,seval,nT.down]|refine Aj ?_ ?_<;>intro hb|refine fd ?_|fail))
  exact hv
def Ry(c:Ag):Bh:=(c.rates[0]?).getD ⟨0,0,0⟩
def Ua(c:Ag)(g:Int):Bh:=bT (afR c g) c.rates (Ry c)
def Xi(l:List Gl)(k:Int):Int:=((l[k.toNat]?).map Gl.amount).getD 0
def mn(a b:Int):Int:=if b<a then b else a
def zW(x:Int):Int:=if 0>x then 0 else x
def lQ(c:Ag)(n g:Int):Int:=IntKind.i64.wrap (zW (mn (mn n (Ua c g).inn) (IntKind.i64.wrap (c.space-g)))-zW (mn (mn (IntKind.i64.wrap (0-n)) (Ua c g).out) g))
def Bt(s:Ac)(d:Ao)(hr:Int)(G:List Int)(i:Nat)(c:Ag)(a:List Int):List Int:=
 if Gg hr c.lo c.hi=true then
  if Lm s.lead d.noms i hr d.noms (0,-1)<0 then a
  else sI a i (lQ c (Xi d.noms (Lm s.lead d.noms i hr d.noms (0,-1))) (gI G i))
 else a
theorem afP(lead:Int)(l:List Gl)(c h:Int):∀(rest:List Gl) (i:Nat) (o:Int),(o= -1∨0≤o∧o<i)→(Lm lead l c h rest (i,o)= -1∨0≤Lm lead l c h rest (i,o)∧Lm lead l c h rest (i,o)<i+rest.length)
 | [],i,o,ho=>by simpa [Lm]using ho
 |n::rest,i,o,ho=>by
  have:=afP lead l c h rest (i+1) (kK lead l c h n i o) (by unfold kK;split<;>omega)
  simp only[Lm,acT]at this ⊢
  omega
theorem pS{lead:Int}{l:List Gl}{c h:Int}(hn:¬Lm lead l c h l (0,-1)<0):0≤Lm lead l c h l (0,-1)∧∃n,l[(Lm lead l c h l (0,-1)).toNat]?=some n:=by
 have:=afP lead l c h l 0 (-1) (.inl rfl)
 have h0:0≤Lm lead l c h l (0,-1):=by omega
 exact⟨h0,_,adL (by omega)⟩
def acH(c:Ag):Prop:=c.space≠0∧c.rates≠[]∧c.rates.length≤maxLen
theorem ajA{s:Ac}{d:Ao}{w w1 w2 w3 w5:Bool}{hr own fuel:Int}{G L R:List Int}{O:List Ab}(hG:G.length=s.cons.length)(hl:s.cons.length≤1000)(hn:d.noms.length≤1000)(hc:∀c∈s.cons,acH c):
 Vo Bo 106 [.ptr 0 0 0] [.live 19 false w [(rc s d hr (.slr 1 1 0 G.length) own fuel (.slr 1 2 0 L.length) .nils .nils .nils .nils .nils)],.live 1 true w1 (G.map iv),.live 1 true w2 (L.map iv)]
  fun o h'=>o=.ret (.tup [])∧∃ww,h'=[.live 19 false true [(rc s d hr (.slr 1 1 0 G.length) own fuel (.slr 1 2 0 L.length) .nils (.slr 1 3 0 s.cons.length) .nils .nils .nils)],.live 1 true w1 (G.map iv),.live 1 true w2 (L.map iv),.live 1 true ww ((Jc (Bt s d hr G) s.cons 0 (abI s.cons.length 0)).map iv)]:=by
 have hl':s.cons.length≤maxLen:=by unfold maxLen;omega
 have h40:((s.cons.length:Int)≤1099511627776)=True:=eq_true (by omega)
 refine Nk rfl Tryz.func106 rfl rfl ?_
 simp only[Tryz.f106]
 (have hb:=trivial;with_reducible repeat' (first|simp only[hb,Vc.down,seval,Lc.down,aaE,h40,adM,adN]|refine Aj ?_ ?_<;>intro hb|refine fd ?_|fail))
 generalize hL:CB.lp _ _ _ _ _=LP
 refine Yn (Pz (s:=s) (d:=d) (hr:=hr) (y:=.yl 5) (Bt s d hr G) (fun i a h=>(∃ww g,h=.live 19 false false [(rc s d hr (.slr 1 1 0 G.length) own fuel (.slr 1 2 0 L.length) .nils (.slr 1 4 0 s.cons.length) .nils .nils .nils)]::.live 1 true false (G.map iv)::.live 1 true false (L.map iv)::   .live 1 false false [[.ptr 0 0 0]]::.live 1 true ww (a.map iv)::LP::g∧Bd g=true∧a.length=s.cons.length∧(ww=false→a=abI s.cons.length 0))) hl' ?_ ?_ ?_ ?_ (abI s.cons.length 0) ?_) ?_
 ·rintro i a h ⟨ww,g,rfl,_,_,_⟩
  exact⟨_,_,_,_,_,_,_,_,_,_,_,rfl⟩
 ·rintro i a h fl w rows ⟨ww,g,rfl,hqg,hal,hwr⟩
  exact⟨ww,g++[.live 11 fl w rows],rfl,by rw[Dv,hqg];rfl,hal,hwr⟩
 ·rintro i c a h hx hact ⟨ww,g,rfl,hqg,hal,hwr⟩
  obtain⟨hz,hr0,hrl⟩:=hc c (adP hx)
  have hil:i<s.cons.length:=(adF.1 hx).1
  have hct:=cK s d.noms d.nn i hr (by unfold maxLen;omega)
  have hii:((i:Int)<(s.cons.length:Int))=True:=eq_true (by omega)
  have hiG:((i:Int)<(G.length:Int))=True:=eq_true (by omega)
  have aG:G[i]?=some (gI G i):=by have:=Ht (l:=G) (i:=(i:Int)) (by simp;omega);simpa using this
  have aA:a[i]?=some (gI a i):=by have:=Ht (l:=a) (i:=(i:Int)) (by simp;omega);simpa using this
  have aW:∀v,(a.map iv).set i [.int .i64 v]=(sI a i v).map iv:=fun v=>by have:=Fo a (i:Int) v;simpa using this
  have hrt:=fun g=>pI c g (Ry c) (by unfold Ry;rw[adL (aiK.2 hr0)];rfl) hrl hz
  have hroom:∀(tl:Aa),Bo.call (.sh 130) [.ptr 0 0 0,.int .i64 i] (.live 19 false false [(rc s d hr (.slr 1 1 0 G.length) own fuel (.slr 1 2 0 L.length) .nils (.slr 1 4 0 s.cons.length) .nils .nils .nils)]::.live 1 true false (G.map iv)::tl)=some (.ret (.int .i64 (IntKind.i64.wrap (c.space-gI G i))),.live 19 false false [(rc s d hr (.slr 1 1 0 G.length) own fuel (.slr 1 2 0 L.length) .nils (.slr 1 4 0 s.cons.length) .nils .nils .nils)]::.live 1 true false (G.map iv)::tl):=fun tl=>
   bI (b:=0) (bg:=1) (n:=G.length) rfl rfl rfl ⟨by omega,by omega⟩ (by simpa using hx)
  have round:∀g0:Aa,Bd g0=true→RnQ Bo ([.int .i64 i,.agg [.bool c.firm,.int .i64 c.space,.int .i64 c.lo,.int .i64 c.hi,Bj 3 true c.nn (c.rates.map Bh.cells),.int .i64 c.gas,.int .i64 c.fixed,.int .i64 c.inn,.int .i64 c.out,.int .i64 c.cut,.int .i64 c.lack]]++[.yl 5]) (.live 19 false false [(rc s d hr (.slr 1 1 0 G.length) own fuel (.slr 1 2 0 L.length) .nils (.slr 1 4 0 s.cons.length) .nils .nils .nils)]::.live 1 true false (G.map iv)::.live 1 true false (L.map iv)::   .live 1 false false [[.ptr 0 0 0]]::.live 1 true false (a.map iv)::LP::g0)
   fun o h'=>o=.ret (.bool true)∧∃ww g',h'=.live 19 false false [(rc s d hr (.slr 1 1 0 G.length) own fuel (.slr 1 2 0 L.length) .nils (.slr 1 4 0 s.cons.length) .nils .nils .nils)]::.live 1 true false (G.map iv)::.live 1 true false (L.map iv)::   .live 1 false false [[.ptr 0 0 0]]::.live 1 true ww ((Bt s d hr G i c a).map iv)::LP::(g0++g')∧Bd g'=true∧(ww=false→Bt s d hr G i c a=a):=by
   subst hL
   intro g0 hq0
   have hse:=fun i l l'=>Ya hq0 i l l'
   refine sM rfl rfl ?_
   cases hk:decide (Lm s.lead d.noms i hr d.noms (0,-1)<0)with
   |true=>
    (have hb:=trivial;with_reducible repeat' (first|simp only[hb,Vc.down,seval,Lc.down,hct,hk,hx,Ag.cells]|refine Aj ?_ ?_<;>intro hb|refine fd ?_|fail))
    have hwa:Bt s d hr G i c a=a:=by simp[Bt,hact,of_decide_eq_true hk]
    exact⟨_,_,rfl,rfl,false,[_],by rw[hwa],rfl,fun _=>hwa⟩
   |false=>
    have hkn:=of_decide_eq_false hk
    obtain⟨hk0,nk,hnk⟩:=pS hkn
    have hk0':(0≤Lm s.lead d.noms i hr d.noms (0,-1))=True:=eq_true hk0
    (have hb:=trivial;with_reducible repeat' (first|simp only[hb,Vc.down,seval,Lc.down,hct,hk,hx,Ag.cells,Gl.cells,Bh.cells,hk0',hnk,hrt,hroom,hii,hiG,aG,aA,aW,hse,iv,aaE]|refine Aj ?_ ?_<;>intro hb|((refine Hh (g0.length) 6 ?_ ?_);(simp (discharger:=decide) only[He,Et,acZ,acM,Dp,Gw,Gz,Hg,Gv,Dj,Eu,Eo,acT,ab1];kernel_rfl);intro _)|refine jH ?_|fail))
    exact⟨_,_,rfl,rfl,true,[_,_],by rw[show Bt s d hr G i c a=sI a i (lQ c nk.amount (gI G i)) by simp[Bt,hact,hkn,Xi,hnk]];rfl,rfl,fun h=>by cases h⟩
  obtain⟨o,h',e,rfl,ww',g',rfl,hq',hwa⟩:=round (dN g) (Lx hqg)
  have hst:=fun i l=>Hm hqg i l
  have hLc:LP.clean=LP:=by rw[←hL];rfl
  have hLq:LP.quiet LP=true:=by rw[←hL];rfl
  simp only[abH,adA]at e
  have hal':(Bt s d hr G i c a).length=s.cons.length:=by unfold Bt;split<;>(try split)<;>simp[Bi,hal]
  have hgg:Bd (g++g')=true:=by rw[Dv,hqg,hq'];rfl
  cases ww' with
  |false=>
   refine⟨_,by simp only[Vc.down,seval,hLc,e,hLq,hst];exact rfl,ww,g++g',?_,hgg,hal',fun h=>by rw[hwa rfl];exact hwr h⟩
   rw[hwa rfl,Bf]
   rfl
  |true=>
   refine⟨_,by simp only[Vc.down,seval,hLc,e,hLq,hst];exact rfl,true,g++g',?_,hgg,hal',fun h=>by cases h⟩
   simp only[Ar,Bf,Cb,adI,adJ]
   rfl
 ·rintro i c a h hx hact ⟨ww,g,rfl,hqg,hal,hwr⟩
  exact⟨ww,g,by simp[Bt,hact],hqg,by simpa [Bt,hact]using hal,by simpa [Bt,hact]using hwr⟩
 ·exact⟨false,[],by simp[iv],rfl,by simp,fun _=>rfl⟩
 ·rintro o h' ⟨rfl,ww,g,rfl,hqg,hal,hwr⟩
  have hst:=fun i l=>Hm hqg i l
  subst hL
  have hrep:abI s.cons.length [AV.int .i64 0]=(abI s.cons.length 0).map iv:=by simp[iv]
  cases ww with
  |false=>
   rw[hwr rfl]
   (have hb:=trivial;with_reducible repeat' (first|simp only[hb,Vc.down,seval,Lc.down,hst,Bf,abH,hrep]|refine Aj ?_ ?_<;>intro hb|refine fd ?_|fail))
   exact⟨_,rfl⟩
  |true=>
   (have hb:=trivial;with_reducible repeat' (first|simp only[hb,Vc.down,seval,Lc.down,hst,Bf,abH]|refine Aj ?_ ?_<;>intro hb|refine fd ?_|fail))
   exact⟨_,rfl⟩
theorem agJ{s:Ac}{d:Ao}{w w1 w2 w3 w5:Bool}{hr own fuel:Int}{G L R:List Int}{O:List Ab}(hG:G.length=s.cons.length)(hl:s.cons.length≤1000)(hn:d.noms.length≤1000)(hc:∀c∈s.cons,acH c):
 Vo Bo 106 [.ptr 0 0 0] [.live 19 false w [(rc s d hr (.slr 1 1 0 G.length) own fuel (.slr 1 2 0 L.length) (.slr 5 3 0 O.length) .nils .nils .nils .nils)],.live 1 true w1 (G.map iv),.live 1 true w2 (L.map iv),.live 5 true w3 (O.map Ab.cells)]
  fun o h'=>o=.ret (.tup [])∧∃ww,h'=[.live 19 false true [(rc s d hr (.slr 1 1 0 G.length) own fuel (.slr 1 2 0 L.length) (.slr 5 3 0 O.length) (.slr 1 4 0 s.cons.length) .nils .nils .nils)],.live 1 true w1 (G.map iv),.live 1 true w2 (L.map iv),.live 5 true w3 (O.map Ab.cells),.live 1 true ww ((Jc (Bt s d hr G) s.cons 0 (abI s.cons.length 0)).map iv)]:=by
 have hl':s.cons.length≤maxLen:=by unfold maxLen;omega
 have h40:((s.cons.length:Int)≤1099511627776)=True:=eq_true (by omega)
 refine Nk rfl Tryz.func106 rfl rfl ?_
 simp only[Tryz.f106]
 (have hb:=trivial;with_reducible repeat' (first|simp only[hb,Vc.down,seval,Lc.down,aaE,h40,adM,adN]|refine Aj ?_ ?_<;>intro hb|refine fd ?_|fail))
 generalize hL:CB.lp _ _ _ _ _=LP
 refine Yn (Pz (s:=s) (d:=d) (hr:=hr) (y:=.yl 6) (Bt s d hr G) (fun i a h=>(∃ww g,h=.live 19 false false [(rc s d hr (.slr 1 1 0 G.length) own fuel (.slr 1 2 0 L.length) (.slr 5 3 0 O.length) (.slr 1 5 0 s.cons.length) .nils .nils .nils)]::.live 1 true false (G.map iv)::.live 1 true false (L.map iv)::.live 5 true false (O.map Ab.cells)::  .live 1 false false [[.ptr 0 0 0]]::.live 1 true ww (a.map iv)::LP::g∧Bd g=true∧a.length=s.cons.length∧(ww=false→a=abI s.cons.length 0))) hl' ?_ ?_ ?_ ?_ (abI s.cons.length 0) ?_) ?_
 ·rintro i a h ⟨ww,g,rfl,_,_,_⟩
  exact⟨_,_,_,_,_,_,_,_,_,_,_,rfl⟩
 ·rintro i a h fl w rows ⟨ww,g,rfl,hqg,hal,hwr⟩
  exact⟨ww,g++[.live 11 fl w rows],rfl,by rw[Dv,hqg];rfl,hal,hwr⟩
 ·rintro i c a h hx hact ⟨ww,g,rfl,hqg,hal,hwr⟩
  obtain⟨hz,hr0,hrl⟩:=hc c (adP hx)
  have hil:i<s.cons.length:=(adF.1 hx).1
  have hct:=cK s d.noms d.nn i hr (by unfold maxLen;omega)
  have hii:((i:Int)<(s.cons.length:Int))=True:=eq_true (by omega)
  have hiG:((i:Int)<(G.length:Int))=True:=eq_true (by omega)
  have aG:G[i]?=some (gI G i):=by have:=Ht (l:=G) (i:=(i:Int)) (by simp;omega);simpa using this
  have aA:a[i]?=some (gI a i):=by have:=Ht (l:=a) (i:=(i:Int)) (by simp;omega);simpa using this
  have aW:∀v,(a.map iv).set i [.int .i64 v]=(sI a i v).map iv:=fun v=>by have:=Fo a (i:Int) v;simpa using this
  have hrt:=fun g=>pI c g (Ry c) (by unfold Ry;rw[adL (aiK.2 hr0)];rfl) hrl hz
  have hroom:∀(tl:Aa),Bo.call (.sh 130) [.ptr 0 0 0,.int .i64 i] (.live 19 false false [(rc s d hr (.slr 1 1 0 G.length) own fuel (.slr 1 2 0 L.length) (.slr 5 3 0 O.length) (.slr 1 5 0 s.cons.length) .nils .nils .nils)]::.live 1 true false (G.map iv)::tl)=some (.ret (.int .i64 (IntKind.i64.wrap (c.space-gI G i))),.live 19 false false [(rc s d hr (.slr 1 1 0 G.length) own fuel (.slr 1 2 0 L.length) (.slr 5 3 0 O.length) (.slr 1 5 0 s.cons.length) .nils .nils .nils)]::.live 1 true false (G.map iv)::tl):=fun tl=>
   bI (b:=0) (bg:=1) (n:=G.length) rfl rfl rfl ⟨by omega,by omega⟩ (by simpa using hx)
  have round:∀g0:Aa,Bd g0=true→RnQ Bo ([.int .i64 i,.agg [.bool c.firm,.int .i64 c.space,.int .i64 c.lo,.int .i64 c.hi,Bj 3 true c.nn (c.rates.map Bh.cells),.int .i64 c.gas,.int .i64 c.fixed,.int .i64 c.inn,.int .i64 c.out,.int .i64 c.cut,.int .i64 c.lack]]++[.yl 6]) (.live 19 false false [(rc s d hr (.slr 1 1 0 G.length) own fuel (.slr 1 2 0 L.length) (.slr 5 3 0 O.length) (.slr 1 5 0 s.cons.length) .nils .nils .nils)]::.live 1 true false (G.map iv)::.live 1 true false (L.map iv)::.live 5 true false (O.map Ab.cells)::  .live 1 false false [[.ptr 0 0 0]]::.live 1 true false (a.map iv)::LP::g0)
   fun o h'=>o=.ret (.bool true)∧∃ww g',h'=.live 19 false false [(rc s d hr (.slr 1 1 0 G.length) own fuel (.slr 1 2 0 L.length) (.slr 5 3 0 O.length) (.slr 1 5 0 s.cons.length) .nils .nils .nils)]::.live 1 true false (G.map iv)::.live 1 true false (L.map iv)::.live 5 true false (O.map Ab.cells)::  .live 1 false false [[.ptr 0 0 0]]::.live 1 true ww ((Bt s d hr G i c a).map iv)::LP::(g0++g')∧Bd g'=true∧(ww=false→Bt s d hr G i c a=a):=by
   subst hL
   intro g0 hq0
   have hse:=fun i l l'=>Ya hq0 i l l'
   refine sM rfl rfl ?_
   cases hk:decide (Lm s.lead d.noms i hr d.noms (0,-1)<0)with
   |true=>
    (have hb:=trivial;with_reducible repeat' (first|simp only[hb,Vc.down,seval,Lc.down,hct,hk,hx,Ag.cells]|refine Aj ?_ ?_<;>intro hb|refine fd ?_|fail))
    have hwa:Bt s d hr G i c a=a:=by simp[Bt,hact,of_decide_eq_true hk]
    exact⟨_,_,rfl,rfl,false,[_],by rw[hwa],rfl,fun _=>hwa⟩
   |false=>
    have hkn:=of_decide_eq_false hk
    obtain⟨hk0,nk,hnk⟩:=pS hkn
    have hk0':(0≤Lm s.lead d.noms i hr d.noms (0,-1))=True:=eq_true hk0
    (have hb:=trivial;with_reducible repeat' (first|simp only[hb,Vc.down,seval,Lc.down,hct,hk,hx,Ag.cells,Gl.cells,Bh.cells,hk0',hnk,hrt,hroom,hii,hiG,aG,aA,aW,hse,iv,aaE]|refine Aj ?_ ?_<;>intro hb|((refine Hh (g0.length) 6 ?_ ?_);(simp (discharger:=decide) only[He,Et,acZ,acM,Dp,Gw,Gz,Hg,Gv,Dj,Eu,Eo,acT,ab1];kernel_rfl);intro _)|refine jH ?_|fail))
    exact⟨_,_,rfl,rfl,true,[_,_],by rw[show Bt s d hr G i c a=sI a i (lQ c nk.amount (gI G i)) by simp[Bt,hact,hkn,Xi,hnk]];rfl,rfl,fun h=>by cases h⟩
  obtain⟨o,h',e,rfl,ww',g',rfl,hq',hwa⟩:=round (dN g) (Lx hqg)
  have hst:=fun i l=>Hm hqg i l
  have hLc:LP.clean=LP:=by rw[←hL];rfl
  have hLq:LP.quiet LP=true:=by rw[←hL];rfl
  simp only[abH,adA]at e
  have hal':(Bt s d hr G i c a).length=s.cons.length:=by unfold Bt;split<;>(try split)<;>simp[Bi,hal]
  have hgg:Bd (g++g')=true:=by rw[Dv,hqg,hq'];rfl
  cases ww' with
  |false=>
   refine⟨_,by simp only[Vc.down,seval,hLc,e,hLq,hst];exact rfl,ww,g++g',?_,hgg,hal',fun h=>by rw[hwa rfl];exact hwr h⟩
   rw[hwa rfl,Bf]
   rfl
  |true=>
   refine⟨_,by simp only[Vc.down,seval,hLc,e,hLq,hst];exact rfl,true,g++g',?_,hgg,hal',fun h=>by cases h⟩
   simp only[Ar,Bf,Cb,adI,adJ]
   rfl
 ·rintro i c a h hx hact ⟨ww,g,rfl,hqg,hal,hwr⟩
  exact⟨ww,g,by simp[Bt,hact],hqg,by simpa [Bt,hact]using hal,by simpa [Bt,hact]using hwr⟩
 ·exact⟨false,[],by simp[iv],rfl,by simp,fun _=>rfl⟩
 ·rintro o h' ⟨rfl,ww,g,rfl,hqg,hal,hwr⟩
  have hst:=fun i l=>Hm hqg i l
  subst hL
  have hrep:abI s.cons.length [AV.int .i64 0]=(abI s.cons.length 0).map iv:=by simp[iv]
  cases ww with
  |false=>
   rw[hwr rfl]
   (have hb:=trivial;with_reducible repeat' (first|simp only[hb,Vc.down,seval,Lc.down,hst,Bf,abH,hrep]|refine Aj ?_ ?_<;>intro hb|refine fd ?_|fail))
   exact⟨_,rfl⟩
  |true=>
   (have hb:=trivial;with_reducible repeat' (first|simp only[hb,Vc.down,seval,Lc.down,hst,Bf,abH]|refine Aj ?_ ?_<;>intro hb|refine fd ?_|fail))
   exact⟨_,rfl⟩
theorem af2{s:Ac}{d:Ao}{w w1 w2 w3 w5:Bool}{hr own fuel:Int}{G L R:List Int}{O:List Ab}(hG:G.length=s.cons.length)(hl:s.cons.length≤1000)(hn:d.noms.length≤1000)(hc:∀c∈s.cons,acH c):
 Vo Bo 106 [.ptr 0 0 0] [.live 19 false w [(rc s d hr (.slr 1 1 0 G.length) own fuel (.slr 1 2 0 L.length) .nils .nils .nils .nils (.slr 1 3 0 R.length))],.live 1 true w1 (G.map iv),.live 1 true w2 (L.map iv),.live 1 true w5 (R.map iv)]
  fun o h'=>o=.ret (.tup [])∧∃ww,h'=[.live 19 false true [(rc s d hr (.slr 1 1 0 G.length) own fuel (.slr 1 2 0 L.length) .nils (.slr 1 4 0 s.cons.length) .nils .nils (.slr 1 3 0 R.length))],.live 1 true w1 (G.map iv),.live 1 true w2 (L.map iv),.live 1 true w5 (R.map iv),.live 1 true ww ((Jc (Bt s d hr G) s.cons 0 (abI s.cons.length 0)).map iv)]:=by
 have hl':s.cons.length≤maxLen:=by unfold maxLen;omega
 have h40:((s.cons.length:Int)≤1099511627776)=True:=eq_true (by omega)
 refine Nk rfl Tryz.func106 rfl rfl ?_
 simp only[Tryz.f106]
 (have hb:=trivial;with_reducible repeat' (first|simp only[hb,Vc.down,seval,Lc.down,aaE,h40,adM,adN]|refine Aj ?_ ?_<;>intro hb|refine fd ?_|fail))
 generalize hL:CB.lp _ _ _ _ _=LP
 refine Yn (Pz (s:=s) (d:=d) (hr:=hr) (y:=.yl 6) (Bt s d hr G) (fun i a h=>(∃ww g,h=.live 19 false false [(rc s d hr (.slr 1 1 0 G.length) own fuel (.slr 1 2 0 L.length) .nils (.slr 1 5 0 s.cons.length) .nils .nils (.slr 1 3 0 R.length))]::.live 1 true false (G.map iv)::.live 1 true false (L.map iv)::  .live 1 true false (R.map iv)::.live 1 false false [[.ptr 0 0 0]]::.live 1 true ww (a.map iv)::LP::g∧Bd g=true∧a.length=s.cons.length∧(ww=false→a=abI s.cons.length 0))) hl' ?_ ?_ ?_ ?_ (abI s.cons.length 0) ?_) ?_
 ·rintro i a h ⟨ww,g,rfl,_,_,_⟩
  exact⟨_,_,_,_,_,_,_,_,_,_,_,rfl⟩
 ·rintro i a h fl w rows ⟨ww,g,rfl,hqg,hal,hwr⟩
  exact⟨ww,g++[.live 11 fl w rows],rfl,by rw[Dv,hqg];rfl,hal,hwr⟩
 ·rintro i c a h hx hact ⟨ww,g,rfl,hqg,hal,hwr⟩
  obtain⟨hz,hr0,hrl⟩:=hc c (adP hx)
  have hil:i<s.cons.length:=(adF.1 hx).1
  have hct:=cK s d.noms d.nn i hr (by unfold maxLen;omega)
  have hii:((i:Int)<(s.cons.length:Int))=True:=eq_true (by omega)
  have hiG:((i:Int)<(G.length:Int))=True:=eq_true (by omega)
  have aG:G[i]?=some (gI G i):=by have:=Ht (l:=G) (i:=(i:Int)) (by simp;omega);simpa using this
  have aA:a[i]?=some (gI a i):=by have:=Ht (l:=a) (i:=(i:Int)) (by simp;omega);simpa using this
  have aW:∀v,(a.map iv).set i [.int .i64 v]=(sI a i v).map iv:=fun v=>by have:=Fo a (i:Int) v;simpa using this
  have hrt:=fun g=>pI c g (Ry c) (by unfold Ry;rw[adL (aiK.2 hr0)];rfl) hrl hz
  have hroom:∀(tl:Aa),Bo.call (.sh 130) [.ptr 0 0 0,.int .i64 i] (.live 19 false false [(rc s d hr (.slr 1 1 0 G.length) own fuel (.slr 1 2 0 L.length) .nils (.slr 1 5 0 s.cons.length) .nils .nils (.slr 1 3 0 R.length))]::.live 1 true false (G.map iv)::tl)=some (.ret (.int .i64 (IntKind.i64.wrap (c.space-gI G i))),.live 19 false false [(rc s d hr (.slr 1 1 0 G.length) own fuel (.slr 1 2 0 L.length) .nils (.slr 1 5 0 s.cons.length) .nils .nils (.slr 1 3 0 R.length))]::.live 1 true false (G.map iv)::tl):=fun tl=>
   bI (b:=0) (bg:=1) (n:=G.length) rfl rfl rfl ⟨by omega,by omega⟩ (by simpa using hx)
  have round:∀g0:Aa,Bd g0=true→RnQ Bo ([.int .i64 i,.agg [.bool c.firm,.int .i64 c.space,.int .i64 c.lo,.int .i64 c.hi,Bj 3 true c.nn (c.rates.map Bh.cells),.int .i64 c.gas,.int .i64 c.fixed,.int .i64 c.inn,.int .i64 c.out,.int .i64 c.cut,.int .i64 c.lack]]++[.yl 6]) (.live 19 false false [(rc s d hr (.slr 1 1 0 G.length) own fuel (.slr 1 2 0 L.length) .nils (.slr 1 5 0 s.cons.length) .nils .nils (.slr 1 3 0 R.length))]::.live 1 true false (G.map iv)::.live 1 true false (L.map iv)::  .live 1 true false (R.map iv)::.live 1 false false [[.ptr 0 0 0]]::.live 1 true false (a.map iv)::LP::g0)
   fun o h'=>o=.ret (.bool true)∧∃ww g',h'=.live 19 false false [(rc s d hr (.slr 1 1 0 G.length) own fuel (.slr 1 2 0 L.length) .nils (.slr 1 5 0 s.cons.length) .nils .nils (.slr 1 3 0 R.length))]::.live 1 true false (G.map iv)::.live 1 true false (L.map iv)::  .live 1 true false (R.map iv)::.live 1 false false [[.ptr 0 0 0]]::.live 1 true ww ((Bt s d hr G i c a).map iv)::LP::(g0++g')∧Bd g'=true∧(ww=false→Bt s d hr G i c a=a):=by
   subst hL
   intro g0 hq0
   have hse:=fun i l l'=>Ya hq0 i l l'
   refine sM rfl rfl ?_
   cases hk:decide (Lm s.lead d.noms i hr d.noms (0,-1)<0)with
   |true=>
    (have hb:=trivial;with_reducible repeat' (first|simp only[hb,Vc.down,seval,Lc.down,hct,hk,hx,Ag.cells]|refine Aj ?_ ?_<;>intro hb|refine fd ?_|fail))
    have hwa:Bt s d hr G i c a=a:=by simp[Bt,hact,of_decide_eq_true hk]
    exact⟨_,_,rfl,rfl,false,[_],by rw[hwa],rfl,fun _=>hwa⟩
   |false=>
    have hkn:=of_decide_eq_false hk
    obtain⟨hk0,nk,hnk⟩:=pS hkn
    have hk0':(0≤Lm s.lead d.noms i hr d.noms (0,-1))=True:=eq_true hk0
    (have hb:=trivial;with_reducible repeat' (first|simp only[hb,Vc.down,seval,Lc.down,hct,hk,hx,Ag.cells,Gl.cells,Bh.cells,hk0',hnk,hrt,hroom,hii,hiG,aG,aA,aW,hse,iv,aaE]|refine Aj ?_ ?_<;>intro hb|((refine Hh (g0.length) 6 ?_ ?_);(simp (discharger:=decide) only[He,Et,acZ,acM,Dp,Gw,Gz,Hg,Gv,Dj,Eu,Eo,acT,ab1];kernel_rfl);intro _)|refine jH ?_|fail))
    exact⟨_,_,rfl,rfl,true,[_,_],by rw[show Bt s d hr G i c a=sI a i (lQ c nk.amount (gI G i)) by simp[Bt,hact,hkn,Xi,hnk]];rfl,rfl,fun h=>by cases h⟩
  obtain⟨o,h',e,rfl,ww',g',rfl,hq',hwa⟩:=round (dN g) (Lx hqg)
  have hst:=fun i l=>Hm hqg i l
  have hLc:LP.clean=LP:=by rw[←hL];rfl
  have hLq:LP.quiet LP=true:=by rw[←hL];rfl
  simp only[abH,adA]at e
  have hal':(Bt s d hr G i c a).length=s.cons.length:=by unfold Bt;split<;>(try split)<;>simp[Bi,hal]
  have hgg:Bd (g++g')=true:=by rw[Dv,hqg,hq'];rfl
  cases ww' with
  |false=>
   refine⟨_,by simp only[Vc.down,seval,hLc,e,hLq,hst];exact rfl,ww,g++g',?_,hgg,hal',fun h=>by rw[hwa rfl];exact hwr h⟩
   rw[hwa rfl,Bf]
   rfl
  |true=>
   refine⟨_,by simp only[Vc.down,seval,hLc,e,hLq,hst];exact rfl,true,g++g',?_,hgg,hal',fun h=>by cases h⟩
   simp only[Ar,Bf,Cb,adI,adJ]
   rfl
 ·rintro i c a h hx hact ⟨ww,g,rfl,hqg,hal,hwr⟩
  exact⟨ww,g,by simp[Bt,hact],hqg,by simpa [Bt,hact]using hal,by simpa [Bt,hact]using hwr⟩
 ·exact⟨false,[],by simp[iv],rfl,by simp,fun _=>rfl⟩
 ·rintro o h' ⟨rfl,ww,g,rfl,hqg,hal,hwr⟩
  have hst:=fun i l=>Hm hqg i l
  subst hL
  have hrep:abI s.cons.length [AV.int .i64 0]=(abI s.cons.length 0).map iv:=by simp[iv]
  cases ww with
  |false=>
   rw[hwr rfl]
   (have hb:=trivial;with_reducible repeat' (first|simp only[hb,Vc.down,seval,Lc.down,hst,Bf,abH,hrep]|refine Aj ?_ ?_<;>intro hb|refine fd ?_|fail))
   exact⟨_,rfl⟩
  |true=>
   (have hb:=trivial;with_reducible repeat' (first|simp only[hb,Vc.down,seval,Lc.down,hst,Bf,abH]|refine Aj ?_ ?_<;>intro hb|refine fd ?_|fail))
   exact⟨_,rfl⟩
theorem aiW{s:Ac}{d:Ao}{w w1 w2 w3 w5:Bool}{hr own fuel:Int}{G L R:List Int}{O:List Ab}(hG:G.length=s.cons.length)(hl:s.cons.length≤1000)(hn:d.noms.length≤1000)(hc:∀c∈s.cons,acH c):
 Vo Bo 106 [.ptr 0 0 0] [.live 19 false w [(rc s d hr (.slr 1 1 0 G.length) own fuel (.slr 1 2 0 L.length) (.slr 5 3 0 O.length) .nils .nils .nils (.slr 1 4 0 R.length))],.live 1 true w1 (G.map iv),.live 1 true w2 (L.map iv),.live 5 true w3 (O.map Ab.cells),.live 1 true w5 (R.map iv)]
  fun o h'=>o=.ret (.tup [])∧∃ww,h'=[.live 19 false true [(rc s d hr (.slr 1 1 0 G.length) own fuel (.slr 1 2 0 L.length) (.slr 5 3 0 O.length) (.slr 1 5 0 s.cons.length) .nils .nils (.slr 1 4 0 R.length))],.live 1 true w1 (G.map iv),.live 1 true w2 (L.map iv),.live 5 true w3 (O.map Ab.cells),.live 1 true w5 (R.map iv),.live 1 true ww ((Jc (Bt s d hr G) s.cons 0 (abI s.cons.length 0)).map iv)]:=by
 have hl':s.cons.length≤maxLen:=by unfold maxLen;omega
 have h40:((s.cons.length:Int)≤1099511627776)=True:=eq_true (by omega)
 refine Nk rfl Tryz.func106 rfl rfl ?_
 simp only[Tryz.f106]
 (have hb:=trivial;with_reducible repeat' (first|simp only[hb,Vc.down,seval,Lc.down,aaE,h40,adM,adN]|refine Aj ?_ ?_<;>intro hb|refine fd ?_|fail))
 generalize hL:CB.lp _ _ _ _ _=LP
 refine Yn (Pz (s:=s) (d:=d) (hr:=hr) (y:=.yl 7) (Bt s d hr G) (fun i a h=>(∃ww g,h=.live 19 false false [(rc s d hr (.slr 1 1 0 G.length) own fuel (.slr 1 2 0 L.length) (.slr 5 3 0 O.length) (.slr 1 6 0 s.cons.length) .nils .nils (.slr 1 4 0 R.length))]::.live 1 true false (G.map iv)::.live 1 true false (L.map iv)::.live 5 true false (O.map Ab.cells)::.live 1 true false (R.map iv)::.live 1 false false [[.ptr 0 0 0]]::.live 1 true ww (a.map iv)::LP::g∧Bd g=true∧a.length=s.cons.length∧(ww=false→a=abI s.cons.length 0))) hl' ?_ ?_ ?_ ?_ (abI s.cons.length 0) ?_) ?_
 ·rintro i a h ⟨ww,g,rfl,_,_,_⟩
  exact⟨_,_,_,_,_,_,_,_,_,_,_,rfl⟩
 ·rintro i a h fl w rows ⟨ww,g,rfl,hqg,hal,hwr⟩
  exact⟨ww,g++[.live 11 fl w rows],rfl,by rw[Dv,hqg];rfl,hal,hwr⟩
 ·rintro i c a h hx hact ⟨ww,g,rfl,hqg,hal,hwr⟩
  obtain⟨hz,hr0,hrl⟩:=hc c (adP hx)
  have hil:i<s.cons.length:=(adF.1 hx).1
  have hct:=cK s d.noms d.nn i hr (by unfold maxLen;omega)
  have hii:((i:Int)<(s.cons.length:Int))=True:=eq_true (by omega)
  have hiG:((i:Int)<(G.length:Int))=True:=eq_true (by omega)
  have aG:G[i]?=some (gI G i):=by have:=Ht (l:=G) (i:=(i:Int)) (by simp;omega);simpa using this
  have aA:a[i]?=some (gI a i):=by have:=Ht (l:=a) (i:=(i:Int)) (by simp;omega);simpa using this
  have aW:∀v,(a.map iv).set i [.int .i64 v]=(sI a i v).map iv:=fun v=>by have:=Fo a (i:Int) v;simpa using this
  have hrt:=fun g=>pI c g (Ry c) (by unfold Ry;rw[adL (aiK.2 hr0)];rfl) hrl hz
  have hroom:∀(tl:Aa),Bo.call (.sh 130) [.ptr 0 0 0,.int .i64 i] (.live 19 false false [(rc s d hr (.slr 1 1 0 G.length) own fuel (.slr 1 2 0 L.length) (.slr 5 3 0 O.length) (.slr 1 6 0 s.cons.length) .nils .nils (.slr 1 4 0 R.length))]::.live 1 true false (G.map iv)::tl)=some (.ret (.int .i64 (IntKind.i64.wrap (c.space-gI G i))),.live 19 false false [(rc s d hr (.slr 1 1 0 G.length) own fuel (.slr 1 2 0 L.length) (.slr 5 3 0 O.length) (.slr 1 6 0 s.cons.length) .nils .nils (.slr 1 4 0 R.length))]::.live 1 true false (G.map iv)::tl):=fun tl=>
   bI (b:=0) (bg:=1) (n:=G.length) rfl rfl rfl ⟨by omega,by omega⟩ (by simpa using hx)
  have round:∀g0:Aa,Bd g0=true→RnQ Bo ([.int .i64 i,.agg [.bool c.firm,.int .i64 c.space,.int .i64 c.lo,.int .i64 c.hi,Bj 3 true c.nn (c.rates.map Bh.cells),.int .i64 c.gas,.int .i64 c.fixed,.int .i64 c.inn,.int .i64 c.out,.int .i64 c.cut,.int .i64 c.lack]]++[.yl 7]) (.live 19 false false [(rc s d hr (.slr 1 1 0 G.length) own fuel (.slr 1 2 0 L.length) (.slr 5 3 0 O.length) (.slr 1 6 0 s.cons.length) .nils .nils (.slr 1 4 0 R.length))]::.live 1 true false (G.map iv)::.live 1 true false (L.map iv)::.live 5 true false (O.map Ab.cells)::.live 1 true false (R.map iv)::.live 1 false false [[.ptr 0 0 0]]::.live 1 true false (a.map iv)::LP::g0)
   fun o h'=>o=.ret (.bool true)∧∃ww g',h'=.live 19 false false [(rc s d hr (.slr 1 1 0 G.length) own fuel (.slr 1 2 0 L.length) (.slr 5 3 0 O.length) (.slr 1 6 0 s.cons.length) .nils .nils (.slr 1 4 0 R.length))]::.live 1 true false (G.map iv)::.live 1 true false (L.map iv)::.live 5 true false (O.map Ab.cells)::.live 1 true false (R.map iv)::.live 1 false false [[.ptr 0 0 0]]::.live 1 true ww ((Bt s d hr G i c a).map iv)::LP::(g0++g')∧Bd g'=true∧(ww=false→Bt s d hr G i c a=a):=by
   subst hL
   intro g0 hq0
   have hse:=fun i l l'=>Ya hq0 i l l'
   refine sM rfl rfl ?_
   cases hk:decide (Lm s.lead d.noms i hr d.noms (0,-1)<0)with
   |true=>
    (have hb:=trivial;with_reducible repeat' (first|simp only[hb,Vc.down,seval,Lc.down,hct,hk,hx,Ag.cells]|refine Aj ?_ ?_<;>intro hb|refine fd ?_|fail))
    have hwa:Bt s d hr G i c a=a:=by simp[Bt,hact,of_decide_eq_true hk]
    exact⟨_,_,rfl,rfl,false,[_],by rw[hwa],rfl,fun _=>hwa⟩
   |false=>
    have hkn:=of_decide_eq_false hk
    obtain⟨hk0,nk,hnk⟩:=pS hkn
    have hk0':(0≤Lm s.lead d.noms i hr d.noms (0,-1))=True:=eq_true hk0
    (have hb:=trivial;with_reducible repeat' (first|simp only[hb,Vc.down,seval,Lc.down,hct,hk,hx,Ag.cells,Gl.cells,Bh.cells,hk0',hnk,hrt,hroom,hii,hiG,aG,aA,aW,hse,iv,aaE]|refine Aj ?_ ?_<;>intro hb|((refine Hh (g0.length) 6 ?_ ?_);(simp (discharger:=decide) only[He,Et,acZ,acM,Dp,Gw,Gz,Hg,Gv,Dj,Eu,Eo,acT,ab1];kernel_rfl);intro _)|refine jH ?_|fail))
    exact⟨_,_,rfl,rfl,true,[_,_],by rw[show Bt s d hr G i c a=sI a i (lQ c nk.amount (gI G i)) by simp[Bt,hact,hkn,Xi,hnk]];rfl,rfl,fun h=>by cases h⟩
  obtain⟨o,h',e,rfl,ww',g',rfl,hq',hwa⟩:=round (dN g) (Lx hqg)
  have hst:=fun i l=>Hm hqg i l
  have hLc:LP.clean=LP:=by rw[←hL];rfl
  have hLq:LP.quiet LP=true:=by rw[←hL];rfl
  simp only[abH,adA]at e
  have hal':(Bt s d hr G i c a).length=s.cons.length:=by unfold Bt;split<;>(try split)<;>simp[Bi,hal]
  have hgg:Bd (g++g')=true:=by rw[Dv,hqg,hq'];rfl
  cases ww' with
  |false=>
   refine⟨_,by simp only[Vc.down,seval,hLc,e,hLq,hst];exact rfl,ww,g++g',?_,hgg,hal',fun h=>by rw[hwa rfl];exact hwr h⟩
   rw[hwa rfl,Bf]
   rfl
  |true=>
   refine⟨_,by simp only[Vc.down,seval,hLc,e,hLq,hst];exact rfl,true,g++g',?_,hgg,hal',fun h=>by cases h⟩
   simp only[Ar,Bf,Cb,adI,adJ]
   rfl
 ·rintro i c a h hx hact ⟨ww,g,rfl,hqg,hal,hwr⟩
  exact⟨ww,g,by simp[Bt,hact],hqg,by simpa [Bt,hact]using hal,by simpa [Bt,hact]using hwr⟩
 ·exact⟨false,[],by simp[iv],rfl,by simp,fun _=>rfl⟩
 ·rintro o h' ⟨rfl,ww,g,rfl,hqg,hal,hwr⟩
  have hst:=fun i l=>Hm hqg i l
  subst hL
  have hrep:abI s.cons.length [AV.int .i64 0]=(abI s.cons.length 0).map iv:=by simp[iv]
  cases ww with
  |false=>
   rw[hwr rfl]
   (have hb:=trivial;with_reducible repeat' (first|simp only[hb,Vc.down,seval,Lc.down,hst,Bf,abH,hrep]|refine Aj ?_ ?_<;>intro hb|refine fd ?_|fail))
   exact⟨_,rfl⟩
  |true=>
   (have hb:=trivial;with_reducible repeat' (first|simp only[hb,Vc.down,seval,Lc.down,hst,Bf,abH]|refine Aj ?_ ?_<;>intro hb|refine fd ?_|fail))
   exact⟨_,rfl⟩
def Qe(a b:Int):Int:=if a<b then b else a
def Xt(c:Ag)(n:Int):Int:=IntKind.i64.wrap (IntKind.i64.wrap (c.fixed+IntKind.i64.wrap (c.inn*Qe 0 n))+IntKind.i64.wrap (c.out*Qe 0 (IntKind.i64.wrap (0-n))))
def wP(c:Ag)(k:Int):Int:=IntKind.i64.wrap (c.cut*Qe k (IntKind.i64.wrap (0-k)))
def Br(hr:Int)(F W A:List Int)(i:Nat)(c:Ag)(L:List Int):List Int:=
 if Gg hr c.lo c.hi=true then
  if c.firm=true then sI (sI L i (IntKind.i64.wrap (gI L i+Xt c (gI F i)))) i (IntKind.i64.wrap (gI (sI L i (IntKind.i64.wrap (gI L i+Xt c (gI F i)))) i-wP c (IntKind.i64.wrap (gI W i-gI A i))))
  else sI L i (IntKind.i64.wrap (gI L i+Xt c (gI F i)))
 else L
theorem Np(hr:Int)(F W A:List Int)(i:Nat)(c:Ag)(L:List Int):(Br hr F W A i c L).length=L.length:=by
 unfold Br;split<;>(try split)<;>simp[Bi]
theorem agX{s:Ac}{d:Ao}{w w1 w2 w3 w4 w5 w6 w7:Bool}{hr own fuel:Int}{G L W A F R:List Int}{O:List Ab}(hL:L.length=s.cons.length)(hW:W.length=s.cons.length)(hAl:A.length=s.cons.length)(hF:F.length=s.cons.length)(hl:s.cons.length≤1000):
 Vo Bo 110 [.ptr 0 0 0] [.live 19 false w [(rc s d hr (.slr 1 1 0 G.length) own fuel (.slr 1 2 0 L.length) .nils (.slr 1 3 0 W.length) (.slr 1 4 0 A.length) (.slr 1 5 0 F.length) .nils)],.live 1 true w1 (G.map iv),.live 1 true w2 (L.map iv),.live 1 true w4 (W.map iv),.live 1 true w6 (A.map iv),.live 1 true w7 (F.map iv)]
  fun o h'=>o=.ret (.tup [])∧∃wL,(wL=false→Jc (Br hr F W A) s.cons 0 L=L)∧h'=[.live 19 false w [(rc s d hr (.slr 1 1 0 G.length) own fuel (.slr 1 2 0 L.length) .nils (.slr 1 3 0 W.length) (.slr 1 4 0 A.length) (.slr 1 5 0 F.length) .nils)],.live 1 true w1 (G.map iv),.live 1 true wL ((Jc (Br hr F W A) s.cons 0 L).map iv),.live 1 true w4 (W.map iv),.live 1 true w6 (A.map iv),.live 1 true w7 (F.map iv)]:=by
 have hl':s.cons.length≤maxLen:=by unfold maxLen;omega
 refine Nk rfl Tryz.func110 rfl rfl ?_
 simp only[Tryz.f110]
 (have hb:=trivial;with_reducible repeat' (first|simp only[hb,Vc.down,seval,Kz.down,aaE]|refine Aj ?_ ?_<;>intro hb|refine fd ?_|fail))
 generalize hLP:CB.lp _ _ _ _ _=LP
 refine Yn (Pz (s:=s) (d:=d) (hr:=hr) (y:=.yl 7) (Br hr F W A) (fun i a h=>(∃ww g,h=.live 19 false false [(rc s d hr (.slr 1 1 0 G.length) own fuel (.slr 1 2 0 L.length) .nils (.slr 1 3 0 W.length) (.slr 1 4 0 A.length) (.slr 1 5 0 F.length) .nils)]::.live 1 true false (G.map iv)::.live 1 true ww (a.map iv)::  .live 1 true false (W.map iv)::.live 1 true false (A.map iv)::.live 1 true false (F.map iv)::  .live 1 false false [[.ptr 0 0 0]]::LP::g∧Bd g=true∧a.length=s.cons.length∧(ww=false→a=L))) hl' ?_ ?_ ?_ ?_ L ?_) ?_
 ·rintro i a h ⟨ww,g,rfl,_,_,_⟩
  exact⟨_,_,_,_,_,_,_,_,_,_,_,rfl⟩
 ·rintro i a h fl w rows ⟨ww,g,rfl,hqg,hal,hwr⟩
  exact⟨ww,g++[.live 11 fl w rows],rfl,by rw[Dv,hqg];rfl,hal,hwr⟩
 ·rintro i c a h hx hact ⟨ww,g,rfl,hqg,hal,hwr⟩
  have hil:i<s.cons.length:=(adF.1 hx).1
  have hii:((i:Int)<(s.cons.length:Int))=True:=eq_true (by omega)
  have at_:∀l:List Int,l.length=s.cons.length→l[i]?=some (gI l i):=fun l hl=>by have:=Ht (l:=l) (i:=(i:Int)) (by simp;omega);simpa using this
  have aF:=at_ F hF
  have aW:=at_ W hW
  have aA:=at_ A hAl
  have aL:=at_ a hal
  have aL2:∀v,(sI a i v)[i]?=some (gI (sI a i v) i):=fun v=>at_ _ (by rw[Bi];exact hal)
  have hiL:((i:Int)<(L.length:Int))=True:=eq_true (by omega)
  have hiW:((i:Int)<(W.length:Int))=True:=eq_true (by omega)
  have hiA:((i:Int)<(A.length:Int))=True:=eq_true (by omega)
  have hiF:((i:Int)<(F.length:Int))=True:=eq_true (by omega)
  have aS:∀(a:List Int) v,(a.map iv).set i [.int .i64 v]=(sI a i v).map iv:=fun a v=>by have:=Fo a (i:Int) v;simpa using this
  have hal':(Br hr F W A i c a).length=s.cons.length:=by rw[Np];exact hal
  have round:∀g0:Aa,Bd g0=true→RnQ Bo ([.int .i64 i,.agg [.bool c.firm,.int .i64 c.space,.int .i64 c.lo,.int .i64 c.hi,Bj 3 true c.nn (c.rates.map Bh.cells),.int .i64 c.gas,.int .i64 c.fixed,.int .i64 c.inn,.int .i64 c.out,.int .i64 c.cut,.int .i64 c.lack]]++[.yl 7]) (.live 19 false false [(rc s d hr (.slr 1 1 0 G.length) own fuel (.slr 1 2 0 L.length) .nils (.slr 1 3 0 W.length) (.slr 1 4 0 A.length) (.slr 1 5 0 F.length) .nils)]::.live 1 true false (G.map iv)::.live 1 true false (a.map iv)::  .live 1 true false (W.map iv)::.live 1 true false (A.map iv)::.live 1 true false (F.map iv)::  .live 1 false false [[.ptr 0 0 0]]::LP::g0)
   fun o h'=>o=.ret (.bool true)∧∃g',h'=.live 19 false false [(rc s d hr (.slr 1 1 0 G.length) own fuel (.slr 1 2 0 L.length) .nils (.slr 1 3 0 W.length) (.slr 1 4 0 A.length) (.slr 1 5 0 F.length) .nils)]::.live 1 true false (G.map iv)::.live 1 true true ((Br hr F W A i c a).map iv)::  .live 1 true false (W.map iv)::.live 1 true false (A.map iv)::.live 1 true false (F.map iv)::  .live 1 false false [[.ptr 0 0 0]]::LP::(g0++g')∧Bd g'=true:=by
   subst hLP
   intro g0 hq0
   refine sM rfl rfl ?_
   cases hf:c.firm with
   |true=>
    (have hb:=trivial;with_reducible repeat' (first|simp only[hb,Vc.down,seval,Kz.down,hx,hf,Ag.cells,hiL,hiW,hiA,hiF,aF,aW,aA,aL,aL2,aS,iv,aaE]|refine Aj ?_ ?_<;>intro hb|((refine Hh (g0.length) 7 ?_ ?_);(simp (discharger:=decide) only[He,Et,acZ,acM,Dp,Gw,Gz,Hg,Gv,Dj,Eu,Eo,acT,ab1];kernel_rfl);intro _)|refine jH ?_|fail))
    exact⟨_,_,rfl,rfl,[_],by rw[show Br hr F W A i c a=sI (sI a i (IntKind.i64.wrap (gI a i+Xt c (gI F i)))) i (IntKind.i64.wrap (gI (sI a i (IntKind.i64.wrap (gI a i+Xt c (gI F i)))) i-wP c (IntKind.i64.wrap (gI W i-gI A i)))) by simp[Br,hact,hf]];rfl,rfl⟩
   |false=>
    (have hb:=trivial;with_reducible repeat' (first|simp only[hb,Vc.down,seval,Kz.down,hx,hf,Ag.cells,hiL,hiW,hiA,hiF,aF,aW,aA,aL,aL2,aS,iv,aaE]|refine Aj ?_ ?_<;>intro hb|((refine Hh (g0.length) 7 ?_ ?_);(simp (discharger:=decide) only[He,Et,acZ,acM,Dp,Gw,Gz,Hg,Gv,Dj,Eu,Eo,acT,ab1];kernel_rfl);intro _)|refine jH ?_|fail))
    exact⟨_,_,rfl,rfl,[_],by rw[show Br hr F W A i c a=sI a i (IntKind.i64.wrap (gI a i+Xt c (gI F i))) by simp[Br,hact,hf]];rfl,rfl⟩
  obtain⟨o,h',e,rfl,g',rfl,hq'⟩:=round (dN g) (Lx hqg)
  have hst:=fun i l=>Hm hqg i l
  have hLc:LP.clean=LP:=by rw[←hLP];rfl
  have hLq:LP.quiet LP=true:=by rw[←hLP];rfl
  simp only[abH,adA]at e
  have hgg:Bd (g++g')=true:=by rw[Dv,hqg,hq'];rfl
  refine⟨_,by simp only[Vc.down,seval,hLc,e,hLq,hst];exact rfl,true,g++g',?_,hgg,hal',fun h=>by cases h⟩
  simp only[Ar,Bf,Cb,adI,adJ]
  rfl
 ·rintro i c a h hx hact ⟨ww,g,rfl,hqg,hal,hwr⟩
  exact⟨ww,g,by simp[Br,hact],hqg,by simpa [Br,hact]using hal,by simpa [Br,hact]using hwr⟩
 ·exact⟨false,[],rfl,rfl,hL,fun _=>rfl⟩
 ·rintro o h' ⟨rfl,ww,g,rfl,hqg,hal,hwr⟩
  have hst:=fun i l=>Hm hqg i l
  subst hLP
  cases ww with
  |false=>
   have hw0:=hwr rfl
   rw[hwr rfl]
   (have hb:=trivial;with_reducible repeat' (first|simp only[hb,Vc.down,seval,Kz.down,hst,Bf,abH]|refine Aj ?_ ?_<;>intro hb|refine fd ?_|fail))
   exact⟨w2,by simp⟩
  |true=>
   (have hb:=trivial;with_reducible repeat' (first|simp only[hb,Vc.down,seval,Kz.down,hst,Bf,abH]|refine Aj ?_ ?_<;>intro hb|refine fd ?_|fail))
   exact⟨true,(fun h=>by cases h),rfl⟩
theorem af0{s:Ac}{d:Ao}{w w1 w2 w3 w4 w5 w6 w7:Bool}{hr own fuel:Int}{G L W A F R:List Int}{O:List Ab}(hL:L.length=s.cons.length)(hW:W.length=s.cons.length)(hAl:A.length=s.cons.length)(hF:F.length=s.cons.length)(hl:s.cons.length≤1000):
 Vo Bo 110 [.ptr 0 0 0] [.live 19 false w [(rc s d hr (.slr 1 1 0 G.length) own fuel (.slr 1 2 0 L.length) (.slr 5 3 0 O.length) (.slr 1 4 0 W.length) (.slr 1 5 0 A.length) (.slr 1 6 0 F.length) .nils)],.live 1 true w1 (G.map iv),.live 1 true w2 (L.map iv),.live 5 true w3 (O.map Ab.cells),.live 1 true w4 (W.map iv),.live 1 true w6 (A.map iv),.live 1 true w7 (F.map iv)]
  fun o h'=>o=.ret (.tup [])∧∃wL,(wL=false→Jc (Br hr F W A) s.cons 0 L=L)∧h'=[.live 19 false w [(rc s d hr (.slr 1 1 0 G.length) own fuel (.slr 1 2 0 L.length) (.slr 5 3 0 O.length) (.slr 1 4 0 W.length) (.slr 1 5 0 A.length) (.slr 1 6 0 F.length) .nils)],.live 1 true w1 (G.map iv),.live 1 true wL ((Jc (Br hr F W A) s.cons 0 L).map iv),.live 5 true w3 (O.map Ab.cells),.live 1 true w4 (W.map iv),.live 1 true w6 (A.map iv),.live 1 true w7 (F.map iv)]:=by
 have hl':s.cons.length≤maxLen:=by unfold maxLen;omega
 refine Nk rfl Tryz.func110 rfl rfl ?_
 simp only[Tryz.f110]
 (have hb:=trivial;with_reducible repeat' (first|simp only[hb,Vc.down,seval,Kz.down,aaE]|refine Aj ?_ ?_<;>intro hb|refine fd ?_|fail))
 generalize hLP:CB.lp _ _ _ _ _=LP
 refine Yn (Pz (s:=s) (d:=d) (hr:=hr) (y:=.yl 8) (Br hr F W A) (fun i a h=>(∃ww g,h=.live 19 false false [(rc s d hr (.slr 1 1 0 G.length) own fuel (.slr 1 2 0 L.length) (.slr 5 3 0 O.length) (.slr 1 4 0 W.length) (.slr 1 5 0 A.length) (.slr 1 6 0 F.length) .nils)]::.live 1 true false (G.map iv)::.live 1 true ww (a.map iv)::.live 5 true false (O.map Ab.cells)::.live 1 true false (W.map iv)::.live 1 true false (A.map iv)::.live 1 true false (F.map iv)::  .live 1 false false [[.ptr 0 0 0]]::LP::g∧Bd g=true∧a.length=s.cons.length∧(ww=false→a=L))) hl' ?_ ?_ ?_ ?_ L ?_) ?_
 ·rintro i a h ⟨ww,g,rfl,_,_,_⟩
  exact⟨_,_,_,_,_,_,_,_,_,_,_,rfl⟩
 ·rintro i a h fl w rows ⟨ww,g,rfl,hqg,hal,hwr⟩
  exact⟨ww,g++[.live 11 fl w rows],rfl,by rw[Dv,hqg];rfl,hal,hwr⟩
 ·rintro i c a h hx hact ⟨ww,g,rfl,hqg,hal,hwr⟩
  have hil:i<s.cons.length:=(adF.1 hx).1
  have hii:((i:Int)<(s.cons.length:Int))=True:=eq_true (by omega)
  have at_:∀l:List Int,l.length=s.cons.length→l[i]?=some (gI l i):=fun l hl=>by have:=Ht (l:=l) (i:=(i:Int)) (by simp;omega);simpa using this
  have aF:=at_ F hF
  have aW:=at_ W hW
  have aA:=at_ A hAl
  have aL:=at_ a hal
  have aL2:∀v,(sI a i v)[i]?=some (gI (sI a i v) i):=fun v=>at_ _ (by rw[Bi];exact hal)
  have hiL:((i:Int)<(L.length:Int))=True:=eq_true (by omega)
  have hiW:((i:Int)<(W.length:Int))=True:=eq_true (by omega)
  have hiA:((i:Int)<(A.length:Int))=True:=eq_true (by omega)
  have hiF:((i:Int)<(F.length:Int))=True:=eq_true (by omega)
  have aS:∀(a:List Int) v,(a.map iv).set i [.int .i64 v]=(sI a i v).map iv:=fun a v=>by have:=Fo a (i:Int) v;simpa using this
  have hal':(Br hr F W A i c a).length=s.cons.length:=by rw[Np];exact hal
  have round:∀g0:Aa,Bd g0=true→RnQ Bo ([.int .i64 i,.agg [.bool c.firm,.int .i64 c.space,.int .i64 c.lo,.int .i64 c.hi,Bj 3 true c.nn (c.rates.map Bh.cells),.int .i64 c.gas,.int .i64 c.fixed,.int .i64 c.inn,.int .i64 c.out,.int .i64 c.cut,.int .i64 c.lack]]++[.yl 8]) (.live 19 false false [(rc s d hr (.slr 1 1 0 G.length) own fuel (.slr 1 2 0 L.length) (.slr 5 3 0 O.length) (.slr 1 4 0 W.length) (.slr 1 5 0 A.length) (.slr 1 6 0 F.length) .nils)]::.live 1 true false (G.map iv)::.live 1 true false (a.map iv)::.live 5 true false (O.map Ab.cells)::.live 1 true false (W.map iv)::.live 1 true false (A.map iv)::.live 1 true false (F.map iv)::  .live 1 false false [[.ptr 0 0 0]]::LP::g0)
   fun o h'=>o=.ret (.bool true)∧∃g',h'=.live 19 false false [(rc s d hr (.slr 1 1 0 G.length) own fuel (.slr 1 2 0 L.length) (.slr 5 3 0 O.length) (.slr 1 4 0 W.length) (.slr 1 5 0 A.length) (.slr 1 6 0 F.length) .nils)]::.live 1 true false (G.map iv)::.live 1 true true ((Br hr F W A i c a).map iv)::.live 5 true false (O.map Ab.cells)::.live 1 true false (W.map iv)::.live 1 true false (A.map iv)::.live 1 true false (F.map iv)::  .live 1 false false [[.ptr 0 0 0]]::LP::(g0++g')∧Bd g'=true:=by
   subst hLP
   intro g0 hq0
   refine sM rfl rfl ?_
   cases hf:c.firm with
   |true=>
    (have hb:=trivial;with_reducible repeat' (first|simp only[hb,Vc.down,seval,Kz.down,hx,hf,Ag.cells,hiL,hiW,hiA,hiF,aF,aW,aA,aL,aL2,aS,iv,aaE]|refine Aj ?_ ?_<;>intro hb|((refine Hh (g0.length) 7 ?_ ?_);(simp (discharger:=decide) only[He,Et,acZ,acM,Dp,Gw,Gz,Hg,Gv,Dj,Eu,Eo,acT,ab1];kernel_rfl);intro _)|refine jH ?_|fail))
    exact⟨_,_,rfl,rfl,[_],by rw[show Br hr F W A i c a=sI (sI a i (IntKind.i64.wrap (gI a i+Xt c (gI F i)))) i (IntKind.i64.wrap (gI (sI a i (IntKind.i64.wrap (gI a i+Xt c (gI F i)))) i-wP c (IntKind.i64.wrap (gI W i-gI A i)))) by simp[Br,hact,hf]];rfl,rfl⟩
   |false=>
    (have hb:=trivial;with_reducible repeat' (first|simp only[hb,Vc.down,seval,Kz.down,hx,hf,Ag.cells,hiL,hiW,hiA,hiF,aF,aW,aA,aL,aL2,aS,iv,aaE]|refine Aj ?_ ?_<;>intro hb|((refine Hh (g0.length) 7 ?_ ?_);(simp (discharger:=decide) only[He,Et,acZ,acM,Dp,Gw,Gz,Hg,Gv,Dj,Eu,Eo,acT,ab1];kernel_rfl);intro _)|refine jH ?_|fail))
    exact⟨_,_,rfl,rfl,[_],by rw[show Br hr F W A i c a=sI a i (IntKind.i64.wrap (gI a i+Xt c (gI F i))) by simp[Br,hact,hf]];rfl,rfl⟩
  obtain⟨o,h',e,rfl,g',rfl,hq'⟩:=round (dN g) (Lx hqg)
  have hst:=fun i l=>Hm hqg i l
  have hLc:LP.clean=LP:=by rw[←hLP];rfl
  have hLq:LP.quiet LP=true:=by rw[←hLP];rfl
  simp only[abH,adA]at e
  have hgg:Bd (g++g')=true:=by rw[Dv,hqg,hq'];rfl
  refine⟨_,by simp only[Vc.down,seval,hLc,e,hLq,hst];exact rfl,true,g++g',?_,hgg,hal',fun h=>by cases h⟩
  simp only[Ar,Bf,Cb,adI,adJ]
  rfl
 ·rintro i c a h hx hact ⟨ww,g,rfl,hqg,hal,hwr⟩
  exact⟨ww,g,by simp[Br,hact],hqg,by simpa [Br,hact]using hal,by simpa [Br,hact]using hwr⟩
 ·exact⟨false,[],rfl,rfl,hL,fun _=>rfl⟩
 ·rintro o h' ⟨rfl,ww,g,rfl,hqg,hal,hwr⟩
  have hst:=fun i l=>Hm hqg i l
  subst hLP
  cases ww with
  |false=>
   have hw0:=hwr rfl
   rw[hwr rfl]
   (have hb:=trivial;with_reducible repeat' (first|simp only[hb,Vc.down,seval,Kz.down,hst,Bf,abH]|refine Aj ?_ ?_<;>intro hb|refine fd ?_|fail))
   exact⟨w2,by simp⟩
  |true=>
   (have hb:=trivial;with_reducible repeat' (first|simp only[hb,Vc.down,seval,Kz.down,hst,Bf,abH]|refine Aj ?_ ?_<;>intro hb|refine fd ?_|fail))
   exact⟨true,(fun h=>by cases h),rfl⟩
theorem ae4{s:Ac}{d:Ao}{w w1 w2 w3 w4 w5 w6 w7:Bool}{hr own fuel:Int}{G L W A F R:List Int}{O:List Ab}(hL:L.length=s.cons.length)(hW:W.length=s.cons.length)(hAl:A.length=s.cons.length)(hF:F.length=s.cons.length)(hl:s.cons.length≤1000):
 Vo Bo 110 [.ptr 0 0 0] [.live 19 false w [(rc s d hr (.slr 1 1 0 G.length) own fuel (.slr 1 2 0 L.length) .nils (.slr 1 3 0 W.length) (.slr 1 4 0 A.length) (.slr 1 5 0 F.length) (.slr 1 6 0 R.length))],.live 1 true w1 (G.map iv),.live 1 true w2 (L.map iv),.live 1 true w4 (W.map iv),.live 1 true w6 (A.map iv),.live 1 true w7 (F.map iv),.live 1 true w5 (R.map iv)]
  fun o h'=>o=.ret (.tup [])∧∃wL,(wL=false→Jc (Br hr F W A) s.cons 0 L=L)∧h'=[.live 19 false w [(rc s d hr (.slr 1 1 0 G.length) own fuel (.slr 1 2 0 L.length) .nils (.slr 1 3 0 W.length) (.slr 1 4 0 A.length) (.slr 1 5 0 F.length) (.slr 1 6 0 R.length))],.live 1 true w1 (G.map iv),.live 1 true wL ((Jc (Br hr F W A) s.cons 0 L).map iv),.live 1 true w4 (W.map iv),.live 1 true w6 (A.map iv),.live 1 true w7 (F.map iv),.live 1 true w5 (R.map iv)]:=by
 have hl':s.cons.length≤maxLen:=by unfold maxLen;omega
 refine Nk rfl Tryz.func110 rfl rfl ?_
 simp only[Tryz.f110]
 (have hb:=trivial;with_reducible repeat' (first|simp only[hb,Vc.down,seval,Kz.down,aaE]|refine Aj ?_ ?_<;>intro hb|refine fd ?_|fail))
 generalize hLP:CB.lp _ _ _ _ _=LP
 refine Yn (Pz (s:=s) (d:=d) (hr:=hr) (y:=.yl 8) (Br hr F W A) (fun i a h=>(∃ww g,h=.live 19 false false [(rc s d hr (.slr 1 1 0 G.length) own fuel (.slr 1 2 0 L.length) .nils (.slr 1 3 0 W.length) (.slr 1 4 0 A.length) (.slr 1 5 0 F.length) (.slr 1 6 0 R.length))]::.live 1 true false (G.map iv)::.live 1 true ww (a.map iv)::  .live 1 true false (W.map iv)::.live 1 true false (A.map iv)::.live 1 true false (F.map iv)::.live 1 true false (R.map iv)::.live 1 false false [[.ptr 0 0 0]]::LP::g∧Bd g=true∧a.length=s.cons.length∧(ww=false→a=L))) hl' ?_ ?_ ?_ ?_ L ?_) ?_
 ·rintro i a h ⟨ww,g,rfl,_,_,_⟩
  exact⟨_,_,_,_,_,_,_,_,_,_,_,rfl⟩
 ·rintro i a h fl w rows ⟨ww,g,rfl,hqg,hal,hwr⟩
  exact⟨ww,g++[.live 11 fl w rows],rfl,by rw[Dv,hqg];rfl,hal,hwr⟩
 ·rintro i c a h hx hact ⟨ww,g,rfl,hqg,hal,hwr⟩
  have hil:i<s.cons.length:=(adF.1 hx).1
  have hii:((i:Int)<(s.cons.length:Int))=True:=eq_true (by omega)
  have at_:∀l:List Int,l.length=s.cons.length→l[i]?=some (gI l i):=fun l hl=>by have:=Ht (l:=l) (i:=(i:Int)) (by simp;omega);simpa using this
  have aF:=at_ F hF
  have aW:=at_ W hW
  have aA:=at_ A hAl
  have aL:=at_ a hal
  have aL2:∀v,(sI a i v)[i]?=some (gI (sI a i v) i):=fun v=>at_ _ (by rw[Bi];exact hal)
  have hiL:((i:Int)<(L.length:Int))=True:=eq_true (by omega)
  have hiW:((i:Int)<(W.length:Int))=True:=eq_true (by omega)
  have hiA:((i:Int)<(A.length:Int))=True:=eq_true (by omega)
  have hiF:((i:Int)<(F.length:Int))=True:=eq_true (by omega)
  have aS:∀(a:List Int) v,(a.map iv).set i [.int .i64 v]=(sI a i v).map iv:=fun a v=>by have:=Fo a (i:Int) v;simpa using this
  have hal':(Br hr F W A i c a).length=s.cons.length:=by rw[Np];exact hal
  have round:∀g0:Aa,Bd g0=true→RnQ Bo ([.int .i64 i,.agg [.bool c.firm,.int .i64 c.space,.int .i64 c.lo,.int .i64 c.hi,Bj 3 true c.nn (c.rates.map Bh.cells),.int .i64 c.gas,.int .i64 c.fixed,.int .i64 c.inn,.int .i64 c.out,.int .i64 c.cut,.int .i64 c.lack]]++[.yl 8]) (.live 19 false false [(rc s d hr (.slr 1 1 0 G.length) own fuel (.slr 1 2 0 L.length) .nils (.slr 1 3 0 W.length) (.slr 1 4 0 A.length) (.slr 1 5 0 F.length) (.slr 1 6 0 R.length))]::.live 1 true false (G.map iv)::.live 1 true false (a.map iv)::  .live 1 true false (W.map iv)::.live 1 true false (A.map iv)::.live 1 true false (F.map iv)::.live 1 true false (R.map iv)::.live 1 false false [[.ptr 0 0 0]]::LP::g0)
   fun o h'=>o=.ret (.bool true)∧∃g',h'=.live 19 false false [(rc s d hr (.slr 1 1 0 G.length) own fuel (.slr 1 2 0 L.length) .nils (.slr 1 3 0 W.length) (.slr 1 4 0 A.length) (.slr 1 5 0 F.length) (.slr 1 6 0 R.length))]::.live 1 true false (G.map iv)::.live 1 true true ((Br hr F W A i c a).map iv)::  .live 1 true false (W.map iv)::.live 1 true false (A.map iv)::.live 1 true false (F.map iv)::.live 1 true false (R.map iv)::.live 1 false false [[.ptr 0 0 0]]::LP::(g0++g')∧Bd g'=true:=by
   subst hLP
   intro g0 hq0
   refine sM rfl rfl ?_
   cases hf:c.firm with
   |true=>
    (have hb:=trivial;with_reducible repeat' (first|simp only[hb,Vc.down,seval,Kz.down,hx,hf,Ag.cells,hiL,hiW,hiA,hiF,aF,aW,aA,aL,aL2,aS,iv,aaE]|refine Aj ?_ ?_<;>intro hb|((refine Hh (g0.length) 7 ?_ ?_);(simp (discharger:=decide) only[He,Et,acZ,acM,Dp,Gw,Gz,Hg,Gv,Dj,Eu,Eo,acT,ab1];kernel_rfl);intro _)|refine jH ?_|fail))
    exact⟨_,_,rfl,rfl,[_],by rw[show Br hr F W A i c a=sI (sI a i (IntKind.i64.wrap (gI a i+Xt c (gI F i)))) i (IntKind.i64.wrap (gI (sI a i (IntKind.i64.wrap (gI a i+Xt c (gI F i)))) i-wP c (IntKind.i64.wrap (gI W i-gI A i)))) by simp[Br,hact,hf]];rfl,rfl⟩
   |false=>
    (have hb:=trivial;with_reducible repeat' (first|simp only[hb,Vc.down,seval,Kz.down,hx,hf,Ag.cells,hiL,hiW,hiA,hiF,aF,aW,aA,aL,aL2,aS,iv,aaE]|refine Aj ?_ ?_<;>intro hb|((refine Hh (g0.length) 7 ?_ ?_);(simp (discharger:=decide) only[He,Et,acZ,acM,Dp,Gw,Gz,Hg,Gv,Dj,Eu,Eo,acT,ab1];kernel_rfl);intro _)|refine jH ?_|fail))
    exact⟨_,_,rfl,rfl,[_],by rw[show Br hr F W A i c a=sI a i (IntKind.i64.wrap (gI a i+Xt c (gI F i))) by simp[Br,hact,hf]];rfl,rfl⟩
  obtain⟨o,h',e,rfl,g',rfl,hq'⟩:=round (dN g) (Lx hqg)
  have hst:=fun i l=>Hm hqg i l
  have hLc:LP.clean=LP:=by rw[←hLP];rfl
  have hLq:LP.quiet LP=true:=by rw[←hLP];rfl
  simp only[abH,adA]at e
  have hgg:Bd (g++g')=true:=by rw[Dv,hqg,hq'];rfl
  refine⟨_,by simp only[Vc.down,seval,hLc,e,hLq,hst];exact rfl,true,g++g',?_,hgg,hal',fun h=>by cases h⟩
  simp only[Ar,Bf,Cb,adI,adJ]
  rfl
 ·rintro i c a h hx hact ⟨ww,g,rfl,hqg,hal,hwr⟩
  exact⟨ww,g,by simp[Br,hact],hqg,by simpa [Br,hact]using hal,by simpa [Br,hact]using hwr⟩
 ·exact⟨false,[],rfl,rfl,hL,fun _=>rfl⟩
 ·rintro o h' ⟨rfl,ww,g,rfl,hqg,hal,hwr⟩
  have hst:=fun i l=>Hm hqg i l
  subst hLP
  cases ww with
  |false=>
   have hw0:=hwr rfl
   rw[hwr rfl]
   (have hb:=trivial;with_reducible repeat' (first|simp only[hb,Vc.down,seval,Kz.down,hst,Bf,abH]|refine Aj ?_ ?_<;>intro hb|refine fd ?_|fail))
   exact⟨w2,by simp⟩
  |true=>
   (have hb:=trivial;with_reducible repeat' (first|simp only[hb,Vc.down,seval,Kz.down,hst,Bf,abH]|refine Aj ?_ ?_<;>intro hb|refine fd ?_|fail))
   exact⟨true,(fun h=>by cases h),rfl⟩
theorem aiD{s:Ac}{d:Ao}{w w1 w2 w3 w4 w5 w6 w7:Bool}{hr own fuel:Int}{G L W A F R:List Int}{O:List Ab}(hL:L.length=s.cons.length)(hW:W.length=s.cons.length)(hAl:A.length=s.cons.length)(hF:F.length=s.cons.length)(hl:s.cons.length≤1000):
 Vo Bo 110 [.ptr 0 0 0] [.live 19 false w [(rc s d hr (.slr 1 1 0 G.length) own fuel (.slr 1 2 0 L.length) (.slr 5 3 0 O.length) (.slr 1 4 0 W.length) (.slr 1 5 0 A.length) (.slr 1 6 0 F.length) (.slr 1 7 0 R.length))],.live 1 true w1 (G.map iv),.live 1 true w2 (L.map iv),.live 5 true w3 (O.map Ab.cells),.live 1 true w4 (W.map iv),.live 1 true w6 (A.map iv),.live 1 true w7 (F.map iv),.live 1 true w5 (R.map iv)]
  fun o h'=>o=.ret (.tup [])∧∃wL,(wL=false→Jc (Br hr F W A) s.cons 0 L=L)∧h'=[.live 19 false w [(rc s d hr (.slr 1 1 0 G.length) own fuel (.slr 1 2 0 L.length) (.slr 5 3 0 O.length) (.slr 1 4 0 W.length) (.slr 1 5 0 A.length) (.slr 1 6 0 F.length) (.slr 1 7 0 R.length))],.live 1 true w1 (G.map iv),.live 1 true wL ((Jc (Br hr F W A) s.cons 0 L).map iv),.live 5 true w3 (O.map Ab.cells),.live 1 true w4 (W.map iv),.live 1 true w6 (A.map iv),.live 1 true w7 (F.map iv),.live 1 true w5 (R.map iv)]:=by
 have hl':s.cons.length≤maxLen:=by unfold maxLen;omega
 refine Nk rfl Tryz.func110 rfl rfl ?_
 simp only[Tryz.f110]
 (have hb:=trivial;with_reducible repeat' (first|simp only[hb,Vc.down,seval,Kz.down,aaE]|refine Aj ?_ ?_<;>intro hb|refine fd ?_|fail))
 generalize hLP:CB.lp _ _ _ _ _=LP
 refine Yn (Pz (s:=s) (d:=d) (hr:=hr) (y:=.yl 9) (Br hr F W A) (fun i a h=>(∃ww g,h=.live 19 false false [(rc s d hr (.slr 1 1 0 G.length) own fuel (.slr 1 2 0 L.length) (.slr 5 3 0 O.length) (.slr 1 4 0 W.length) (.slr 1 5 0 A.length) (.slr 1 6 0 F.length) (.slr 1 7 0 R.length))]::.live 1 true false (G.map iv)::.live 1 true ww (a.map iv)::.live 5 true false (O.map Ab.cells)::.live 1 true false (W.map iv)::.live 1 true false (A.map iv)::.live 1 true false (F.map iv)::.live 1 true false (R.map iv)::.live 1 false false [[.ptr 0 0 0]]::LP::g∧Bd g=true∧a.length=s.cons.length∧(ww=false→a=L))) hl' ?_ ?_ ?_ ?_ L ?_) ?_
 ·rintro i a h ⟨ww,g,rfl,_,_,_⟩
  exact⟨_,_,_,_,_,_,_,_,_,_,_,rfl⟩
 ·rintro i a h fl w rows ⟨ww,g,rfl,hqg,hal,hwr⟩
  exact⟨ww,g++[.live 11 fl w rows],rfl,by rw[Dv,hqg];rfl,hal,hwr⟩
 ·rintro i c a h hx hact ⟨ww,g,rfl,hqg,hal,hwr⟩
  have hil:i<s.cons.length:=(adF.1 hx).1
  have hii:((i:Int)<(s.cons.length:Int))=True:=eq_true (by omega)
  have at_:∀l:List Int,l.length=s.cons.length→l[i]?=some (gI l i):=fun l hl=>by have:=Ht (l:=l) (i:=(i:Int)) (by simp;omega);simpa using this
  have aF:=at_ F hF
  have aW:=at_ W hW
  have aA:=at_ A hAl
  have aL:=at_ a hal
  have aL2:∀v,(sI a i v)[i]?=some (gI (sI a i v) i):=fun v=>at_ _ (by rw[Bi];exact hal)
  have hiL:((i:Int)<(L.length:Int))=True:=eq_true (by omega)
  have hiW:((i:Int)<(W.length:Int))=True:=eq_true (by omega)
  have hiA:((i:Int)<(A.length:Int))=True:=eq_true (by omega)
  have hiF:((i:Int)<(F.length:Int))=True:=eq_true (by omega)
  have aS:∀(a:List Int) v,(a.map iv).set i [.int .i64 v]=(sI a i v).map iv:=fun a v=>by have:=Fo a (i:Int) v;simpa using this
  have hal':(Br hr F W A i c a).length=s.cons.length:=by rw[Np];exact hal
  have round:∀g0:Aa,Bd g0=true→RnQ Bo ([.int .i64 i,.agg [.bool c.firm,.int .i64 c.space,.int .i64 c.lo,.int .i64 c.hi,Bj 3 true c.nn (c.rates.map Bh.cells),.int .i64 c.gas,.int .i64 c.fixed,.int .i64 c.inn,.int .i64 c.out,.int .i64 c.cut,.int .i64 c.lack]]++[.yl 9]) (.live 19 false false [(rc s d hr (.slr 1 1 0 G.length) own fuel (.slr 1 2 0 L.length) (.slr 5 3 0 O.length) (.slr 1 4 0 W.length) (.slr 1 5 0 A.length) (.slr 1 6 0 F.length) (.slr 1 7 0 R.length))]::.live 1 true false (G.map iv)::.live 1 true false (a.map iv)::.live 5 true false (O.map Ab.cells)::.live 1 true false (W.map iv)::.live 1 true false (A.map iv)::.live 1 true false (F.map iv)::.live 1 true false (R.map iv)::.live 1 false false [[.ptr 0 0 0]]::LP::g0)
   fun o h'=>o=.ret (.bool true)∧∃g',h'=.live 19 false false [(rc s d hr (.slr 1 1 0 G.length) own fuel (.slr 1 2 0 L.length) (.slr 5 3 0 O.length) (.slr 1 4 0 W.length) (.slr 1 5 0 A.length) (.slr 1 6 0 F.length) (.slr 1 7 0 R.length))]::.live 1 true false (G.map iv)::.live 1 true true ((Br hr F W A i c a).map iv)::.live 5 true false (O.map Ab.cells)::.live 1 true false (W.map iv)::.live 1 true false (A.map iv)::.live 1 true false (F.map iv)::.live 1 true false (R.map iv)::.live 1 false false [[.ptr 0 0 0]]::LP::(g0++g')∧Bd g'=true:=by
   subst hLP
   intro g0 hq0
   refine sM rfl rfl ?_
   cases hf:c.firm with
   |true=>
    (have hb:=trivial;with_reducible repeat' (first|simp only[hb,Vc.down,seval,Kz.down,hx,hf,Ag.cells,hiL,hiW,hiA,hiF,aF,aW,aA,aL,aL2,aS,iv,aaE]|refine Aj ?_ ?_<;>intro hb|((refine Hh (g0.length) 7 ?_ ?_);(simp (discharger:=decide) only[He,Et,acZ,acM,Dp,Gw,Gz,Hg,Gv,Dj,Eu,Eo,acT,ab1];kernel_rfl);intro _)|refine jH ?_|fail))
    exact⟨_,_,rfl,rfl,[_],by rw[show Br hr F W A i c a=sI (sI a i (IntKind.i64.wrap (gI a i+Xt c (gI F i)))) i (IntKind.i64.wrap (gI (sI a i (IntKind.i64.wrap (gI a i+Xt c (gI F i)))) i-wP c (IntKind.i64.wrap (gI W i-gI A i)))) by simp[Br,hact,hf]];rfl,rfl⟩
   |false=>
    (have hb:=trivial;with_reducible repeat' (first|simp only[hb,Vc.down,seval,Kz.down,hx,hf,Ag.cells,hiL,hiW,hiA,hiF,aF,aW,aA,aL,aL2,aS,iv,aaE]|refine Aj ?_ ?_<;>intro hb|((refine Hh (g0.length) 7 ?_ ?_);(simp (discharger:=decide) only[He,Et,acZ,acM,Dp,Gw,Gz,Hg,Gv,Dj,Eu,Eo,acT,ab1];kernel_rfl);intro _)|refine jH ?_|fail))
    exact⟨_,_,rfl,rfl,[_],by rw[show Br hr F W A i c a=sI a i (IntKind.i64.wrap (gI a i+Xt c (gI F i))) by simp[Br,hact,hf]];rfl,rfl⟩
  obtain⟨o,h',e,rfl,g',rfl,hq'⟩:=round (dN g) (Lx hqg)
  have hst:=fun i l=>Hm hqg i l
  have hLc:LP.clean=LP:=by rw[←hLP];rfl
  have hLq:LP.quiet LP=true:=by rw[←hLP];rfl
  simp only[abH,adA]at e
  have hgg:Bd (g++g')=true:=by rw[Dv,hqg,hq'];rfl
  refine⟨_,by simp only[Vc.down,seval,hLc,e,hLq,hst];exact rfl,true,g++g',?_,hgg,hal',fun h=>by cases h⟩
  simp only[Ar,Bf,Cb,adI,adJ]
  rfl
 ·rintro i c a h hx hact ⟨ww,g,rfl,hqg,hal,hwr⟩
  exact⟨ww,g,by simp[Br,hact],hqg,by simpa [Br,hact]using hal,by simpa [Br,hact]using hwr⟩
 ·exact⟨false,[],rfl,rfl,hL,fun _=>rfl⟩
 ·rintro o h' ⟨rfl,ww,g,rfl,hqg,hal,hwr⟩
  have hst:=fun i l=>Hm hqg i l
  subst hLP
  cases ww with
  |false=>
   have hw0:=hwr rfl
   rw[hwr rfl]
   (have hb:=trivial;with_reducible repeat' (first|simp only[hb,Vc.down,seval,Kz.down,hst,Bf,abH]|refine Aj ?_ ?_<;>intro hb|refine fd ?_|fail))
   exact⟨w2,by simp⟩
  |true=>
   (have hb:=trivial;with_reducible repeat' (first|simp only[hb,Vc.down,seval,Kz.down,hst,Bf,abH]|refine Aj ?_ ?_<;>intro hb|refine fd ?_|fail))
   exact⟨true,(fun h=>by cases h),rfl⟩
def zg:Bool→AV
 |true=>.slr 1 1 0 0
 |false=>.nils
def zi:Bool→Bool→Nat
 |false,false=>1
 |true,false=>2
 |false,true=>2
 |true,true=>3
def zl(a:Bool):Bool→AV
 |true=>.slr 1 (zi a false) 0 0
 |false=>.nils
def zo(a b:Bool):Bool→AV
 |true=>.slr 5 (zi a b) 0 0
 |false=>.nils
def zb(st:Nat)(w:Bool):Bool→Aa→Aa
 |true,h=>.live st true w []::h
 |false,h=>h
theorem al4(a b c:Bool){s:Ac}{d:Ao}{fl w w1 w2 w3:Bool}{hr own fuel:Int}:
 Bo.call (.fn 104) [.ptr 0 0 0] (.live 19 fl w [(rc s d hr (zg a) own fuel (zl a b) (zo a b c) .nils .nils .nils .nils)]::zb 1 w1 a (zb 1 w2 b (zb 5 w3 c [])))=
  some (.ret (.tup []),.live 19 false true [(rc s d hr (zg a) own fuel (zl a b) .nils .nils .nils .nils .nils)]::zb 1 w1 a (zb 1 w2 b (zb 5 w3 c []))):=by
 cases a<;>cases b<;>cases c<;>simp only[zg,zi,zl,zo,zb]
 all_goals (refine ce Tryz.func104 ?_;simp only[Tryz.f104];(have hb:=trivial;with_reducible repeat' (first|simp only[hb,Vc.down,seval,Xs.down,ab1,adO,adK,decide_false]|refine Aj ?_ ?_<;>intro hb|refine fd ?_|refine wV ?_|fail)))
theorem ai6(a b:Bool){s:Ac}{d:Ao}{w w1 w2:Bool}{hr own fuel:Int}(hT:d.trades=[]):
 Bo.call (.fn 105) [.ptr 0 0 0] (.live 19 false w [(rc s d hr (zg a) own fuel (zl a b) .nils .nils .nils .nils .nils)]::zb 1 w1 a (zb 1 w2 b []))=
  some (.ret (.tup []),.live 19 false w [(rc s d hr (zg a) own fuel (zl a b) .nils .nils .nils .nils .nils)]::zb 1 w1 a (zb 1 w2 b [])):=by
 have hz:d.trades.length=0:=by rw[hT];rfl
 cases a<;>cases b<;>simp only[zg,zi,zl,zb]
 all_goals (refine ce Tryz.func105 ?_;simp only[Tryz.f105];(have hb:=trivial;with_reducible repeat' (first|simp only[hb,Vc.down,seval,Ii.down,aaE,hz,adO,adK,decide_false]|refine Aj ?_ ?_<;>intro hb|refine fd ?_|refine wV ?_|fail)))
theorem tQ{s:Ac}{d:Ao}(hs:s.cons=[]){fl w:Bool}{hr own fuel:Int}{gv lv ov wv av fv rv y:AV}(tl:Aa):
 Bo.call (.sh 131) [.ptr 0 0 0,y] (.live 19 fl w [(rc s d hr gv own fuel lv ov wv av fv rv)]::tl)=some (.ret (.tup []),.live 19 fl w [(rc s d hr gv own fuel lv ov wv av fv rv)]::tl):=by
 have hz:s.cons.length=0:=by rw[hs];rfl
 (refine csh Tryz.func131 ?_;simp only[Tryz.f131];(have hb:=trivial;with_reducible repeat' (first|simp only[hb,Vc.down,seval,nT.down,aaE,hz,adO,adK,decide_false]|refine Aj ?_ ?_<;>intro hb|refine fd ?_|refine wV ?_|fail)))
theorem am3(a b:Bool){s:Ac}{d:Ao}{w w1 w2:Bool}{hr own fuel:Int}(hs:s.cons=[]):
 Bo.call (.fn 106) [.ptr 0 0 0] (.live 19 false w [(rc s d hr (zg a) own fuel (zl a b) .nils .nils .nils .nils .nils)]::zb 1 w1 a (zb 1 w2 b []))=
  some (.ret (.tup []),.live 19 false true [(rc s d hr (zg a) own fuel (zl a b) .nils (.slr 1 (zi a b) 0 0) .nils .nils .nils)]::zb 1 w1 a (zb 1 w2 b [.live 1 true false []])):=by
 have hz:s.cons.length=0:=by rw[hs];rfl
 have ha:=fun gv lv wv y=>tQ (s:=s) (d:=d) hs (fl:=false) (w:=false) (hr:=hr) (own:=own) (fuel:=fuel) (gv:=gv) (lv:=lv) (ov:=.nils) (wv:=wv) (av:=.nils) (fv:=.nils) (rv:=.nils) (y:=y)
 cases a<;>cases b<;>simp only[zg,zi,zl,zb]
 all_goals (refine ce Tryz.func106 ?_;simp only[Tryz.f106];(have hb:=trivial;with_reducible repeat' (first|simp only[hb,Vc.down,seval,Lc.down,aaE,hz,adO,adM,adN,Int.reduceLE,List.replicate_zero,Int.toNat_zero,ha]|refine Aj ?_ ?_<;>intro hb|refine fd ?_|refine wV ?_|fail)))
theorem alI(a b:Bool){s:Ac}{d:Ao}{w w1 w2 w3:Bool}{hr own fuel:Int}(hs:s.cons=[]):
 Bo.call (.fn 110) [.ptr 0 0 0] (.live 19 false w [(rc s d hr (zg a) own fuel (zl a b) .nils (.slr 1 (zi a b) 0 0) .nils .nils .nils)]::zb 1 w1 a (zb 1 w2 b [.live 1 true w3 []]))=some (.ret (.tup []),.live 19 false w [(rc s d hr (zg a) own fuel (zl a b) .nils (.slr 1 (zi a b) 0 0) .nils .nils .nils)]::zb 1 w1 a (zb 1 w2 b [.live 1 true w3 []])):=by
 have ha:=fun gv lv wv y=>tQ (s:=s) (d:=d) hs (fl:=false) (w:=false) (hr:=hr) (own:=own) (fuel:=fuel) (gv:=gv) (lv:=lv) (ov:=.nils) (wv:=wv) (av:=.nils) (fv:=.nils) (rv:=.nils) (y:=y)
 cases a<;>cases b<;>simp only[zg,zi,zl,zb]
 all_goals (refine ce Tryz.func110 ?_;simp only[Tryz.f110];(have hb:=trivial;with_reducible repeat' (first|simp only[hb,Vc.down,seval,Kz.down,aaE,ha]|refine Aj ?_ ?_<;>intro hb|refine fd ?_|refine wV ?_|fail)))
theorem au3(a b:Bool){s:Ac}{d:Ao}{w w1 w2 w3:Bool}{hr own fuel:Int}:
 Bo.call (.fn 109) [.ptr 0 0 0] (.live 19 false w [(rc s d hr (zg a) own fuel (zl a b) .nils (.slr 1 (zi a b) 0 0) .nils .nils .nils)]::zb 1 w1 a (zb 1 w2 b [.live 1 true w3 []]))=some (.ret (.tup []),.live 19 false w [(rc s d hr (zg a) own fuel (zl a b) .nils (.slr 1 (zi a b) 0 0) .nils .nils .nils)]::zb 1 w1 a (zb 1 w2 b [.live 1 true w3 []])):=by
 cases a<;>cases b<;>simp only[zg,zi,zl,zb]
 all_goals (refine ce Tryz.func109 ?_;simp only[Tryz.f109];(have hb:=trivial;with_reducible repeat' (first|simp only[hb,Vc.down,seval,Qb.down,ab1,adO,adK,decide_false]|refine Aj ?_ ?_<;>intro hb|refine fd ?_|refine wV ?_|fail)))
theorem adY{s:Ac}{d:Ao}{hr fuel:Int}{x:Aw}(h0:0≤hr)(hx:d.hours[hr.toNat]?=some x)(own:Int)(gv lv wv:AV)(tl:Aa):
 Bo.call (.sh 133) [.ptr 0 0 0] (.live 19 false false [(rc s d hr gv own fuel lv .nils wv .nils .nils .nils)]::tl)=some (.ret (.agg x.cells),.live 19 false false [(rc s d hr gv own fuel lv .nils wv .nils .nils .nils)]::tl++[.live 4 true true [x.cells]]):=Xm (b:=0) rfl h0 hx
theorem ajO(a b:Bool){s:Ac}{d:Ao}{w w1 w2 w3:Bool}{hr own fuel:Int}{x:Aw}(h0:0≤hr)(hx:d.hours[hr.toNat]?=some x)(hi:0≤x.inn)(ho:0≤x.out):
 Bo.call (.fn 107) [.ptr 0 0 0] (.live 19 false w [(rc s d hr (zg a) own fuel (zl a b) .nils (.slr 1 (zi a b) 0 0) .nils .nils .nils)]::zb 1 w1 a (zb 1 w2 b [.live 1 true w3 []]))=some (.ret (.tup []),.live 19 false true [(rc s d hr (zg a) own fuel (zl a b) .nils (.slr 1 (zi a b) 0 0) .nils .nils .nils)]::zb 1 w1 a (zb 1 w2 b [.live 1 true w3 []])):=by
 have g1:=qT (s:=s) (nn:=true) hi ho
 rw[Bg]at g1
 have hh:=adY (s:=s) (d:=d) (fuel:=fuel) h0 hx
 cases a<;>cases b<;>simp only[zg,zi,zl,zb]
 all_goals (refine ce Tryz.func107 ?_;simp only[Tryz.f107];(have hb:=trivial;with_reducible repeat' (first|simp only[hb,Vc.down,seval,rW.down,hh,Aw.cells,g1,List.drop_nil,List.take_nil,ab1]|refine Aj ?_ ?_<;>intro hb|refine fd ?_|fail)))
theorem aj1(a b:Bool){s:Ac}{d:Ao}{w w1 w2 w3:Bool}{hr own fuel:Int}{x:Aw}(h0:0≤hr)(hx:d.hours[hr.toNat]?=some x):
 Bo.call (.fn 108) [.ptr 0 0 0] (.live 19 false w [(rc s d hr (zg a) own fuel (zl a b) .nils (.slr 1 (zi a b) 0 0) .nils .nils .nils)]::zb 1 w1 a (zb 1 w2 b [.live 1 true w3 []]))=some (.ret (.tup []),.live 19 false true [(rc s d hr (zg a) (cD [] x own) fuel (zl a b) .nils (.slr 1 (zi a b) 0 0) .nils .nils .nils)]::zb 1 w1 a (zb 1 w2 b [.live 1 true w3 []])):=by
 have g1:=gR (nn:=false)
 rw[Xj]at g1
 have g2:=Yl (l:=[]) (nn:=false) (by simp)
 rw[acM,Xj]at g2
 have g4:=fun amount=>Oe (amount:=amount) (l:=[]) (nn:=false) (g:=134) (w:=fun x=>x) (fun x _=>Ob x) (by simp)
 simp only[acM,Xj,ab1,adA,Ax,Dl]at g4 g2
 have g6:=Oj [] [] true true (by simp) (by simp) _ _ (fun _=>rfl) (fun h=>absurd rfl h)
 simp only[acM,Bg]at g6
 have hh:=adY (s:=s) (d:=d) (fuel:=fuel) h0 hx
 cases a<;>cases b<;>simp only[zg,zi,zl,zb]
 all_goals
  (refine ce Tryz.func108 ?_;simp only[Tryz.f108];(have hb:=trivial;with_reducible repeat' (first|simp only[hb,Vc.down,seval,uS.down,hh,Aw.cells,g1,g2,g4,g6,List.drop_nil,List.take_nil,ab1,acM]|refine Aj ?_ ?_<;>intro hb|refine fd ?_|fail)))
  rfl
end Go.Proofs.YtdbiogihimdpcaaGreatDoor
