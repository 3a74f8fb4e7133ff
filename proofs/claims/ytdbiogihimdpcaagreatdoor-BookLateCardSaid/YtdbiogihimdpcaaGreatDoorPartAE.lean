/- The functions of the layer, walked. -/
import Derived.Test.YtdbiogihimdpcaaGreatDoorLibE
import Derived.Test.YtdbiogihimdpcaaGreatDoorPartAD
open List renaming length_map→aa9,cons_append→abQ,replicate→acI,length_nil→acL,map_nil→acQ,length_cons→acR,map_cons→acV,nil_append→adG,getElem?_eq_some_iff→adJ,set_cons_succ→adK,set_cons_zero→adL,getElem?_eq_getElem→adN,mem_of_getElem?→aeY,length_pos_iff→ae4
open Int renaming lt_irrefl→adM,le_refl→adO,reducePow→adP,natCast_zero→adQ
set_option linter.unusedSimpArgs false
set_option linter.unusedVariables false
namespace Go.Proofs.YtdbiogihimdpcaaGreatDoor
open Go.Ev Go
set_option maxRecDepth 100000
set_option maxHeartbeats 16000000
theorem sH{vs:List AV}{b:Nat}{h:Aa}{ps:List Nat}{asg body:Code}{tm:List AV}{st:Qb}{Q:Ea→Aa→Prop}(hb:h[b]?=some (.lp ps asg body tm st))(hl:ps.length=vs.length)
 (he:RnE b Q (ahU Bl Tryz.prog b body (Dc Bl Tryz.prog 5000 asg [] ⟨Ry tm ps vs,h⟩))):RnQ Bl (vs++[.yl b]) h Q:=RnQ.start (pr:=pr) hb hl he
theorem Nc{g:Aa}(h:Be g=true):Be (dH g)=true:=by
 simp only[Be,dH,List.all_eq_true,List.mem_map]at h ⊢
 rintro c ⟨c',hc',rfl⟩
 have:=h c' hc'
 cases c'<;>simp_all[CB.quiet,CB.clean,CB.same]
def It{σ:Type}(st:Nat→Ah→σ→σ):List Ah→Nat→σ→σ
 | [],_,a=>a
 |c::rest,i,a=>It st rest (i+1) (st i c a)
theorem Pq{s:Ac}{d:An}{hr:Int}{y:AV}{σ:Type}(st:Nat→Ah→σ→σ)(Up:Nat→σ→Aa→Prop)(hl:s.cons.length≤maxLen)
 (hI:∀i a h,Up i a h→∃fl w gv own fuel lv ov wv av fv rv,h[0]?=some (.live 19 fl w [(rc s d hr gv own fuel lv ov wv av fv rv)]))
 (hA:∀i a h fl w (rows:List (List AV)),Up i a h→Up i a (h++[.live 11 fl w rows]))
 (hR:∀(i:Nat) (c:Ah) a h,s.cons[i]?=some c→Gp hr c.lo c.hi=true→Up i a h→∃es,cl Bl h (some y) (some [.int .i64 i,.agg [.bool c.firm,.int .i64 c.space,.int .i64 c.lo,.int .i64 c.hi,Az 3 true c.nn (c.rates.map Bi.cells),.int .i64 c.gas,.int .i64 c.fixed,.int .i64 c.inn,.int .i64 c.out,.int .i64 c.cut,.int .i64 c.lack]])=some (.ret (.bool true),es)∧Up (i+1) (st i c a) (Ar h es))
 (hN:∀(i:Nat) (c:Ah) a h,s.cons[i]?=some c→Gp hr c.lo c.hi=false→Up i a h→Up (i+1) (st i c a) h)
 (a0:σ) {h0:Aa} (h0I:Up 0 a0 h0):
 ShQ Bl 131 [.ptr 0 0 0,y] h0 fun o h'=>o=.ret (.tup [])∧Up s.cons.length (It st s.cons 0 a0) h':=by
 obtain⟨fl,w,gv,own,fuel,lv,ov,wv,av,fv,rv,hB⟩:=hI _ _ _ h0I
 refine at7 rfl Tryz.func131 rfl rfl ?_
 simp only[Tryz.f131]
 (have hb:=trivial;with_reducible repeat' (first|simp only[hb,Vc.down,seval,nS.down,hB,aa9]|refine Ai ?_ ?_<;>intro hb|refine fd ?_|fail))
 refine Dm (Sj 32 s.cons (fun i (zz:σ × Nat) t h=>t 0=.ptr 0 0 0∧t 1=y∧t 10=Az 11 false s.nn (s.cons.map Ah.cells)∧t 11=.int .i64 s.cons.length∧t 12=.int .i64 i∧(Up i zz.1 h∧i=zz.2)) (fun rest zz=>It st rest zz.2 zz.1) (fun r e t h=>e=.exit 0∧Up s.cons.length r h) ?_ ?_ (a0,0) _ _ ?_) (fun e t h hk=>?_)
 ·rintro⟨a,k⟩ t h Q' kQ ⟨h0,h1,h10,h11,h12,⟨hv,rfl⟩⟩
  try dsimp only at *
  (have hb:=trivial;with_reducible repeat' (first|simp only[hb,Vc.down,seval,nS.down,h0,h1,h10,h11,h12,adM,decide_false]|refine Ai ?_ ?_<;>intro hb|refine fd ?_|fail))
  exact kQ _ _ _ ⟨rfl,hv⟩
 ·rintro x rest i ⟨a,k⟩ t h J Q' kJ kQ hx hi ⟨h0,h1,h10,h11,h12,⟨hv,rfl⟩⟩
  have hd:decide ((i:Int)<(s.cons.length:Int))=true:=decide_eq_true (by omega)
  have hw:=Ak hi hl
  try dsimp only at *
  obtain⟨fl,w,gv,own,fuel,lv,ov,wv,av,fv,rv,hB⟩:=hI _ _ _ hv
  have hB1:=Bv hB
  have hii:((i:Int)<(s.cons.length:Int))=True:=eq_true (by omega)
  have hv1:=hA _ _ _ false true [[.bool x.firm,.int .i64 x.space,.int .i64 x.lo,.int .i64 x.hi,Az 3 true x.nn (x.rates.map Bi.cells),.int .i64 x.gas,.int .i64 x.fixed,.int .i64 x.inn,.int .i64 x.out,.int .i64 x.cut,.int .i64 x.lack]] hv
  have hac:=tK x x.firm hr
  cases hact:Gp hr x.lo x.hi with
  |false=>
   rw[hact]at hac
   (have hb:=trivial;with_reducible repeat' (first|simp only[hb,Vc.down,seval,nS.down,h0,h1,h10,h11,h12,hd,hx,hw,hii,hB1,Ah.cells,hac]|refine Ai ?_ ?_<;>intro hb|refine fd ?_|fail))
   (refine Aq (kJ _ _ (st i x a,i+1) ⟨?_,?_,?_,?_,?_,⟨hN _ _ _ _ hx hact hv1,rfl⟩⟩ ?_);(simp[up,h0]);(simp[up,h1]);(simp[up,h10]);(simp[up,h11]);(simp[up]);(simp[It]))
  |true=>
   rw[hact]at hac
   obtain⟨es,hes,hv2⟩:=hR _ _ _ _ hx hact hv1
   (have hb:=trivial;with_reducible repeat' (first|simp only[hb,Vc.down,seval,nS.down,h0,h1,h10,h11,h12,hd,hx,hw,hii,hB1,Ah.cells,hac,hes]|refine Ai ?_ ?_<;>intro hb|refine fd ?_|fail))
   (refine Aq (kJ _ _ (st i x a,i+1) ⟨?_,?_,?_,?_,?_,⟨hv2,rfl⟩⟩ ?_);(simp[up,h0]);(simp[up,h1]);(simp[up,h10]);(simp[up,h11]);(simp[up]);(simp[It]))
 ·exact⟨by simp[up,Dj],by simp[up,Dj],by simp[up,Dj],by simp[up,Dj],by simp[up],⟨h0I,rfl⟩⟩
 ·obtain⟨rfl,hv⟩:=hk
  (have hb:=trivial;with_reducible repeat' (first|simp only[hb,Vc.down,seval,nS.down]|refine Ai ?_ ?_<;>intro hb|refine fd ?_|fail))
  exact hv
def Rb(c:Ah):Bi:=(c.rates[0]?).getD ⟨0,0,0⟩
def Tf(c:Ah)(g:Int):Bi:=dC (ae6 c g) c.rates (Rb c)
def Rr(l:List Bq)(k:Int):Int:=((l[k.toNat]?).map Bq.amount).getD 0
def mn(a b:Int):Int:=if b<a then b else a
def yE(x:Int):Int:=if 0>x then 0 else x
def fZ(c:Ah)(n g:Int):Int:=IntKind.i64.wrap (yE (mn (mn n (Tf c g).inn) (IntKind.i64.wrap (c.space-g)))-yE (mn (mn (IntKind.i64.wrap (0-n)) (Tf c g).out) g))
def Bn(s:Ac)(d:An)(hr:Int)(G:List Int)(i:Nat)(c:Ah)(a:List Int):List Int:=
 if Gp hr c.lo c.hi=true then
  if Ed s.lead d.noms i hr d.noms (0,-1)<0 then a
  else sI a i (fZ c (Rr d.noms (Ed s.lead d.noms i hr d.noms (0,-1))) (gI G i))
 else a
theorem afS(lead:Int)(l:List Bq)(c h:Int):∀(rest:List Bq) (i:Nat) (o:Int),(o= -1∨0≤o∧o<i)→(Ed lead l c h rest (i,o)= -1∨0≤Ed lead l c h rest (i,o)∧Ed lead l c h rest (i,o)<i+rest.length)
 | [],i,o,ho=>by simpa [Ed]using ho
 |n::rest,i,o,ho=>by
  have:=afS lead l c h rest (i+1) (Ks lead l c h n i o) (by unfold Ks;split<;>omega)
  simp only[Ed,acR]at this ⊢
  omega
theorem pA{lead:Int}{l:List Bq}{c h:Int}(hn:¬Ed lead l c h l (0,-1)<0):0≤Ed lead l c h l (0,-1)∧∃n,l[(Ed lead l c h l (0,-1)).toNat]?=some n:=by
 have:=afS lead l c h l 0 (-1) (.inl rfl)
 have h0:0≤Ed lead l c h l (0,-1):=by omega
 exact⟨h0,_,adN (by omega)⟩
def ac3(c:Ah):Prop:=c.space≠0∧c.rates≠[]∧c.rates.length≤maxLen
theorem aeB{s:Ac}{d:An}{w w1 w2 w3 w5:Bool}{hr own fuel:Int}{G L R:List Int}{O:List Ab}(hG:G.length=s.cons.length)(hl:s.cons.length≤1000)(hn:d.noms.length≤1000)(hc:∀c∈s.cons,ac3 c):
 Vg Bl 106 [.ptr 0 0 0] [.live 19 false w [(rc s d hr (.slr 1 1 0 G.length) own fuel (.slr 1 2 0 L.length) .nils .nils .nils .nils .nils)],.live 1 true w1 (G.map iv),.live 1 true w2 (L.map iv)]
  fun o h'=>o=.ret (.tup [])∧∃ww,h'=[.live 19 false true [(rc s d hr (.slr 1 1 0 G.length) own fuel (.slr 1 2 0 L.length) .nils (.slr 1 3 0 s.cons.length) .nils .nils .nils)],.live 1 true w1 (G.map iv),.live 1 true w2 (L.map iv),.live 1 true ww ((It (Bn s d hr G) s.cons 0 (acI s.cons.length 0)).map iv)]:=by
 have hl':s.cons.length≤maxLen:=by unfold maxLen;omega
 have h40:((s.cons.length:Int)≤1099511627776)=True:=eq_true (by omega)
 refine Nj rfl Tryz.func106 rfl rfl ?_
 simp only[Tryz.f106]
 (have hb:=trivial;with_reducible repeat' (first|simp only[hb,Vc.down,seval,La.down,aa9,h40,adO,adP]|refine Ai ?_ ?_<;>intro hb|refine fd ?_|fail))
 generalize hL:CB.lp _ _ _ _ _=LP
 refine Yo (Pq (s:=s) (d:=d) (hr:=hr) (y:=.yl 5) (Bn s d hr G) (fun i a h=>(∃ww g,h=.live 19 false false [(rc s d hr (.slr 1 1 0 G.length) own fuel (.slr 1 2 0 L.length) .nils (.slr 1 4 0 s.cons.length) .nils .nils .nils)]::.live 1 true false (G.map iv)::.live 1 true false (L.map iv)::   .live 1 false false [[.ptr 0 0 0]]::.live 1 true ww (a.map iv)::LP::g∧Be g=true∧a.length=s.cons.length∧(ww=false→a=acI s.cons.length 0))) hl' ?_ ?_ ?_ ?_ (acI s.cons.length 0) ?_) ?_
 ·rintro i a h ⟨ww,g,rfl,_,_,_⟩
  exact⟨_,_,_,_,_,_,_,_,_,_,_,rfl⟩
 ·rintro i a h fl w rows ⟨ww,g,rfl,hqg,hal,hwr⟩
  exact⟨ww,g++[.live 11 fl w rows],rfl,by rw[Dq,hqg];rfl,hal,hwr⟩
 ·rintro i c a h hx hact ⟨ww,g,rfl,hqg,hal,hwr⟩
  obtain⟨hz,hr0,hrl⟩:=hc c (aeY hx)
  have hil:i<s.cons.length:=(adJ.1 hx).1
  have hct:=cP s d.noms d.nn i hr (by unfold maxLen;omega)
  have hii:((i:Int)<(s.cons.length:Int))=True:=eq_true (by omega)
  have hiG:((i:Int)<(G.length:Int))=True:=eq_true (by omega)
  have aG:G[i]?=some (gI G i):=by have:=Hn (l:=G) (i:=(i:Int)) (by simp;omega);simpa using this
  have aA:a[i]?=some (gI a i):=by have:=Hn (l:=a) (i:=(i:Int)) (by simp;omega);simpa using this
  have aW:∀v,(a.map iv).set i [.int .i64 v]=(sI a i v).map iv:=fun v=>by have:=Fo a (i:Int) v;simpa using this
  have hrt:=fun g=>pK c g (Rb c) (by unfold Rb;rw[adN (ae4.2 hr0)];rfl) hrl hz
  have hroom:∀(tl:Aa),Bl.call (.sh 130) [.ptr 0 0 0,.int .i64 i] (.live 19 false false [(rc s d hr (.slr 1 1 0 G.length) own fuel (.slr 1 2 0 L.length) .nils (.slr 1 4 0 s.cons.length) .nils .nils .nils)]::.live 1 true false (G.map iv)::tl)=some (.ret (.int .i64 (IntKind.i64.wrap (c.space-gI G i))),.live 19 false false [(rc s d hr (.slr 1 1 0 G.length) own fuel (.slr 1 2 0 L.length) .nils (.slr 1 4 0 s.cons.length) .nils .nils .nils)]::.live 1 true false (G.map iv)::tl):=fun tl=>
   aT (b:=0) (bg:=1) (n:=G.length) rfl rfl rfl ⟨by omega,by omega⟩ (by simpa using hx)
  have round:∀g0:Aa,Be g0=true→RnQ Bl ([.int .i64 i,.agg [.bool c.firm,.int .i64 c.space,.int .i64 c.lo,.int .i64 c.hi,Az 3 true c.nn (c.rates.map Bi.cells),.int .i64 c.gas,.int .i64 c.fixed,.int .i64 c.inn,.int .i64 c.out,.int .i64 c.cut,.int .i64 c.lack]]++[.yl 5]) (.live 19 false false [(rc s d hr (.slr 1 1 0 G.length) own fuel (.slr 1 2 0 L.length) .nils (.slr 1 4 0 s.cons.length) .nils .nils .nils)]::.live 1 true false (G.map iv)::.live 1 true false (L.map iv)::   .live 1 false false [[.ptr 0 0 0]]::.live 1 true false (a.map iv)::LP::g0)
   fun o h'=>o=.ret (.bool true)∧∃ww g',h'=.live 19 false false [(rc s d hr (.slr 1 1 0 G.length) own fuel (.slr 1 2 0 L.length) .nils (.slr 1 4 0 s.cons.length) .nils .nils .nils)]::.live 1 true false (G.map iv)::.live 1 true false (L.map iv)::   .live 1 false false [[.ptr 0 0 0]]::.live 1 true ww ((Bn s d hr G i c a).map iv)::LP::(g0++g')∧Be g'=true∧(ww=false→Bn s d hr G i c a=a):=by
   subst hL
   intro g0 hq0
   have hse:=fun i l l'=>Yh hq0 i l l'
   refine sH rfl rfl ?_
   cases hk:decide (Ed s.lead d.noms i hr d.noms (0,-1)<0)with
   |true=>
    (have hb:=trivial;with_reducible repeat' (first|simp only[hb,Vc.down,seval,La.down,hct,hk,hx,Ah.cells]|refine Ai ?_ ?_<;>intro hb|refine fd ?_|fail))
    have hwa:Bn s d hr G i c a=a:=by simp[Bn,hact,of_decide_eq_true hk]
    exact⟨_,_,rfl,rfl,false,[_],by rw[hwa],rfl,fun _=>hwa⟩
   |false=>
    have hkn:=of_decide_eq_false hk
    obtain⟨hk0,nk,hnk⟩:=pA hkn
    have hk0':(0≤Ed s.lead d.noms i hr d.noms (0,-1))=True:=eq_true hk0
    (have hb:=trivial;with_reducible repeat' (first|simp only[hb,Vc.down,seval,La.down,hct,hk,hx,Ah.cells,Bq.cells,Bi.cells,hk0',hnk,hrt,hroom,hii,hiG,aG,aA,aW,hse,iv,aa9]|refine Ai ?_ ?_<;>intro hb|((refine Hg (g0.length) 6 ?_ ?_);(simp (discharger:=decide) only[Gz,Et,acV,acQ,Dv,He,Hj,Hf,Hi,Du,Es,Ew,acR,acL];kernel_rfl);intro _)|refine lU ?_|fail))
    exact⟨_,_,rfl,rfl,true,[_,_],by rw[show Bn s d hr G i c a=sI a i (fZ c nk.amount (gI G i)) by simp[Bn,hact,hkn,Rr,hnk]];rfl,rfl,fun h=>by cases h⟩
  obtain⟨o,h',e,rfl,ww',g',rfl,hq',hwa⟩:=round (dH g) (Nc hqg)
  have hst:=fun i l=>Ho hqg i l
  have hLc:LP.clean=LP:=by rw[←hL];rfl
  have hLq:LP.quiet LP=true:=by rw[←hL];rfl
  simp only[abQ,adG]at e
  have hal':(Bn s d hr G i c a).length=s.cons.length:=by unfold Bn;split<;>(try split)<;>simp[Bj,hal]
  have hgg:Be (g++g')=true:=by rw[Dq,hqg,hq'];rfl
  cases ww' with
  |false=>
   refine⟨_,by simp only[Vc.down,seval,hLc,e,hLq,hst];exact rfl,ww,g++g',?_,hgg,hal',fun h=>by rw[hwa rfl];exact hwr h⟩
   rw[hwa rfl,Bg]
   rfl
  |true=>
   refine⟨_,by simp only[Vc.down,seval,hLc,e,hLq,hst];exact rfl,true,g++g',?_,hgg,hal',fun h=>by cases h⟩
   simp only[Ar,Bg,Cc,adK,adL]
   rfl
 ·rintro i c a h hx hact ⟨ww,g,rfl,hqg,hal,hwr⟩
  exact⟨ww,g,by simp[Bn,hact],hqg,by simpa [Bn,hact]using hal,by simpa [Bn,hact]using hwr⟩
 ·exact⟨false,[],by simp[iv],rfl,by simp,fun _=>rfl⟩
 ·rintro o h' ⟨rfl,ww,g,rfl,hqg,hal,hwr⟩
  have hst:=fun i l=>Ho hqg i l
  subst hL
  have hrep:acI s.cons.length [AV.int .i64 0]=(acI s.cons.length 0).map iv:=by simp[iv]
  cases ww with
  |false=>
   rw[hwr rfl]
   (have hb:=trivial;with_reducible repeat' (first|simp only[hb,Vc.down,seval,La.down,hst,Bg,abQ,hrep]|refine Ai ?_ ?_<;>intro hb|refine fd ?_|fail))
   exact⟨_,rfl⟩
  |true=>
   (have hb:=trivial;with_reducible repeat' (first|simp only[hb,Vc.down,seval,La.down,hst,Bg,abQ]|refine Ai ?_ ?_<;>intro hb|refine fd ?_|fail))
   exact⟨_,rfl⟩
theorem ad4{s:Ac}{d:An}{w w1 w2 w3 w5:Bool}{hr own fuel:Int}{G L R:List Int}{O:List Ab}(hG:G.length=s.cons.length)(hl:s.cons.length≤1000)(hn:d.noms.length≤1000)(hc:∀c∈s.cons,ac3 c):
 Vg Bl 106 [.ptr 0 0 0] [.live 19 false w [(rc s d hr (.slr 1 1 0 G.length) own fuel (.slr 1 2 0 L.length) (.slr 5 3 0 O.length) .nils .nils .nils .nils)],.live 1 true w1 (G.map iv),.live 1 true w2 (L.map iv),.live 5 true w3 (O.map Ab.cells)]
  fun o h'=>o=.ret (.tup [])∧∃ww,h'=[.live 19 false true [(rc s d hr (.slr 1 1 0 G.length) own fuel (.slr 1 2 0 L.length) (.slr 5 3 0 O.length) (.slr 1 4 0 s.cons.length) .nils .nils .nils)],.live 1 true w1 (G.map iv),.live 1 true w2 (L.map iv),.live 5 true w3 (O.map Ab.cells),.live 1 true ww ((It (Bn s d hr G) s.cons 0 (acI s.cons.length 0)).map iv)]:=by
 have hl':s.cons.length≤maxLen:=by unfold maxLen;omega
 have h40:((s.cons.length:Int)≤1099511627776)=True:=eq_true (by omega)
 refine Nj rfl Tryz.func106 rfl rfl ?_
 simp only[Tryz.f106]
 (have hb:=trivial;with_reducible repeat' (first|simp only[hb,Vc.down,seval,La.down,aa9,h40,adO,adP]|refine Ai ?_ ?_<;>intro hb|refine fd ?_|fail))
 generalize hL:CB.lp _ _ _ _ _=LP
 refine Yo (Pq (s:=s) (d:=d) (hr:=hr) (y:=.yl 6) (Bn s d hr G) (fun i a h=>(∃ww g,h=.live 19 false false [(rc s d hr (.slr 1 1 0 G.length) own fuel (.slr 1 2 0 L.length) (.slr 5 3 0 O.length) (.slr 1 5 0 s.cons.length) .nils .nils .nils)]::.live 1 true false (G.map iv)::.live 1 true false (L.map iv)::.live 5 true false (O.map Ab.cells)::  .live 1 false false [[.ptr 0 0 0]]::.live 1 true ww (a.map iv)::LP::g∧Be g=true∧a.length=s.cons.length∧(ww=false→a=acI s.cons.length 0))) hl' ?_ ?_ ?_ ?_ (acI s.cons.length 0) ?_) ?_
 ·rintro i a h ⟨ww,g,rfl,_,_,_⟩
  exact⟨_,_,_,_,_,_,_,_,_,_,_,rfl⟩
 ·rintro i a h fl w rows ⟨ww,g,rfl,hqg,hal,hwr⟩
  exact⟨ww,g++[.live 11 fl w rows],rfl,by rw[Dq,hqg];rfl,hal,hwr⟩
 ·rintro i c a h hx hact ⟨ww,g,rfl,hqg,hal,hwr⟩
  obtain⟨hz,hr0,hrl⟩:=hc c (aeY hx)
  have hil:i<s.cons.length:=(adJ.1 hx).1
  have hct:=cP s d.noms d.nn i hr (by unfold maxLen;omega)
  have hii:((i:Int)<(s.cons.length:Int))=True:=eq_true (by omega)
  have hiG:((i:Int)<(G.length:Int))=True:=eq_true (by omega)
  have aG:G[i]?=some (gI G i):=by have:=Hn (l:=G) (i:=(i:Int)) (by simp;omega);simpa using this
  have aA:a[i]?=some (gI a i):=by have:=Hn (l:=a) (i:=(i:Int)) (by simp;omega);simpa using this
  have aW:∀v,(a.map iv).set i [.int .i64 v]=(sI a i v).map iv:=fun v=>by have:=Fo a (i:Int) v;simpa using this
  have hrt:=fun g=>pK c g (Rb c) (by unfold Rb;rw[adN (ae4.2 hr0)];rfl) hrl hz
  have hroom:∀(tl:Aa),Bl.call (.sh 130) [.ptr 0 0 0,.int .i64 i] (.live 19 false false [(rc s d hr (.slr 1 1 0 G.length) own fuel (.slr 1 2 0 L.length) (.slr 5 3 0 O.length) (.slr 1 5 0 s.cons.length) .nils .nils .nils)]::.live 1 true false (G.map iv)::tl)=some (.ret (.int .i64 (IntKind.i64.wrap (c.space-gI G i))),.live 19 false false [(rc s d hr (.slr 1 1 0 G.length) own fuel (.slr 1 2 0 L.length) (.slr 5 3 0 O.length) (.slr 1 5 0 s.cons.length) .nils .nils .nils)]::.live 1 true false (G.map iv)::tl):=fun tl=>
   aT (b:=0) (bg:=1) (n:=G.length) rfl rfl rfl ⟨by omega,by omega⟩ (by simpa using hx)
  have round:∀g0:Aa,Be g0=true→RnQ Bl ([.int .i64 i,.agg [.bool c.firm,.int .i64 c.space,.int .i64 c.lo,.int .i64 c.hi,Az 3 true c.nn (c.rates.map Bi.cells),.int .i64 c.gas,.int .i64 c.fixed,.int .i64 c.inn,.int .i64 c.out,.int .i64 c.cut,.int .i64 c.lack]]++[.yl 6]) (.live 19 false false [(rc s d hr (.slr 1 1 0 G.length) own fuel (.slr 1 2 0 L.length) (.slr 5 3 0 O.length) (.slr 1 5 0 s.cons.length) .nils .nils .nils)]::.live 1 true false (G.map iv)::.live 1 true false (L.map iv)::.live 5 true false (O.map Ab.cells)::  .live 1 false false [[.ptr 0 0 0]]::.live 1 true false (a.map iv)::LP::g0)
   fun o h'=>o=.ret (.bool true)∧∃ww g',h'=.live 19 false false [(rc s d hr (.slr 1 1 0 G.length) own fuel (.slr 1 2 0 L.length) (.slr 5 3 0 O.length) (.slr 1 5 0 s.cons.length) .nils .nils .nils)]::.live 1 true false (G.map iv)::.live 1 true false (L.map iv)::.live 5 true false (O.map Ab.cells)::  .live 1 false false [[.ptr 0 0 0]]::.live 1 true ww ((Bn s d hr G i c a).map iv)::LP::(g0++g')∧Be g'=true∧(ww=false→Bn s d hr G i c a=a):=by
   subst hL
   intro g0 hq0
   have hse:=fun i l l'=>Yh hq0 i l l'
   refine sH rfl rfl ?_
   cases hk:decide (Ed s.lead d.noms i hr d.noms (0,-1)<0)with
   |true=>
    (have hb:=trivial;with_reducible repeat' (first|simp only[hb,Vc.down,seval,La.down,hct,hk,hx,Ah.cells]|refine Ai ?_ ?_<;>intro hb|refine fd ?_|fail))
    have hwa:Bn s d hr G i c a=a:=by simp[Bn,hact,of_decide_eq_true hk]
    exact⟨_,_,rfl,rfl,false,[_],by rw[hwa],rfl,fun _=>hwa⟩
   |false=>
    have hkn:=of_decide_eq_false hk
    obtain⟨hk0,nk,hnk⟩:=pA hkn
    have hk0':(0≤Ed s.lead d.noms i hr d.noms (0,-1))=True:=eq_true hk0
    (have hb:=trivial;with_reducible repeat' (first|simp only[hb,Vc.down,seval,La.down,hct,hk,hx,Ah.cells,Bq.cells,Bi.cells,hk0',hnk,hrt,hroom,hii,hiG,aG,aA,aW,hse,iv,aa9]|refine Ai ?_ ?_<;>intro hb|((refine Hg (g0.length) 6 ?_ ?_);(simp (discharger:=decide) only[Gz,Et,acV,acQ,Dv,He,Hj,Hf,Hi,Du,Es,Ew,acR,acL];kernel_rfl);intro _)|refine lU ?_|fail))
    exact⟨_,_,rfl,rfl,true,[_,_],by rw[show Bn s d hr G i c a=sI a i (fZ c nk.amount (gI G i)) by simp[Bn,hact,hkn,Rr,hnk]];rfl,rfl,fun h=>by cases h⟩
  obtain⟨o,h',e,rfl,ww',g',rfl,hq',hwa⟩:=round (dH g) (Nc hqg)
  have hst:=fun i l=>Ho hqg i l
  have hLc:LP.clean=LP:=by rw[←hL];rfl
  have hLq:LP.quiet LP=true:=by rw[←hL];rfl
  simp only[abQ,adG]at e
  have hal':(Bn s d hr G i c a).length=s.cons.length:=by unfold Bn;split<;>(try split)<;>simp[Bj,hal]
  have hgg:Be (g++g')=true:=by rw[Dq,hqg,hq'];rfl
  cases ww' with
  |false=>
   refine⟨_,by simp only[Vc.down,seval,hLc,e,hLq,hst];exact rfl,ww,g++g',?_,hgg,hal',fun h=>by rw[hwa rfl];exact hwr h⟩
   rw[hwa rfl,Bg]
   rfl
  |true=>
   refine⟨_,by simp only[Vc.down,seval,hLc,e,hLq,hst];exact rfl,true,g++g',?_,hgg,hal',fun h=>by cases h⟩
   simp only[Ar,Bg,Cc,adK,adL]
   rfl
 ·rintro i c a h hx hact ⟨ww,g,rfl,hqg,hal,hwr⟩
  exact⟨ww,g,by simp[Bn,hact],hqg,by simpa [Bn,hact]using hal,by simpa [Bn,hact]using hwr⟩
 ·exact⟨false,[],by simp[iv],rfl,by simp,fun _=>rfl⟩
 ·rintro o h' ⟨rfl,ww,g,rfl,hqg,hal,hwr⟩
  have hst:=fun i l=>Ho hqg i l
  subst hL
  have hrep:acI s.cons.length [AV.int .i64 0]=(acI s.cons.length 0).map iv:=by simp[iv]
  cases ww with
  |false=>
   rw[hwr rfl]
   (have hb:=trivial;with_reducible repeat' (first|simp only[hb,Vc.down,seval,La.down,hst,Bg,abQ,hrep]|refine Ai ?_ ?_<;>intro hb|refine fd ?_|fail))
   exact⟨_,rfl⟩
  |true=>
   (have hb:=trivial;with_reducible repeat' (first|simp only[hb,Vc.down,seval,La.down,hst,Bg,abQ]|refine Ai ?_ ?_<;>intro hb|refine fd ?_|fail))
   exact⟨_,rfl⟩
theorem ag1{s:Ac}{d:An}{w w1 w2 w3 w5:Bool}{hr own fuel:Int}{G L R:List Int}{O:List Ab}(hG:G.length=s.cons.length)(hl:s.cons.length≤1000)(hn:d.noms.length≤1000)(hc:∀c∈s.cons,ac3 c):
 Vg Bl 106 [.ptr 0 0 0] [.live 19 false w [(rc s d hr (.slr 1 1 0 G.length) own fuel (.slr 1 2 0 L.length) .nils .nils .nils .nils (.slr 1 3 0 R.length))],.live 1 true w1 (G.map iv),.live 1 true w2 (L.map iv),.live 1 true w5 (R.map iv)]
  fun o h'=>o=.ret (.tup [])∧∃ww,h'=[.live 19 false true [(rc s d hr (.slr 1 1 0 G.length) own fuel (.slr 1 2 0 L.length) .nils (.slr 1 4 0 s.cons.length) .nils .nils (.slr 1 3 0 R.length))],.live 1 true w1 (G.map iv),.live 1 true w2 (L.map iv),.live 1 true w5 (R.map iv),.live 1 true ww ((It (Bn s d hr G) s.cons 0 (acI s.cons.length 0)).map iv)]:=by
 have hl':s.cons.length≤maxLen:=by unfold maxLen;omega
 have h40:((s.cons.length:Int)≤1099511627776)=True:=eq_true (by omega)
 refine Nj rfl Tryz.func106 rfl rfl ?_
 simp only[Tryz.f106]
 (have hb:=trivial;with_reducible repeat' (first|simp only[hb,Vc.down,seval,La.down,aa9,h40,adO,adP]|refine Ai ?_ ?_<;>intro hb|refine fd ?_|fail))
 generalize hL:CB.lp _ _ _ _ _=LP
 refine Yo (Pq (s:=s) (d:=d) (hr:=hr) (y:=.yl 6) (Bn s d hr G) (fun i a h=>(∃ww g,h=.live 19 false false [(rc s d hr (.slr 1 1 0 G.length) own fuel (.slr 1 2 0 L.length) .nils (.slr 1 5 0 s.cons.length) .nils .nils (.slr 1 3 0 R.length))]::.live 1 true false (G.map iv)::.live 1 true false (L.map iv)::  .live 1 true false (R.map iv)::.live 1 false false [[.ptr 0 0 0]]::.live 1 true ww (a.map iv)::LP::g∧Be g=true∧a.length=s.cons.length∧(ww=false→a=acI s.cons.length 0))) hl' ?_ ?_ ?_ ?_ (acI s.cons.length 0) ?_) ?_
 ·rintro i a h ⟨ww,g,rfl,_,_,_⟩
  exact⟨_,_,_,_,_,_,_,_,_,_,_,rfl⟩
 ·rintro i a h fl w rows ⟨ww,g,rfl,hqg,hal,hwr⟩
  exact⟨ww,g++[.live 11 fl w rows],rfl,by rw[Dq,hqg];rfl,hal,hwr⟩
 ·rintro i c a h hx hact ⟨ww,g,rfl,hqg,hal,hwr⟩
  obtain⟨hz,hr0,hrl⟩:=hc c (aeY hx)
  have hil:i<s.cons.length:=(adJ.1 hx).1
  have hct:=cP s d.noms d.nn i hr (by unfold maxLen;omega)
  have hii:((i:Int)<(s.cons.length:Int))=True:=eq_true (by omega)
  have hiG:((i:Int)<(G.length:Int))=True:=eq_true (by omega)
  have aG:G[i]?=some (gI G i):=by have:=Hn (l:=G) (i:=(i:Int)) (by simp;omega);simpa using this
  have aA:a[i]?=some (gI a i):=by have:=Hn (l:=a) (i:=(i:Int)) (by simp;omega);simpa using this
  have aW:∀v,(a.map iv).set i [.int .i64 v]=(sI a i v).map iv:=fun v=>by have:=Fo a (i:Int) v;simpa using this
  have hrt:=fun g=>pK c g (Rb c) (by unfold Rb;rw[adN (ae4.2 hr0)];rfl) hrl hz
  have hroom:∀(tl:Aa),Bl.call (.sh 130) [.ptr 0 0 0,.int .i64 i] (.live 19 false false [(rc s d hr (.slr 1 1 0 G.length) own fuel (.slr 1 2 0 L.length) .nils (.slr 1 5 0 s.cons.length) .nils .nils (.slr 1 3 0 R.length))]::.live 1 true false (G.map iv)::tl)=some (.ret (.int .i64 (IntKind.i64.wrap (c.space-gI G i))),.live 19 false false [(rc s d hr (.slr 1 1 0 G.length) own fuel (.slr 1 2 0 L.length) .nils (.slr 1 5 0 s.cons.length) .nils .nils (.slr 1 3 0 R.length))]::.live 1 true false (G.map iv)::tl):=fun tl=>
   aT (b:=0) (bg:=1) (n:=G.length) rfl rfl rfl ⟨by omega,by omega⟩ (by simpa using hx)
  have round:∀g0:Aa,Be g0=true→RnQ Bl ([.int .i64 i,.agg [.bool c.firm,.int .i64 c.space,.int .i64 c.lo,.int .i64 c.hi,Az 3 true c.nn (c.rates.map Bi.cells),.int .i64 c.gas,.int .i64 c.fixed,.int .i64 c.inn,.int .i64 c.out,.int .i64 c.cut,.int .i64 c.lack]]++[.yl 6]) (.live 19 false false [(rc s d hr (.slr 1 1 0 G.length) own fuel (.slr 1 2 0 L.length) .nils (.slr 1 5 0 s.cons.length) .nils .nils (.slr 1 3 0 R.length))]::.live 1 true false (G.map iv)::.live 1 true false (L.map iv)::  .live 1 true false (R.map iv)::.live 1 false false [[.ptr 0 0 0]]::.live 1 true false (a.map iv)::LP::g0)
   fun o h'=>o=.ret (.bool true)∧∃ww g',h'=.live 19 false false [(rc s d hr (.slr 1 1 0 G.length) own fuel (.slr 1 2 0 L.length) .nils (.slr 1 5 0 s.cons.length) .nils .nils (.slr 1 3 0 R.length))]::.live 1 true false (G.map iv)::.live 1 true false (L.map iv)::  .live 1 true false (R.map iv)::.live 1 false false [[.ptr 0 0 0]]::.live 1 true ww ((Bn s d hr G i c a).map iv)::LP::(g0++g')∧Be g'=true∧(ww=false→Bn s d hr G i c a=a):=by
   subst hL
   intro g0 hq0
   have hse:=fun i l l'=>Yh hq0 i l l'
   refine sH rfl rfl ?_
   cases hk:decide (Ed s.lead d.noms i hr d.noms (0,-1)<0)with
   |true=>
    (have hb:=trivial;with_reducible repeat' (first|simp only[hb,Vc.down,seval,La.down,hct,hk,hx,Ah.cells]|refine Ai ?_ ?_<;>intro hb|refine fd ?_|fail))
    have hwa:Bn s d hr G i c a=a:=by simp[Bn,hact,of_decide_eq_true hk]
    exact⟨_,_,rfl,rfl,false,[_],by rw[hwa],rfl,fun _=>hwa⟩
   |false=>
    have hkn:=of_decide_eq_false hk
    obtain⟨hk0,nk,hnk⟩:=pA hkn
    have hk0':(0≤Ed s.lead d.noms i hr d.noms (0,-1))=True:=eq_true hk0
    (have hb:=trivial;with_reducible repeat' (first|simp only[hb,Vc.down,seval,La.down,hct,hk,hx,Ah.cells,Bq.cells,Bi.cells,hk0',hnk,hrt,hroom,hii,hiG,aG,aA,aW,hse,iv,aa9]|refine Ai ?_ ?_<;>intro hb|((refine Hg (g0.length) 6 ?_ ?_);(simp (discharger:=decide) only[Gz,Et,acV,acQ,Dv,He,Hj,Hf,Hi,Du,Es,Ew,acR,acL];kernel_rfl);intro _)|refine lU ?_|fail))
    exact⟨_,_,rfl,rfl,true,[_,_],by rw[show Bn s d hr G i c a=sI a i (fZ c nk.amount (gI G i)) by simp[Bn,hact,hkn,Rr,hnk]];rfl,rfl,fun h=>by cases h⟩
  obtain⟨o,h',e,rfl,ww',g',rfl,hq',hwa⟩:=round (dH g) (Nc hqg)
  have hst:=fun i l=>Ho hqg i l
  have hLc:LP.clean=LP:=by rw[←hL];rfl
  have hLq:LP.quiet LP=true:=by rw[←hL];rfl
  simp only[abQ,adG]at e
  have hal':(Bn s d hr G i c a).length=s.cons.length:=by unfold Bn;split<;>(try split)<;>simp[Bj,hal]
  have hgg:Be (g++g')=true:=by rw[Dq,hqg,hq'];rfl
  cases ww' with
  |false=>
   refine⟨_,by simp only[Vc.down,seval,hLc,e,hLq,hst];exact rfl,ww,g++g',?_,hgg,hal',fun h=>by rw[hwa rfl];exact hwr h⟩
   rw[hwa rfl,Bg]
   rfl
  |true=>
   refine⟨_,by simp only[Vc.down,seval,hLc,e,hLq,hst];exact rfl,true,g++g',?_,hgg,hal',fun h=>by cases h⟩
   simp only[Ar,Bg,Cc,adK,adL]
   rfl
 ·rintro i c a h hx hact ⟨ww,g,rfl,hqg,hal,hwr⟩
  exact⟨ww,g,by simp[Bn,hact],hqg,by simpa [Bn,hact]using hal,by simpa [Bn,hact]using hwr⟩
 ·exact⟨false,[],by simp[iv],rfl,by simp,fun _=>rfl⟩
 ·rintro o h' ⟨rfl,ww,g,rfl,hqg,hal,hwr⟩
  have hst:=fun i l=>Ho hqg i l
  subst hL
  have hrep:acI s.cons.length [AV.int .i64 0]=(acI s.cons.length 0).map iv:=by simp[iv]
  cases ww with
  |false=>
   rw[hwr rfl]
   (have hb:=trivial;with_reducible repeat' (first|simp only[hb,Vc.down,seval,La.down,hst,Bg,abQ,hrep]|refine Ai ?_ ?_<;>intro hb|refine fd ?_|fail))
   exact⟨_,rfl⟩
  |true=>
   (have hb:=trivial;with_reducible repeat' (first|simp only[hb,Vc.down,seval,La.down,hst,Bg,abQ]|refine Ai ?_ ?_<;>intro hb|refine fd ?_|fail))
   exact⟨_,rfl⟩
theorem ai2{s:Ac}{d:An}{w w1 w2 w3 w5:Bool}{hr own fuel:Int}{G L R:List Int}{O:List Ab}(hG:G.length=s.cons.length)(hl:s.cons.length≤1000)(hn:d.noms.length≤1000)(hc:∀c∈s.cons,ac3 c):
 Vg Bl 106 [.ptr 0 0 0] [.live 19 false w [(rc s d hr (.slr 1 1 0 G.length) own fuel (.slr 1 2 0 L.length) (.slr 5 3 0 O.length) .nils .nils .nils (.slr 1 4 0 R.length))],.live 1 true w1 (G.map iv),.live 1 true w2 (L.map iv),.live 5 true w3 (O.map Ab.cells),.live 1 true w5 (R.map iv)]
  fun o h'=>o=.ret (.tup [])∧∃ww,h'=[.live 19 false true [(rc s d hr (.slr 1 1 0 G.length) own fuel (.slr 1 2 0 L.length) (.slr 5 3 0 O.length) (.slr 1 5 0 s.cons.length) .nils .nils (.slr 1 4 0 R.length))],.live 1 true w1 (G.map iv),.live 1 true w2 (L.map iv),.live 5 true w3 (O.map Ab.cells),.live 1 true w5 (R.map iv),.live 1 true ww ((It (Bn s d hr G) s.cons 0 (acI s.cons.length 0)).map iv)]:=by
 have hl':s.cons.length≤maxLen:=by unfold maxLen;omega
 have h40:((s.cons.length:Int)≤1099511627776)=True:=eq_true (by omega)
 refine Nj rfl Tryz.func106 rfl rfl ?_
 simp only[Tryz.f106]
 (have hb:=trivial;with_reducible repeat' (first|simp only[hb,Vc.down,seval,La.down,aa9,h40,adO,adP]|refine Ai ?_ ?_<;>intro hb|refine fd ?_|fail))
 generalize hL:CB.lp _ _ _ _ _=LP
 refine Yo (Pq (s:=s) (d:=d) (hr:=hr) (y:=.yl 7) (Bn s d hr G) (fun i a h=>(∃ww g,h=.live 19 false false [(rc s d hr (.slr 1 1 0 G.length) own fuel (.slr 1 2 0 L.length) (.slr 5 3 0 O.length) (.slr 1 6 0 s.cons.length) .nils .nils (.slr 1 4 0 R.length))]::.live 1 true false (G.map iv)::.live 1 true false (L.map iv)::.live 5 true false (O.map Ab.cells)::.live 1 true false (R.map iv)::.live 1 false false [[.ptr 0 0 0]]::.live 1 true ww (a.map iv)::LP::g∧Be g=true∧a.length=s.cons.length∧(ww=false→a=acI s.cons.length 0))) hl' ?_ ?_ ?_ ?_ (acI s.cons.length 0) ?_) ?_
 ·rintro i a h ⟨ww,g,rfl,_,_,_⟩
  exact⟨_,_,_,_,_,_,_,_,_,_,_,rfl⟩
 ·rintro i a h fl w rows ⟨ww,g,rfl,hqg,hal,hwr⟩
  exact⟨ww,g++[.live 11 fl w rows],rfl,by rw[Dq,hqg];rfl,hal,hwr⟩
 ·rintro i c a h hx hact ⟨ww,g,rfl,hqg,hal,hwr⟩
  obtain⟨hz,hr0,hrl⟩:=hc c (aeY hx)
  have hil:i<s.cons.length:=(adJ.1 hx).1
  have hct:=cP s d.noms d.nn i hr (by unfold maxLen;omega)
  have hii:((i:Int)<(s.cons.length:Int))=True:=eq_true (by omega)
  have hiG:((i:Int)<(G.length:Int))=True:=eq_true (by omega)
  have aG:G[i]?=some (gI G i):=by have:=Hn (l:=G) (i:=(i:Int)) (by simp;omega);simpa using this
  have aA:a[i]?=some (gI a i):=by have:=Hn (l:=a) (i:=(i:Int)) (by simp;omega);simpa using this
  have aW:∀v,(a.map iv).set i [.int .i64 v]=(sI a i v).map iv:=fun v=>by have:=Fo a (i:Int) v;simpa using this
  have hrt:=fun g=>pK c g (Rb c) (by unfold Rb;rw[adN (ae4.2 hr0)];rfl) hrl hz
  have hroom:∀(tl:Aa),Bl.call (.sh 130) [.ptr 0 0 0,.int .i64 i] (.live 19 false false [(rc s d hr (.slr 1 1 0 G.length) own fuel (.slr 1 2 0 L.length) (.slr 5 3 0 O.length) (.slr 1 6 0 s.cons.length) .nils .nils (.slr 1 4 0 R.length))]::.live 1 true false (G.map iv)::tl)=some (.ret (.int .i64 (IntKind.i64.wrap (c.space-gI G i))),.live 19 false false [(rc s d hr (.slr 1 1 0 G.length) own fuel (.slr 1 2 0 L.length) (.slr 5 3 0 O.length) (.slr 1 6 0 s.cons.length) .nils .nils (.slr 1 4 0 R.length))]::.live 1 true false (G.map iv)::tl):=fun tl=>
   aT (b:=0) (bg:=1) (n:=G.length) rfl rfl rfl ⟨by omega,by omega⟩ (by simpa using hx)
  have round:∀g0:Aa,Be g0=true→RnQ Bl ([.int .i64 i,.agg [.bool c.firm,.int .i64 c.space,.int .i64 c.lo,.int .i64 c.hi,Az 3 true c.nn (c.rates.map Bi.cells),.int .i64 c.gas,.int .i64 c.fixed,.int .i64 c.inn,.int .i64 c.out,.int .i64 c.cut,.int .i64 c.lack]]++[.yl 7]) (.live 19 false false [(rc s d hr (.slr 1 1 0 G.length) own fuel (.slr 1 2 0 L.length) (.slr 5 3 0 O.length) (.slr 1 6 0 s.cons.length) .nils .nils (.slr 1 4 0 R.length))]::.live 1 true false (G.map iv)::.live 1 true false (L.map iv)::.live 5 true false (O.map Ab.cells)::.live 1 true false (R.map iv)::.live 1 false false [[.ptr 0 0 0]]::.live 1 true false (a.map iv)::LP::g0)
   fun o h'=>o=.ret (.bool true)∧∃ww g',h'=.live 19 false false [(rc s d hr (.slr 1 1 0 G.length) own fuel (.slr 1 2 0 L.length) (.slr 5 3 0 O.length) (.slr 1 6 0 s.cons.length) .nils .nils (.slr 1 4 0 R.length))]::.live 1 true false (G.map iv)::.live 1 true false (L.map iv)::.live 5 true false (O.map Ab.cells)::.live 1 true false (R.map iv)::.live 1 false false [[.ptr 0 0 0]]::.live 1 true ww ((Bn s d hr G i c a).map iv)::LP::(g0++g')∧Be g'=true∧(ww=false→Bn s d hr G i c a=a):=by
   subst hL
   intro g0 hq0
   have hse:=fun i l l'=>Yh hq0 i l l'
   refine sH rfl rfl ?_
   cases hk:decide (Ed s.lead d.noms i hr d.noms (0,-1)<0)with
   |true=>
    (have hb:=trivial;with_reducible repeat' (first|simp only[hb,Vc.down,seval,La.down,hct,hk,hx,Ah.cells]|refine Ai ?_ ?_<;>intro hb|refine fd ?_|fail))
    have hwa:Bn s d hr G i c a=a:=by simp[Bn,hact,of_decide_eq_true hk]
    exact⟨_,_,rfl,rfl,false,[_],by rw[hwa],rfl,fun _=>hwa⟩
   |false=>
    have hkn:=of_decide_eq_false hk
    obtain⟨hk0,nk,hnk⟩:=pA hkn
    have hk0':(0≤Ed s.lead d.noms i hr d.noms (0,-1))=True:=eq_true hk0
    (have hb:=trivial;with_reducible repeat' (first|simp only[hb,Vc.down,seval,La.down,hct,hk,hx,Ah.cells,Bq.cells,Bi.cells,hk0',hnk,hrt,hroom,hii,hiG,aG,aA,aW,hse,iv,aa9]|refine Ai ?_ ?_<;>intro hb|((refine Hg (g0.length) 6 ?_ ?_);(simp (discharger:=decide) only[Gz,Et,acV,acQ,Dv,He,Hj,Hf,Hi,Du,Es,Ew,acR,acL];kernel_rfl);intro _)|refine lU ?_|fail))
    exact⟨_,_,rfl,rfl,true,[_,_],by rw[show Bn s d hr G i c a=sI a i (fZ c nk.amount (gI G i)) by simp[Bn,hact,hkn,Rr,hnk]];rfl,rfl,fun h=>by cases h⟩
  obtain⟨o,h',e,rfl,ww',g',rfl,hq',hwa⟩:=round (dH g) (Nc hqg)
  have hst:=fun i l=>Ho hqg i l
  have hLc:LP.clean=LP:=by rw[←hL];rfl
  have hLq:LP.quiet LP=true:=by rw[←hL];rfl
  simp only[abQ,adG]at e
  have hal':(Bn s d hr G i c a).length=s.cons.length:=by unfold Bn;split<;>(try split)<;>simp[Bj,hal]
  have hgg:Be (g++g')=true:=by rw[Dq,hqg,hq'];rfl
  cases ww' with
  |false=>
   refine⟨_,by simp only[Vc.down,seval,hLc,e,hLq,hst];exact rfl,ww,g++g',?_,hgg,hal',fun h=>by rw[hwa rfl];exact hwr h⟩
   rw[hwa rfl,Bg]
   rfl
  |true=>
   refine⟨_,by simp only[Vc.down,seval,hLc,e,hLq,hst];exact rfl,true,g++g',?_,hgg,hal',fun h=>by cases h⟩
   simp only[Ar,Bg,Cc,adK,adL]
   rfl
 ·rintro i c a h hx hact ⟨ww,g,rfl,hqg,hal,hwr⟩
  exact⟨ww,g,by simp[Bn,hact],hqg,by simpa [Bn,hact]using hal,by simpa [Bn,hact]using hwr⟩
 ·exact⟨false,[],by simp[iv],rfl,by simp,fun _=>rfl⟩
 ·rintro o h' ⟨rfl,ww,g,rfl,hqg,hal,hwr⟩
  have hst:=fun i l=>Ho hqg i l
  subst hL
  have hrep:acI s.cons.length [AV.int .i64 0]=(acI s.cons.length 0).map iv:=by simp[iv]
  cases ww with
  |false=>
   rw[hwr rfl]
   (have hb:=trivial;with_reducible repeat' (first|simp only[hb,Vc.down,seval,La.down,hst,Bg,abQ,hrep]|refine Ai ?_ ?_<;>intro hb|refine fd ?_|fail))
   exact⟨_,rfl⟩
  |true=>
   (have hb:=trivial;with_reducible repeat' (first|simp only[hb,Vc.down,seval,La.down,hst,Bg,abQ]|refine Ai ?_ ?_<;>intro hb|refine fd ?_|fail))
   exact⟨_,rfl⟩
def jV(a b:Int):Int:=if a<b then b else a
def Xq(c:Ah)(n:Int):Int:=IntKind.i64.wrap (IntKind.i64.wrap (c.fixed+IntKind.i64.wrap (c.inn*jV 0 n))+IntKind.i64.wrap (c.out*jV 0 (IntKind.i64.wrap (0-n))))
def xA(c:Ah)(k:Int):Int:=IntKind.i64.wrap (c.cut*jV k (IntKind.i64.wrap (0-k)))
def Bt(hr:Int)(F W A:List Int)(i:Nat)(c:Ah)(L:List Int):List Int:=
 if Gp hr c.lo c.hi=true then
  if c.firm=true then sI (sI L i (IntKind.i64.wrap (gI L i+Xq c (gI F i)))) i (IntKind.i64.wrap (gI (sI L i (IntKind.i64.wrap (gI L i+Xq c (gI F i)))) i-xA c (IntKind.i64.wrap (gI W i-gI A i))))
  else sI L i (IntKind.i64.wrap (gI L i+Xq c (gI F i)))
 else L
theorem Nz(hr:Int)(F W A:List Int)(i:Nat)(c:Ah)(L:List Int):(Bt hr F W A i c L).length=L.length:=by
 unfold Bt;split<;>(try split)<;>simp[Bj]
theorem aeP{s:Ac}{d:An}{w w1 w2 w3 w4 w5 w6 w7:Bool}{hr own fuel:Int}{G L W A F R:List Int}{O:List Ab}(hL:L.length=s.cons.length)(hW:W.length=s.cons.length)(hAl:A.length=s.cons.length)(hF:F.length=s.cons.length)(hl:s.cons.length≤1000):
 Vg Bl 110 [.ptr 0 0 0] [.live 19 false w [(rc s d hr (.slr 1 1 0 G.length) own fuel (.slr 1 2 0 L.length) .nils (.slr 1 3 0 W.length) (.slr 1 4 0 A.length) (.slr 1 5 0 F.length) .nils)],.live 1 true w1 (G.map iv),.live 1 true w2 (L.map iv),.live 1 true w4 (W.map iv),.live 1 true w6 (A.map iv),.live 1 true w7 (F.map iv)]
  fun o h'=>o=.ret (.tup [])∧∃wL,(wL=false→It (Bt hr F W A) s.cons 0 L=L)∧h'=[.live 19 false w [(rc s d hr (.slr 1 1 0 G.length) own fuel (.slr 1 2 0 L.length) .nils (.slr 1 3 0 W.length) (.slr 1 4 0 A.length) (.slr 1 5 0 F.length) .nils)],.live 1 true w1 (G.map iv),.live 1 true wL ((It (Bt hr F W A) s.cons 0 L).map iv),.live 1 true w4 (W.map iv),.live 1 true w6 (A.map iv),.live 1 true w7 (F.map iv)]:=by
 have hl':s.cons.length≤maxLen:=by unfold maxLen;omega
 refine Nj rfl Tryz.func110 rfl rfl ?_
 simp only[Tryz.f110]
 (have hb:=trivial;with_reducible repeat' (first|simp only[hb,Vc.down,seval,Ld.down,aa9]|refine Ai ?_ ?_<;>intro hb|refine fd ?_|fail))
 generalize hLP:CB.lp _ _ _ _ _=LP
 refine Yo (Pq (s:=s) (d:=d) (hr:=hr) (y:=.yl 7) (Bt hr F W A) (fun i a h=>(∃ww g,h=.live 19 false false [(rc s d hr (.slr 1 1 0 G.length) own fuel (.slr 1 2 0 L.length) .nils (.slr 1 3 0 W.length) (.slr 1 4 0 A.length) (.slr 1 5 0 F.length) .nils)]::.live 1 true false (G.map iv)::.live 1 true ww (a.map iv)::  .live 1 true false (W.map iv)::.live 1 true false (A.map iv)::.live 1 true false (F.map iv)::  .live 1 false false [[.ptr 0 0 0]]::LP::g∧Be g=true∧a.length=s.cons.length∧(ww=false→a=L))) hl' ?_ ?_ ?_ ?_ L ?_) ?_
 ·rintro i a h ⟨ww,g,rfl,_,_,_⟩
  exact⟨_,_,_,_,_,_,_,_,_,_,_,rfl⟩
 ·rintro i a h fl w rows ⟨ww,g,rfl,hqg,hal,hwr⟩
  exact⟨ww,g++[.live 11 fl w rows],rfl,by rw[Dq,hqg];rfl,hal,hwr⟩
 ·rintro i c a h hx hact ⟨ww,g,rfl,hqg,hal,hwr⟩
  have hil:i<s.cons.length:=(adJ.1 hx).1
  have hii:((i:Int)<(s.cons.length:Int))=True:=eq_true (by omega)
  have at_:∀l:List Int,l.length=s.cons.length→l[i]?=some (gI l i):=fun l hl=>by have:=Hn (l:=l) (i:=(i:Int)) (by simp;omega);simpa using this
  have aF:=at_ F hF
  have aW:=at_ W hW
  have aA:=at_ A hAl
  have aL:=at_ a hal
  have aL2:∀v,(sI a i v)[i]?=some (gI (sI a i v) i):=fun v=>at_ _ (by rw[Bj];exact hal)
  have hiL:((i:Int)<(L.length:Int))=True:=eq_true (by omega)
  have hiW:((i:Int)<(W.length:Int))=True:=eq_true (by omega)
  have hiA:((i:Int)<(A.length:Int))=True:=eq_true (by omega)
  have hiF:((i:Int)<(F.length:Int))=True:=eq_true (by omega)
  have aS:∀(a:List Int) v,(a.map iv).set i [.int .i64 v]=(sI a i v).map iv:=fun a v=>by have:=Fo a (i:Int) v;simpa using this
  have hal':(Bt hr F W A i c a).length=s.cons.length:=by rw[Nz];exact hal
  have round:∀g0:Aa,Be g0=true→RnQ Bl ([.int .i64 i,.agg [.bool c.firm,.int .i64 c.space,.int .i64 c.lo,.int .i64 c.hi,Az 3 true c.nn (c.rates.map Bi.cells),.int .i64 c.gas,.int .i64 c.fixed,.int .i64 c.inn,.int .i64 c.out,.int .i64 c.cut,.int .i64 c.lack]]++[.yl 7]) (.live 19 false false [(rc s d hr (.slr 1 1 0 G.length) own fuel (.slr 1 2 0 L.length) .nils (.slr 1 3 0 W.length) (.slr 1 4 0 A.length) (.slr 1 5 0 F.length) .nils)]::.live 1 true false (G.map iv)::.live 1 true false (a.map iv)::  .live 1 true false (W.map iv)::.live 1 true false (A.map iv)::.live 1 true false (F.map iv)::  .live 1 false false [[.ptr 0 0 0]]::LP::g0)
   fun o h'=>o=.ret (.bool true)∧∃g',h'=.live 19 false false [(rc s d hr (.slr 1 1 0 G.length) own fuel (.slr 1 2 0 L.length) .nils (.slr 1 3 0 W.length) (.slr 1 4 0 A.length) (.slr 1 5 0 F.length) .nils)]::.live 1 true false (G.map iv)::.live 1 true true ((Bt hr F W A i c a).map iv)::  .live 1 true false (W.map iv)::.live 1 true false (A.map iv)::.live 1 true false (F.map iv)::  .live 1 false false [[.ptr 0 0 0]]::LP::(g0++g')∧Be g'=true:=by
   subst hLP
   intro g0 hq0
   refine sH rfl rfl ?_
   cases hf:c.firm with
   |true=>
    (have hb:=trivial;with_reducible repeat' (first|simp only[hb,Vc.down,seval,Ld.down,hx,hf,Ah.cells,hiL,hiW,hiA,hiF,aF,aW,aA,aL,aL2,aS,iv,aa9]|refine Ai ?_ ?_<;>intro hb|((refine Hg (g0.length) 7 ?_ ?_);(simp (discharger:=decide) only[Gz,Et,acV,acQ,Dv,He,Hj,Hf,Hi,Du,Es,Ew,acR,acL];kernel_rfl);intro _)|refine lU ?_|fail))
    exact⟨_,_,rfl,rfl,[_],by rw[show Bt hr F W A i c a=sI (sI a i (IntKind.i64.wrap (gI a i+Xq c (gI F i)))) i (IntKind.i64.wrap (gI (sI a i (IntKind.i64.wrap (gI a i+Xq c (gI F i)))) i-xA c (IntKind.i64.wrap (gI W i-gI A i)))) by simp[Bt,hact,hf]];rfl,rfl⟩
   |false=>
    (have hb:=trivial;with_reducible repeat' (first|simp only[hb,Vc.down,seval,Ld.down,hx,hf,Ah.cells,hiL,hiW,hiA,hiF,aF,aW,aA,aL,aL2,aS,iv,aa9]|refine Ai ?_ ?_<;>intro hb|((refine Hg (g0.length) 7 ?_ ?_);(simp (discharger:=decide) only[Gz,Et,acV,acQ,Dv,He,Hj,Hf,Hi,Du,Es,Ew,acR,acL];kernel_rfl);intro _)|refine lU ?_|fail))
    exact⟨_,_,rfl,rfl,[_],by rw[show Bt hr F W A i c a=sI a i (IntKind.i64.wrap (gI a i+Xq c (gI F i))) by simp[Bt,hact,hf]];rfl,rfl⟩
  obtain⟨o,h',e,rfl,g',rfl,hq'⟩:=round (dH g) (Nc hqg)
  have hst:=fun i l=>Ho hqg i l
  have hLc:LP.clean=LP:=by rw[←hLP];rfl
  have hLq:LP.quiet LP=true:=by rw[←hLP];rfl
  simp only[abQ,adG]at e
  have hgg:Be (g++g')=true:=by rw[Dq,hqg,hq'];rfl
  refine⟨_,by simp only[Vc.down,seval,hLc,e,hLq,hst];exact rfl,true,g++g',?_,hgg,hal',fun h=>by cases h⟩
  simp only[Ar,Bg,Cc,adK,adL]
  rfl
 ·rintro i c a h hx hact ⟨ww,g,rfl,hqg,hal,hwr⟩
  exact⟨ww,g,by simp[Bt,hact],hqg,by simpa [Bt,hact]using hal,by simpa [Bt,hact]using hwr⟩
 ·exact⟨false,[],rfl,rfl,hL,fun _=>rfl⟩
 ·rintro o h' ⟨rfl,ww,g,rfl,hqg,hal,hwr⟩
  have hst:=fun i l=>Ho hqg i l
  subst hLP
  cases ww with
  |false=>
   have hw0:=hwr rfl
   rw[hwr rfl]
   (have hb:=trivial;with_reducible repeat' (first|simp only[hb,Vc.down,seval,Ld.down,hst,Bg,abQ]|refine Ai ?_ ?_<;>intro hb|refine fd ?_|fail))
   exact⟨w2,by simp⟩
  |true=>
   (have hb:=trivial;with_reducible repeat' (first|simp only[hb,Vc.down,seval,Ld.down,hst,Bg,abQ]|refine Ai ?_ ?_<;>intro hb|refine fd ?_|fail))
   exact⟨true,(fun h=>by cases h),rfl⟩
theorem ajU{s:Ac}{d:An}{w w1 w2 w3 w4 w5 w6 w7:Bool}{hr own fuel:Int}{G L W A F R:List Int}{O:List Ab}(hL:L.length=s.cons.length)(hW:W.length=s.cons.length)(hAl:A.length=s.cons.length)(hF:F.length=s.cons.length)(hl:s.cons.length≤1000):
 Vg Bl 110 [.ptr 0 0 0] [.live 19 false w [(rc s d hr (.slr 1 1 0 G.length) own fuel (.slr 1 2 0 L.length) (.slr 5 3 0 O.length) (.slr 1 4 0 W.length) (.slr 1 5 0 A.length) (.slr 1 6 0 F.length) .nils)],.live 1 true w1 (G.map iv),.live 1 true w2 (L.map iv),.live 5 true w3 (O.map Ab.cells),.live 1 true w4 (W.map iv),.live 1 true w6 (A.map iv),.live 1 true w7 (F.map iv)]
  fun o h'=>o=.ret (.tup [])∧∃wL,(wL=false→It (Bt hr F W A) s.cons 0 L=L)∧h'=[.live 19 false w [(rc s d hr (.slr 1 1 0 G.length) own fuel (.slr 1 2 0 L.length) (.slr 5 3 0 O.length) (.slr 1 4 0 W.length) (.slr 1 5 0 A.length) (.slr 1 6 0 F.length) .nils)],.live 1 true w1 (G.map iv),.live 1 true wL ((It (Bt hr F W A) s.cons 0 L).map iv),.live 5 true w3 (O.map Ab.cells),.live 1 true w4 (W.map iv),.live 1 true w6 (A.map iv),.live 1 true w7 (F.map iv)]:=by
 have hl':s.cons.length≤maxLen:=by unfold maxLen;omega
 refine Nj rfl Tryz.func110 rfl rfl ?_
 simp only[Tryz.f110]
 (have hb:=trivial;with_reducible repeat' (first|simp only[hb,Vc.down,seval,Ld.down,aa9]|refine Ai ?_ ?_<;>intro hb|refine fd ?_|fail))
 generalize hLP:CB.lp _ _ _ _ _=LP
 refine Yo (Pq (s:=s) (d:=d) (hr:=hr) (y:=.yl 8) (Bt hr F W A) (fun i a h=>(∃ww g,h=.live 19 false false [(rc s d hr (.slr 1 1 0 G.length) own fuel (.slr 1 2 0 L.length) (.slr 5 3 0 O.length) (.slr 1 4 0 W.length) (.slr 1 5 0 A.length) (.slr 1 6 0 F.length) .nils)]::.live 1 true false (G.map iv)::.live 1 true ww (a.map iv)::.live 5 true false (O.map Ab.cells)::.live 1 true false (W.map iv)::.live 1 true false (A.map iv)::.live 1 true false (F.map iv)::  .live 1 false false [[.ptr 0 0 0]]::LP::g∧Be g=true∧a.length=s.cons.length∧(ww=false→a=L))) hl' ?_ ?_ ?_ ?_ L ?_) ?_
 ·rintro i a h ⟨ww,g,rfl,_,_,_⟩
  exact⟨_,_,_,_,_,_,_,_,_,_,_,rfl⟩
 ·rintro i a h fl w rows ⟨ww,g,rfl,hqg,hal,hwr⟩
  exact⟨ww,g++[.live 11 fl w rows],rfl,by rw[Dq,hqg];rfl,hal,hwr⟩
 ·rintro i c a h hx hact ⟨ww,g,rfl,hqg,hal,hwr⟩
  have hil:i<s.cons.length:=(adJ.1 hx).1
  have hii:((i:Int)<(s.cons.length:Int))=True:=eq_true (by omega)
  have at_:∀l:List Int,l.length=s.cons.length→l[i]?=some (gI l i):=fun l hl=>by have:=Hn (l:=l) (i:=(i:Int)) (by simp;omega);simpa using this
  have aF:=at_ F hF
  have aW:=at_ W hW
  have aA:=at_ A hAl
  have aL:=at_ a hal
  have aL2:∀v,(sI a i v)[i]?=some (gI (sI a i v) i):=fun v=>at_ _ (by rw[Bj];exact hal)
  have hiL:((i:Int)<(L.length:Int))=True:=eq_true (by omega)
  have hiW:((i:Int)<(W.length:Int))=True:=eq_true (by omega)
  have hiA:((i:Int)<(A.length:Int))=True:=eq_true (by omega)
  have hiF:((i:Int)<(F.length:Int))=True:=eq_true (by omega)
  have aS:∀(a:List Int) v,(a.map iv).set i [.int .i64 v]=(sI a i v).map iv:=fun a v=>by have:=Fo a (i:Int) v;simpa using this
  have hal':(Bt hr F W A i c a).length=s.cons.length:=by rw[Nz];exact hal
  have round:∀g0:Aa,Be g0=true→RnQ Bl ([.int .i64 i,.agg [.bool c.firm,.int .i64 c.space,.int .i64 c.lo,.int .i64 c.hi,Az 3 true c.nn (c.rates.map Bi.cells),.int .i64 c.gas,.int .i64 c.fixed,.int .i64 c.inn,.int .i64 c.out,.int .i64 c.cut,.int .i64 c.lack]]++[.yl 8]) (.live 19 false false [(rc s d hr (.slr 1 1 0 G.length) own fuel (.slr 1 2 0 L.length) (.slr 5 3 0 O.length) (.slr 1 4 0 W.length) (.slr 1 5 0 A.length) (.slr 1 6 0 F.length) .nils)]::.live 1 true false (G.map iv)::.live 1 true false (a.map iv)::.live 5 true false (O.map Ab.cells)::.live 1 true false (W.map iv)::.live 1 true false (A.map iv)::.live 1 true false (F.map iv)::  .live 1 false false [[.ptr 0 0 0]]::LP::g0)
   fun o h'=>o=.ret (.bool true)∧∃g',h'=.live 19 false false [(rc s d hr (.slr 1 1 0 G.length) own fuel (.slr 1 2 0 L.length) (.slr 5 3 0 O.length) (.slr 1 4 0 W.length) (.slr 1 5 0 A.length) (.slr 1 6 0 F.length) .nils)]::.live 1 true false (G.map iv)::.live 1 true true ((Bt hr F W A i c a).map iv)::.live 5 true false (O.map Ab.cells)::.live 1 true false (W.map iv)::.live 1 true false (A.map iv)::.live 1 true false (F.map iv)::  .live 1 false false [[.ptr 0 0 0]]::LP::(g0++g')∧Be g'=true:=by
   subst hLP
   intro g0 hq0
   refine sH rfl rfl ?_
   cases hf:c.firm with
   |true=>
    (have hb:=trivial;with_reducible repeat' (first|simp only[hb,Vc.down,seval,Ld.down,hx,hf,Ah.cells,hiL,hiW,hiA,hiF,aF,aW,aA,aL,aL2,aS,iv,aa9]|refine Ai ?_ ?_<;>intro hb|((refine Hg (g0.length) 7 ?_ ?_);(simp (discharger:=decide) only[Gz,Et,acV,acQ,Dv,He,Hj,Hf,Hi,Du,Es,Ew,acR,acL];kernel_rfl);intro _)|refine lU ?_|fail))
    exact⟨_,_,rfl,rfl,[_],by rw[show Bt hr F W A i c a=sI (sI a i (IntKind.i64.wrap (gI a i+Xq c (gI F i)))) i (IntKind.i64.wrap (gI (sI a i (IntKind.i64.wrap (gI a i+Xq c (gI F i)))) i-xA c (IntKind.i64.wrap (gI W i-gI A i)))) by simp[Bt,hact,hf]];rfl,rfl⟩
   |false=>
    (have hb:=trivial;with_reducible repeat' (first|simp only[hb,Vc.down,seval,Ld.down,hx,hf,Ah.cells,hiL,hiW,hiA,hiF,aF,aW,aA,aL,aL2,aS,iv,aa9]|refine Ai ?_ ?_<;>intro hb|((refine Hg (g0.length) 7 ?_ ?_);(simp (discharger:=decide) only[Gz,Et,acV,acQ,Dv,He,Hj,Hf,Hi,Du,Es,Ew,acR,acL];kernel_rfl);intro _)|refine lU ?_|fail))
    exact⟨_,_,rfl,rfl,[_],by rw[show Bt hr F W A i c a=sI a i (IntKind.i64.wrap (gI a i+Xq c (gI F i))) by simp[Bt,hact,hf]];rfl,rfl⟩
  obtain⟨o,h',e,rfl,g',rfl,hq'⟩:=round (dH g) (Nc hqg)
  have hst:=fun i l=>Ho hqg i l
  have hLc:LP.clean=LP:=by rw[←hLP];rfl
  have hLq:LP.quiet LP=true:=by rw[←hLP];rfl
  simp only[abQ,adG]at e
  have hgg:Be (g++g')=true:=by rw[Dq,hqg,hq'];rfl
  refine⟨_,by simp only[Vc.down,seval,hLc,e,hLq,hst];exact rfl,true,g++g',?_,hgg,hal',fun h=>by cases h⟩
  simp only[Ar,Bg,Cc,adK,adL]
  rfl
 ·rintro i c a h hx hact ⟨ww,g,rfl,hqg,hal,hwr⟩
  exact⟨ww,g,by simp[Bt,hact],hqg,by simpa [Bt,hact]using hal,by simpa [Bt,hact]using hwr⟩
 ·exact⟨false,[],rfl,rfl,hL,fun _=>rfl⟩
 ·rintro o h' ⟨rfl,ww,g,rfl,hqg,hal,hwr⟩
  have hst:=fun i l=>Ho hqg i l
  subst hLP
  cases ww with
  |false=>
   have hw0:=hwr rfl
   rw[hwr rfl]
   (have hb:=trivial;with_reducible repeat' (first|simp only[hb,Vc.down,seval,Ld.down,hst,Bg,abQ]|refine Ai ?_ ?_<;>intro hb|refine fd ?_|fail))
   exact⟨w2,by simp⟩
  |true=>
   (have hb:=trivial;with_reducible repeat' (first|simp only[hb,Vc.down,seval,Ld.down,hst,Bg,abQ]|refine Ai ?_ ?_<;>intro hb|refine fd ?_|fail))
   exact⟨true,(fun h=>by cases h),rfl⟩
theorem aeH{s:Ac}{d:An}{w w1 w2 w3 w4 w5 w6 w7:Bool}{hr own fuel:Int}{G L W A F R:List Int}{O:List Ab}(hL:L.length=s.cons.length)(hW:W.length=s.cons.length)(hAl:A.length=s.cons.length)(hF:F.length=s.cons.length)(hl:s.cons.length≤1000):
 Vg Bl 110 [.ptr 0 0 0] [.live 19 false w [(rc s d hr (.slr 1 1 0 G.length) own fuel (.slr 1 2 0 L.length) .nils (.slr 1 3 0 W.length) (.slr 1 4 0 A.length) (.slr 1 5 0 F.length) (.slr 1 6 0 R.length))],.live 1 true w1 (G.map iv),.live 1 true w2 (L.map iv),.live 1 true w4 (W.map iv),.live 1 true w6 (A.map iv),.live 1 true w7 (F.map iv),.live 1 true w5 (R.map iv)]
  fun o h'=>o=.ret (.tup [])∧∃wL,(wL=false→It (Bt hr F W A) s.cons 0 L=L)∧h'=[.live 19 false w [(rc s d hr (.slr 1 1 0 G.length) own fuel (.slr 1 2 0 L.length) .nils (.slr 1 3 0 W.length) (.slr 1 4 0 A.length) (.slr 1 5 0 F.length) (.slr 1 6 0 R.length))],.live 1 true w1 (G.map iv),.live 1 true wL ((It (Bt hr F W A) s.cons 0 L).map iv),.live 1 true w4 (W.map iv),.live 1 true w6 (A.map iv),.live 1 true w7 (F.map iv),.live 1 true w5 (R.map iv)]:=by
 have hl':s.cons.length≤maxLen:=by unfold maxLen;omega
 refine Nj rfl Tryz.func110 rfl rfl ?_
 simp only[Tryz.f110]
 (have hb:=trivial;with_reducible repeat' (first|simp only[hb,Vc.down,seval,Ld.down,aa9]|refine Ai ?_ ?_<;>intro hb|refine fd ?_|fail))
 generalize hLP:CB.lp _ _ _ _ _=LP
 refine Yo (Pq (s:=s) (d:=d) (hr:=hr) (y:=.yl 8) (Bt hr F W A) (fun i a h=>(∃ww g,h=.live 19 false false [(rc s d hr (.slr 1 1 0 G.length) own fuel (.slr 1 2 0 L.length) .nils (.slr 1 3 0 W.length) (.slr 1 4 0 A.length) (.slr 1 5 0 F.length) (.slr 1 6 0 R.length))]::.live 1 true false (G.map iv)::.live 1 true ww (a.map iv)::  .live 1 true false (W.map iv)::.live 1 true false (A.map iv)::.live 1 true false (F.map iv)::.live 1 true false (R.map iv)::.live 1 false false [[.ptr 0 0 0]]::LP::g∧Be g=true∧a.length=s.cons.length∧(ww=false→a=L))) hl' ?_ ?_ ?_ ?_ L ?_) ?_
 ·rintro i a h ⟨ww,g,rfl,_,_,_⟩
  exact⟨_,_,_,_,_,_,_,_,_,_,_,rfl⟩
 ·rintro i a h fl w rows ⟨ww,g,rfl,hqg,hal,hwr⟩
  exact⟨ww,g++[.live 11 fl w rows],rfl,by rw[Dq,hqg];rfl,hal,hwr⟩
 ·rintro i c a h hx hact ⟨ww,g,rfl,hqg,hal,hwr⟩
  have hil:i<s.cons.length:=(adJ.1 hx).1
  have hii:((i:Int)<(s.cons.length:Int))=True:=eq_true (by omega)
  have at_:∀l:List Int,l.length=s.cons.length→l[i]?=some (gI l i):=fun l hl=>by have:=Hn (l:=l) (i:=(i:Int)) (by simp;omega);simpa using this
  have aF:=at_ F hF
  have aW:=at_ W hW
  have aA:=at_ A hAl
  have aL:=at_ a hal
  have aL2:∀v,(sI a i v)[i]?=some (gI (sI a i v) i):=fun v=>at_ _ (by rw[Bj];exact hal)
  have hiL:((i:Int)<(L.length:Int))=True:=eq_true (by omega)
  have hiW:((i:Int)<(W.length:Int))=True:=eq_true (by omega)
  have hiA:((i:Int)<(A.length:Int))=True:=eq_true (by omega)
  have hiF:((i:Int)<(F.length:Int))=True:=eq_true (by omega)
  have aS:∀(a:List Int) v,(a.map iv).set i [.int .i64 v]=(sI a i v).map iv:=fun a v=>by have:=Fo a (i:Int) v;simpa using this
  have hal':(Bt hr F W A i c a).length=s.cons.length:=by rw[Nz];exact hal
  have round:∀g0:Aa,Be g0=true→RnQ Bl ([.int .i64 i,.agg [.bool c.firm,.int .i64 c.space,.int .i64 c.lo,.int .i64 c.hi,Az 3 true c.nn (c.rates.map Bi.cells),.int .i64 c.gas,.int .i64 c.fixed,.int .i64 c.inn,.int .i64 c.out,.int .i64 c.cut,.int .i64 c.lack]]++[.yl 8]) (.live 19 false false [(rc s d hr (.slr 1 1 0 G.length) own fuel (.slr 1 2 0 L.length) .nils (.slr 1 3 0 W.length) (.slr 1 4 0 A.length) (.slr 1 5 0 F.length) (.slr 1 6 0 R.length))]::.live 1 true false (G.map iv)::.live 1 true false (a.map iv)::  .live 1 true false (W.map iv)::.live 1 true false (A.map iv)::.live 1 true false (F.map iv)::.live 1 true false (R.map iv)::.live 1 false false [[.ptr 0 0 0]]::LP::g0)
   fun o h'=>o=.ret (.bool true)∧∃g',h'=.live 19 false false [(rc s d hr (.slr 1 1 0 G.length) own fuel (.slr 1 2 0 L.length) .nils (.slr 1 3 0 W.length) (.slr 1 4 0 A.length) (.slr 1 5 0 F.length) (.slr 1 6 0 R.length))]::.live 1 true false (G.map iv)::.live 1 true true ((Bt hr F W A i c a).map iv)::  .live 1 true false (W.map iv)::.live 1 true false (A.map iv)::.live 1 true false (F.map iv)::.live 1 true false (R.map iv)::.live 1 false false [[.ptr 0 0 0]]::LP::(g0++g')∧Be g'=true:=by
   subst hLP
   intro g0 hq0
   refine sH rfl rfl ?_
   cases hf:c.firm with
   |true=>
    (have hb:=trivial;with_reducible repeat' (first|simp only[hb,Vc.down,seval,Ld.down,hx,hf,Ah.cells,hiL,hiW,hiA,hiF,aF,aW,aA,aL,aL2,aS,iv,aa9]|refine Ai ?_ ?_<;>intro hb|((refine Hg (g0.length) 7 ?_ ?_);(simp (discharger:=decide) only[Gz,Et,acV,acQ,Dv,He,Hj,Hf,Hi,Du,Es,Ew,acR,acL];kernel_rfl);intro _)|refine lU ?_|fail))
    exact⟨_,_,rfl,rfl,[_],by rw[show Bt hr F W A i c a=sI (sI a i (IntKind.i64.wrap (gI a i+Xq c (gI F i)))) i (IntKind.i64.wrap (gI (sI a i (IntKind.i64.wrap (gI a i+Xq c (gI F i)))) i-xA c (IntKind.i64.wrap (gI W i-gI A i)))) by simp[Bt,hact,hf]];rfl,rfl⟩
   |false=>
    (have hb:=trivial;with_reducible repeat' (first|simp only[hb,Vc.down,seval,Ld.down,hx,hf,Ah.cells,hiL,hiW,hiA,hiF,aF,aW,aA,aL,aL2,aS,iv,aa9]|refine Ai ?_ ?_<;>intro hb|((refine Hg (g0.length) 7 ?_ ?_);(simp (discharger:=decide) only[Gz,Et,acV,acQ,Dv,He,Hj,Hf,Hi,Du,Es,Ew,acR,acL];kernel_rfl);intro _)|refine lU ?_|fail))
    exact⟨_,_,rfl,rfl,[_],by rw[show Bt hr F W A i c a=sI a i (IntKind.i64.wrap (gI a i+Xq c (gI F i))) by simp[Bt,hact,hf]];rfl,rfl⟩
  obtain⟨o,h',e,rfl,g',rfl,hq'⟩:=round (dH g) (Nc hqg)
  have hst:=fun i l=>Ho hqg i l
  have hLc:LP.clean=LP:=by rw[←hLP];rfl
  have hLq:LP.quiet LP=true:=by rw[←hLP];rfl
  simp only[abQ,adG]at e
  have hgg:Be (g++g')=true:=by rw[Dq,hqg,hq'];rfl
  refine⟨_,by simp only[Vc.down,seval,hLc,e,hLq,hst];exact rfl,true,g++g',?_,hgg,hal',fun h=>by cases h⟩
  simp only[Ar,Bg,Cc,adK,adL]
  rfl
 ·rintro i c a h hx hact ⟨ww,g,rfl,hqg,hal,hwr⟩
  exact⟨ww,g,by simp[Bt,hact],hqg,by simpa [Bt,hact]using hal,by simpa [Bt,hact]using hwr⟩
 ·exact⟨false,[],rfl,rfl,hL,fun _=>rfl⟩
 ·rintro o h' ⟨rfl,ww,g,rfl,hqg,hal,hwr⟩
  have hst:=fun i l=>Ho hqg i l
  subst hLP
  cases ww with
  |false=>
   have hw0:=hwr rfl
   rw[hwr rfl]
   (have hb:=trivial;with_reducible repeat' (first|simp only[hb,Vc.down,seval,Ld.down,hst,Bg,abQ]|refine Ai ?_ ?_<;>intro hb|refine fd ?_|fail))
   exact⟨w2,by simp⟩
  |true=>
   (have hb:=trivial;with_reducible repeat' (first|simp only[hb,Vc.down,seval,Ld.down,hst,Bg,abQ]|refine Ai ?_ ?_<;>intro hb|refine fd ?_|fail))
   exact⟨true,(fun h=>by cases h),rfl⟩
theorem af4{s:Ac}{d:An}{w w1 w2 w3 w4 w5 w6 w7:Bool}{hr own fuel:Int}{G L W A F R:List Int}{O:List Ab}(hL:L.length=s.cons.length)(hW:W.length=s.cons.length)(hAl:A.length=s.cons.length)(hF:F.length=s.cons.length)(hl:s.cons.length≤1000):
 Vg Bl 110 [.ptr 0 0 0] [.live 19 false w [(rc s d hr (.slr 1 1 0 G.length) own fuel (.slr 1 2 0 L.length) (.slr 5 3 0 O.length) (.slr 1 4 0 W.length) (.slr 1 5 0 A.length) (.slr 1 6 0 F.length) (.slr 1 7 0 R.length))],.live 1 true w1 (G.map iv),.live 1 true w2 (L.map iv),.live 5 true w3 (O.map Ab.cells),.live 1 true w4 (W.map iv),.live 1 true w6 (A.map iv),.live 1 true w7 (F.map iv),.live 1 true w5 (R.map iv)]
  fun o h'=>o=.ret (.tup [])∧∃wL,(wL=false→It (Bt hr F W A) s.cons 0 L=L)∧h'=[.live 19 false w [(rc s d hr (.slr 1 1 0 G.length) own fuel (.slr 1 2 0 L.length) (.slr 5 3 0 O.length) (.slr 1 4 0 W.length) (.slr 1 5 0 A.length) (.slr 1 6 0 F.length) (.slr 1 7 0 R.length))],.live 1 true w1 (G.map iv),.live 1 true wL ((It (Bt hr F W A) s.cons 0 L).map iv),.live 5 true w3 (O.map Ab.cells),.live 1 true w4 (W.map iv),.live 1 true w6 (A.map iv),.live 1 true w7 (F.map iv),.live 1 true w5 (R.map iv)]:=by
 have hl':s.cons.length≤maxLen:=by unfold maxLen;omega
 refine Nj rfl Tryz.func110 rfl rfl ?_
 simp only[Tryz.f110]
 (have hb:=trivial;with_reducible repeat' (first|simp only[hb,Vc.down,seval,Ld.down,aa9]|refine Ai ?_ ?_<;>intro hb|refine fd ?_|fail))
 generalize hLP:CB.lp _ _ _ _ _=LP
 refine Yo (Pq (s:=s) (d:=d) (hr:=hr) (y:=.yl 9) (Bt hr F W A) (fun i a h=>(∃ww g,h=.live 19 false false [(rc s d hr (.slr 1 1 0 G.length) own fuel (.slr 1 2 0 L.length) (.slr 5 3 0 O.length) (.slr 1 4 0 W.length) (.slr 1 5 0 A.length) (.slr 1 6 0 F.length) (.slr 1 7 0 R.length))]::.live 1 true false (G.map iv)::.live 1 true ww (a.map iv)::.live 5 true false (O.map Ab.cells)::.live 1 true false (W.map iv)::.live 1 true false (A.map iv)::.live 1 true false (F.map iv)::.live 1 true false (R.map iv)::.live 1 false false [[.ptr 0 0 0]]::LP::g∧Be g=true∧a.length=s.cons.length∧(ww=false→a=L))) hl' ?_ ?_ ?_ ?_ L ?_) ?_
 ·rintro i a h ⟨ww,g,rfl,_,_,_⟩
  exact⟨_,_,_,_,_,_,_,_,_,_,_,rfl⟩
 ·rintro i a h fl w rows ⟨ww,g,rfl,hqg,hal,hwr⟩
  exact⟨ww,g++[.live 11 fl w rows],rfl,by rw[Dq,hqg];rfl,hal,hwr⟩
 ·rintro i c a h hx hact ⟨ww,g,rfl,hqg,hal,hwr⟩
  have hil:i<s.cons.length:=(adJ.1 hx).1
  have hii:((i:Int)<(s.cons.length:Int))=True:=eq_true (by omega)
  have at_:∀l:List Int,l.length=s.cons.length→l[i]?=some (gI l i):=fun l hl=>by have:=Hn (l:=l) (i:=(i:Int)) (by simp;omega);simpa using this
  have aF:=at_ F hF
  have aW:=at_ W hW
  have aA:=at_ A hAl
  have aL:=at_ a hal
  have aL2:∀v,(sI a i v)[i]?=some (gI (sI a i v) i):=fun v=>at_ _ (by rw[Bj];exact hal)
  have hiL:((i:Int)<(L.length:Int))=True:=eq_true (by omega)
  have hiW:((i:Int)<(W.length:Int))=True:=eq_true (by omega)
  have hiA:((i:Int)<(A.length:Int))=True:=eq_true (by omega)
  have hiF:((i:Int)<(F.length:Int))=True:=eq_true (by omega)
  have aS:∀(a:List Int) v,(a.map iv).set i [.int .i64 v]=(sI a i v).map iv:=fun a v=>by have:=Fo a (i:Int) v;simpa using this
  have hal':(Bt hr F W A i c a).length=s.cons.length:=by rw[Nz];exact hal
  have round:∀g0:Aa,Be g0=true→RnQ Bl ([.int .i64 i,.agg [.bool c.firm,.int .i64 c.space,.int .i64 c.lo,.int .i64 c.hi,Az 3 true c.nn (c.rates.map Bi.cells),.int .i64 c.gas,.int .i64 c.fixed,.int .i64 c.inn,.int .i64 c.out,.int .i64 c.cut,.int .i64 c.lack]]++[.yl 9]) (.live 19 false false [(rc s d hr (.slr 1 1 0 G.length) own fuel (.slr 1 2 0 L.length) (.slr 5 3 0 O.length) (.slr 1 4 0 W.length) (.slr 1 5 0 A.length) (.slr 1 6 0 F.length) (.slr 1 7 0 R.length))]::.live 1 true false (G.map iv)::.live 1 true false (a.map iv)::.live 5 true false (O.map Ab.cells)::.live 1 true false (W.map iv)::.live 1 true false (A.map iv)::.live 1 true false (F.map iv)::.live 1 true false (R.map iv)::.live 1 false false [[.ptr 0 0 0]]::LP::g0)
   fun o h'=>o=.ret (.bool true)∧∃g',h'=.live 19 false false [(rc s d hr (.slr 1 1 0 G.length) own fuel (.slr 1 2 0 L.length) (.slr 5 3 0 O.length) (.slr 1 4 0 W.length) (.slr 1 5 0 A.length) (.slr 1 6 0 F.length) (.slr 1 7 0 R.length))]::.live 1 true false (G.map iv)::.live 1 true true ((Bt hr F W A i c a).map iv)::.live 5 true false (O.map Ab.cells)::.live 1 true false (W.map iv)::.live 1 true false (A.map iv)::.live 1 true false (F.map iv)::.live 1 true false (R.map iv)::.live 1 false false [[.ptr 0 0 0]]::LP::(g0++g')∧Be g'=true:=by
   subst hLP
   intro g0 hq0
   refine sH rfl rfl ?_
   cases hf:c.firm with
   |true=>
    (have hb:=trivial;with_reducible repeat' (first|simp only[hb,Vc.down,seval,Ld.down,hx,hf,Ah.cells,hiL,hiW,hiA,hiF,aF,aW,aA,aL,aL2,aS,iv,aa9]|refine Ai ?_ ?_<;>intro hb|((refine Hg (g0.length) 7 ?_ ?_);(simp (discharger:=decide) only[Gz,Et,acV,acQ,Dv,He,Hj,Hf,Hi,Du,Es,Ew,acR,acL];kernel_rfl);intro _)|refine lU ?_|fail))
    exact⟨_,_,rfl,rfl,[_],by rw[show Bt hr F W A i c a=sI (sI a i (IntKind.i64.wrap (gI a i+Xq c (gI F i)))) i (IntKind.i64.wrap (gI (sI a i (IntKind.i64.wrap (gI a i+Xq c (gI F i)))) i-xA c (IntKind.i64.wrap (gI W i-gI A i)))) by simp[Bt,hact,hf]];rfl,rfl⟩
   |false=>
    (have hb:=trivial;with_reducible repeat' (first|simp only[hb,Vc.down,seval,Ld.down,hx,hf,Ah.cells,hiL,hiW,hiA,hiF,aF,aW,aA,aL,aL2,aS,iv,aa9]|refine Ai ?_ ?_<;>intro hb|((refine Hg (g0.length) 7 ?_ ?_);(simp (discharger:=decide) only[Gz,Et,acV,acQ,Dv,He,Hj,Hf,Hi,Du,Es,Ew,acR,acL];kernel_rfl);intro _)|refine lU ?_|fail))
    exact⟨_,_,rfl,rfl,[_],by rw[show Bt hr F W A i c a=sI a i (IntKind.i64.wrap (gI a i+Xq c (gI F i))) by simp[Bt,hact,hf]];rfl,rfl⟩
  obtain⟨o,h',e,rfl,g',rfl,hq'⟩:=round (dH g) (Nc hqg)
  have hst:=fun i l=>Ho hqg i l
  have hLc:LP.clean=LP:=by rw[←hLP];rfl
  have hLq:LP.quiet LP=true:=by rw[←hLP];rfl
  simp only[abQ,adG]at e
  have hgg:Be (g++g')=true:=by rw[Dq,hqg,hq'];rfl
  refine⟨_,by simp only[Vc.down,seval,hLc,e,hLq,hst];exact rfl,true,g++g',?_,hgg,hal',fun h=>by cases h⟩
  simp only[Ar,Bg,Cc,adK,adL]
  rfl
 ·rintro i c a h hx hact ⟨ww,g,rfl,hqg,hal,hwr⟩
  exact⟨ww,g,by simp[Bt,hact],hqg,by simpa [Bt,hact]using hal,by simpa [Bt,hact]using hwr⟩
 ·exact⟨false,[],rfl,rfl,hL,fun _=>rfl⟩
 ·rintro o h' ⟨rfl,ww,g,rfl,hqg,hal,hwr⟩
  have hst:=fun i l=>Ho hqg i l
  subst hLP
  cases ww with
  |false=>
   have hw0:=hwr rfl
   rw[hwr rfl]
   (have hb:=trivial;with_reducible repeat' (first|simp only[hb,Vc.down,seval,Ld.down,hst,Bg,abQ]|refine Ai ?_ ?_<;>intro hb|refine fd ?_|fail))
   exact⟨w2,by simp⟩
  |true=>
   (have hb:=trivial;with_reducible repeat' (first|simp only[hb,Vc.down,seval,Ld.down,hst,Bg,abQ]|refine Ai ?_ ?_<;>intro hb|refine fd ?_|fail))
   exact⟨true,(fun h=>by cases h),rfl⟩
def zg:Bool→AV
 |true=>.slr 1 1 0 0
 |false=>.nils
def zi:Bool→Bool→Nat
 |false,false=>1
 |true,false=>2
 |false,true=>2
 |true,true=>3
def zl(a:Bool):Bool→AV
 |true=>.slr 1 (zi a false) 0 0
 |false=>.nils
def zo(a b:Bool):Bool→AV
 |true=>.slr 5 (zi a b) 0 0
 |false=>.nils
def zb(st:Nat)(w:Bool):Bool→Aa→Aa
 |true,h=>.live st true w []::h
 |false,h=>h
theorem amV(a b c:Bool){s:Ac}{d:An}{fl w w1 w2 w3:Bool}{hr own fuel:Int}:
 Bl.call (.fn 104) [.ptr 0 0 0] (.live 19 fl w [(rc s d hr (zg a) own fuel (zl a b) (zo a b c) .nils .nils .nils .nils)]::zb 1 w1 a (zb 1 w2 b (zb 5 w3 c [])))=
  some (.ret (.tup []),.live 19 false true [(rc s d hr (zg a) own fuel (zl a b) .nils .nils .nils .nils .nils)]::zb 1 w1 a (zb 1 w2 b (zb 5 w3 c []))):=by
 cases a<;>cases b<;>cases c<;>simp only[zg,zi,zl,zo,zb]
 all_goals (refine ce Tryz.func104 ?_;simp only[Tryz.f104];(have hb:=trivial;with_reducible repeat' (first|simp only[hb,Vc.down,seval,Xo.down,acL,adQ,adM,decide_false]|refine Ai ?_ ?_<;>intro hb|refine fd ?_|refine vE ?_|fail)))
theorem ag8(a b:Bool){s:Ac}{d:An}{w w1 w2:Bool}{hr own fuel:Int}(hT:d.trades=[]):
 Bl.call (.fn 105) [.ptr 0 0 0] (.live 19 false w [(rc s d hr (zg a) own fuel (zl a b) .nils .nils .nils .nils .nils)]::zb 1 w1 a (zb 1 w2 b []))=
  some (.ret (.tup []),.live 19 false w [(rc s d hr (zg a) own fuel (zl a b) .nils .nils .nils .nils .nils)]::zb 1 w1 a (zb 1 w2 b [])):=by
 have hz:d.trades.length=0:=by rw[hT];rfl
 cases a<;>cases b<;>simp only[zg,zi,zl,zb]
 all_goals (refine ce Tryz.func105 ?_;simp only[Tryz.f105];(have hb:=trivial;with_reducible repeat' (first|simp only[hb,Vc.down,seval,Ih.down,aa9,hz,adQ,adM,decide_false]|refine Ai ?_ ?_<;>intro hb|refine fd ?_|refine vE ?_|fail)))
theorem rU{s:Ac}{d:An}(hs:s.cons=[]){fl w:Bool}{hr own fuel:Int}{gv lv ov wv av fv rv y:AV}(tl:Aa):
 Bl.call (.sh 131) [.ptr 0 0 0,y] (.live 19 fl w [(rc s d hr gv own fuel lv ov wv av fv rv)]::tl)=some (.ret (.tup []),.live 19 fl w [(rc s d hr gv own fuel lv ov wv av fv rv)]::tl):=by
 have hz:s.cons.length=0:=by rw[hs];rfl
 (refine csh Tryz.func131 ?_;simp only[Tryz.f131];(have hb:=trivial;with_reducible repeat' (first|simp only[hb,Vc.down,seval,nS.down,aa9,hz,adQ,adM,decide_false]|refine Ai ?_ ?_<;>intro hb|refine fd ?_|refine vE ?_|fail)))
theorem amC(a b:Bool){s:Ac}{d:An}{w w1 w2:Bool}{hr own fuel:Int}(hs:s.cons=[]):
 Bl.call (.fn 106) [.ptr 0 0 0] (.live 19 false w [(rc s d hr (zg a) own fuel (zl a b) .nils .nils .nils .nils .nils)]::zb 1 w1 a (zb 1 w2 b []))=
  some (.ret (.tup []),.live 19 false true [(rc s d hr (zg a) own fuel (zl a b) .nils (.slr 1 (zi a b) 0 0) .nils .nils .nils)]::zb 1 w1 a (zb 1 w2 b [.live 1 true false []])):=by
 have hz:s.cons.length=0:=by rw[hs];rfl
 have ha:=fun gv lv wv y=>rU (s:=s) (d:=d) hs (fl:=false) (w:=false) (hr:=hr) (own:=own) (fuel:=fuel) (gv:=gv) (lv:=lv) (ov:=.nils) (wv:=wv) (av:=.nils) (fv:=.nils) (rv:=.nils) (y:=y)
 cases a<;>cases b<;>simp only[zg,zi,zl,zb]
 all_goals (refine ce Tryz.func106 ?_;simp only[Tryz.f106];(have hb:=trivial;with_reducible repeat' (first|simp only[hb,Vc.down,seval,La.down,aa9,hz,adQ,adO,adP,Int.reduceLE,List.replicate_zero,Int.toNat_zero,ha]|refine Ai ?_ ?_<;>intro hb|refine fd ?_|refine vE ?_|fail)))
theorem ak7(a b:Bool){s:Ac}{d:An}{w w1 w2 w3:Bool}{hr own fuel:Int}(hs:s.cons=[]):
 Bl.call (.fn 110) [.ptr 0 0 0] (.live 19 false w [(rc s d hr (zg a) own fuel (zl a b) .nils (.slr 1 (zi a b) 0 0) .nils .nils .nils)]::zb 1 w1 a (zb 1 w2 b [.live 1 true w3 []]))=some (.ret (.tup []),.live 19 false w [(rc s d hr (zg a) own fuel (zl a b) .nils (.slr 1 (zi a b) 0 0) .nils .nils .nils)]::zb 1 w1 a (zb 1 w2 b [.live 1 true w3 []])):=by
 have ha:=fun gv lv wv y=>rU (s:=s) (d:=d) hs (fl:=false) (w:=false) (hr:=hr) (own:=own) (fuel:=fuel) (gv:=gv) (lv:=lv) (ov:=.nils) (wv:=wv) (av:=.nils) (fv:=.nils) (rv:=.nils) (y:=y)
 cases a<;>cases b<;>simp only[zg,zi,zl,zb]
 all_goals (refine ce Tryz.func110 ?_;simp only[Tryz.f110];(have hb:=trivial;with_reducible repeat' (first|simp only[hb,Vc.down,seval,Ld.down,aa9,ha]|refine Ai ?_ ?_<;>intro hb|refine fd ?_|refine vE ?_|fail)))
theorem au6(a b:Bool){s:Ac}{d:An}{w w1 w2 w3:Bool}{hr own fuel:Int}:
 Bl.call (.fn 109) [.ptr 0 0 0] (.live 19 false w [(rc s d hr (zg a) own fuel (zl a b) .nils (.slr 1 (zi a b) 0 0) .nils .nils .nils)]::zb 1 w1 a (zb 1 w2 b [.live 1 true w3 []]))=some (.ret (.tup []),.live 19 false w [(rc s d hr (zg a) own fuel (zl a b) .nils (.slr 1 (zi a b) 0 0) .nils .nils .nils)]::zb 1 w1 a (zb 1 w2 b [.live 1 true w3 []])):=by
 cases a<;>cases b<;>simp only[zg,zi,zl,zb]
 all_goals (refine ce Tryz.func109 ?_;simp only[Tryz.f109];(have hb:=trivial;with_reducible repeat' (first|simp only[hb,Vc.down,seval,Po.down,acL,adQ,adM,decide_false]|refine Ai ?_ ?_<;>intro hb|refine fd ?_|refine vE ?_|fail)))
theorem agM{s:Ac}{d:An}{hr fuel:Int}{x:Au}(h0:0≤hr)(hx:d.hours[hr.toNat]?=some x)(own:Int)(gv lv wv:AV)(tl:Aa):
 Bl.call (.sh 133) [.ptr 0 0 0] (.live 19 false false [(rc s d hr gv own fuel lv .nils wv .nils .nils .nils)]::tl)=some (.ret (.agg x.cells),.live 19 false false [(rc s d hr gv own fuel lv .nils wv .nils .nils .nils)]::tl++[.live 4 true true [x.cells]]):=Wc (b:=0) rfl h0 hx
theorem ahN(a b:Bool){s:Ac}{d:An}{w w1 w2 w3:Bool}{hr own fuel:Int}{x:Au}(h0:0≤hr)(hx:d.hours[hr.toNat]?=some x)(hi:0≤x.inn)(ho:0≤x.out):
 Bl.call (.fn 107) [.ptr 0 0 0] (.live 19 false w [(rc s d hr (zg a) own fuel (zl a b) .nils (.slr 1 (zi a b) 0 0) .nils .nils .nils)]::zb 1 w1 a (zb 1 w2 b [.live 1 true w3 []]))=some (.ret (.tup []),.live 19 false true [(rc s d hr (zg a) own fuel (zl a b) .nils (.slr 1 (zi a b) 0 0) .nils .nils .nils)]::zb 1 w1 a (zb 1 w2 b [.live 1 true w3 []])):=by
 have g1:=uQ (s:=s) (nn:=true) hi ho
 rw[Bh]at g1
 have hh:=agM (s:=s) (d:=d) (fuel:=fuel) h0 hx
 cases a<;>cases b<;>simp only[zg,zi,zl,zb]
 all_goals (refine ce Tryz.func107 ?_;simp only[Tryz.f107];(have hb:=trivial;with_reducible repeat' (first|simp only[hb,Vc.down,seval,uY.down,hh,Au.cells,g1,List.drop_nil,List.take_nil,acL]|refine Ai ?_ ?_<;>intro hb|refine fd ?_|fail)))
theorem al7(a b:Bool){s:Ac}{d:An}{w w1 w2 w3:Bool}{hr own fuel:Int}{x:Au}(h0:0≤hr)(hx:d.hours[hr.toNat]?=some x):
 Bl.call (.fn 108) [.ptr 0 0 0] (.live 19 false w [(rc s d hr (zg a) own fuel (zl a b) .nils (.slr 1 (zi a b) 0 0) .nils .nils .nils)]::zb 1 w1 a (zb 1 w2 b [.live 1 true w3 []]))=some (.ret (.tup []),.live 19 false true [(rc s d hr (zg a) (cX [] x own) fuel (zl a b) .nils (.slr 1 (zi a b) 0 0) .nils .nils .nils)]::zb 1 w1 a (zb 1 w2 b [.live 1 true w3 []])):=by
 have g1:=fY (nn:=false)
 rw[Wn]at g1
 have g2:=Zb (l:=[]) (nn:=false) (by simp)
 rw[acQ,Wn]at g2
 have g4:=fun amount=>Oa (amount:=amount) (l:=[]) (nn:=false) (g:=134) (w:=fun x=>x) (fun x _=>Nx x) (by simp)
 simp only[acQ,Wn,acL,adG,Ax,Dn]at g4 g2
 have g6:=Ou [] [] true true (by simp) (by simp) _ _ (fun _=>rfl) (fun h=>absurd rfl h)
 simp only[acQ,Bh]at g6
 have hh:=agM (s:=s) (d:=d) (fuel:=fuel) h0 hx
 cases a<;>cases b<;>simp only[zg,zi,zl,zb]
 all_goals
  (refine ce Tryz.func108 ?_;simp only[Tryz.f108];(have hb:=trivial;with_reducible repeat' (first|simp only[hb,Vc.down,seval,sT.down,hh,Au.cells,g1,g2,g4,g6,List.drop_nil,List.take_nil,acL,acQ]|refine Ai ?_ ?_<;>intro hb|refine fd ?_|fail)))
  rfl
end Go.Proofs.YtdbiogihimdpcaaGreatDoor
