/- The functions of the layer, walked. -/
import Derived.Test.YtckfcfcmfjfchaaDoorPartAA
import Derived.Test.YtckfcfcmfjfchaaDoorLibE
import Derived.Test.YtckfcfcmfjfchaaDoorLibD
open List renaming replicate→aaN,getElem?_set_ne→abY,mem_cons→abZ,getElem?_eq_getElem→ab0,take→ab2,mem_cons_self→ab3,not_mem_nil→adC,take_of_length_le→ag6,getElem?_append_right→ag8,getElem?_set_self→ag9,nil_append→ahA,length_map→ahC,getElem?_eq_some_iff→ahE,all_eq_true→ahJ,getElem?_map→ah0,length_replicate→ah8,mem_cons_of_mem→aj1,getElem?_append_left→akA,drop→akQ,cons_append→alS,map_set→al1,all_cons→al4,ext_getElem?→amJ,replicate_succ→am4,map_append→arW,flatMap_cons→ayD,drop_succ_cons→aFK,mem_flatMap→aMN,getElem?_replicate→aNF,mem_of_getElem?→aNJ
open Nat renaming le_refl→ag7,sub_self→alY,add_sub_cancel_left→aN3
open Option renaming map_eq_some_iff→ai6,bind_some→al6,bind_eq_some_iff→aN9
open Int renaming toNat_natCast→aMX
set_option linter.unusedSimpArgs false
set_option linter.unusedVariables false
namespace Go.Proofs.YtckfcfcmfjfchaaDoor
open Go.Ev Go Go.Ev.Net
set_option maxRecDepth 100000
set_option maxHeartbeats 16000000
theorem QS.cln{v:AV}{q:List Nat}{H:Pv}{p:Nat}(h:QS v q H p):QS v q (Xj H) p:=by
 rcases h with h|⟨b,w,rows,r,h1,h2,h3,h4,h5⟩
 ·exact .inl h
 ·exact .inr ⟨b,false,rows,r,h1,Vs h2,h3,h4,h5⟩
theorem QS.lt{v:AV}{q:List Nat}{H:Pv}{p:Nat}(h:QS v q H p):∀b∈aL v,b<H.length∧∃w rows,H[b]?=some (.live 1 true w rows):=by
 rcases h with⟨rfl,_⟩|⟨b,w,rows,r,rfl,h2,_⟩
 ·intro b hb1;simp[aL]at hb1
 ·intro b' hb1;simp[aL]at hb1;subst hb1;exact⟨Pz h2,w,rows,h2⟩
theorem alZ{h:Pv}(hq:Re h=true){p:Nat}{fl w:Bool}{v:AV}{q:List Nat}(x:Nat)(hp:h[p]?=some (.live 1 fl w [[v]]))(hQ:QS v q h p)(hl:q.length≤100000000):
 ∃es M,cl Vf h (some (.func (.func 56) [] [])) (some [.ptr p 0 0,.int .i64 (x:Int)])=some (.ret (.tup []),es)∧Rx h es=M∧h.length≤M.length∧Re M=true∧(∃v' fl',M[p]?=some (.live 1 fl' true [[v']])∧QS v' (q++[x]) M p∧∀b∈aL v',h.length≤b)∧(∀b c,b∉p::aL v→h[b]?=some c→M[b]?=some c)∧∀b∈aL v,M[b]?=some .dead:=by
 have hX:∀G:Pv,(∃f row,G[p]?=some (.live 1 f true row))→(∀b∈aL v,G[b]?=some .dead)→∀b∈p::aL v,b<h.length∧∀c0 c,h[b]?=some c0→G[b]?=some c→c0.isLive=true∧c0.quiet c=false:=fun G g1 g2 b hb1=>by
  rcases abZ.1 hb1 with rfl|hb1
  ·obtain⟨f,row,g1⟩:=g1
   refine⟨Pz hp,fun c0 c k1 k2=>?_⟩
   rw[hp]at k1;rw[g1]at k2;cases k1;cases k2;exact⟨rfl,rfl⟩
  ·obtain⟨h1,w',rows,h2⟩:=hQ.lt b hb1
   refine⟨h1,fun c0 c k1 k2=>?_⟩
   rw[h2]at k1;rw[g2 b hb1]at k2;cases k1;cases k2;exact⟨rfl,rfl⟩
 obtain⟨o,G,es,e1,e2,rfl,v',fl',k1,k2,K,k4,k5,k6⟩:=qI rfl rfl (aeW x (Vs hp) hQ.cln hl) (fun o G hQ=>by
  obtain⟨_,v',fl',k1,k2,K,k4,_⟩:=hQ
  exact(Xh hq K (hX G ⟨_,_,k1⟩ k4)).1)
 have X:=hX G ⟨_,_,k1⟩ k4
 obtain⟨_,m1,m2,m3,m4⟩:=Xh hq K X
 rw[Uc]at k6
 have hle:h.length≤G.length:=by have:=K.len;rwa[Uc]at this
 refine⟨es,_,e1,e2,by rw[m1];exact hle,eL hq K X (k5 (bU hq)),⟨v',fl',m4 p (ab3 ..) _ k1,?_,k6⟩,fun b c hn hc=>by rw[m3 b (Pz hc) hn];exact hc,fun b hb=>m4 b (aj1 _ hb) _ (k4 b hb)⟩
 rcases k2 with h1|⟨b,w',rows,r,h1,h2,h3,h4,h5⟩
 ·exact .inl h1
 ·exact .inr ⟨b,w',rows,r,h1,by rw[m2 b (k6 b (by rw[h1];simp[aL]))];exact h2,h3,h4,h5⟩
theorem xK{h:Pv}{p:Nat}{fl w:Bool}{v:AV}(hp:h[p]?=some (.live 1 fl w [[v]]))(G:Pv)(g1:∃f row,G[p]?=some (.live 1 f true row)):∀b∈[p],b<h.length∧∀c0 c,h[b]?=some c0→G[b]?=some c→c0.isLive=true∧c0.quiet c=false:=fun b hb1=>by
 simp at hb1;subst hb1
 obtain⟨f,row,g1⟩:=g1
 refine⟨Pz hp,fun c0 c k1 k2=>?_⟩
 rw[hp]at k1;rw[g1]at k2;cases k1;cases k2;exact⟨rfl,rfl⟩
theorem aQX{h:Pv}(hq:Re h=true){p:Nat}{fl w:Bool}{v:AV}{q:List Nat}(x:Nat)(hp:h[p]?=some (.live 1 fl w [[v]]))(hQ:QS v q h p)(hl:q.length≤100000000):
 ∃es M,cl Vf h (some (.func (.func 60) [] [])) (some [.ptr p 0 0,.int .i64 (x:Int)])=some (.ret (.tup []),es)∧Rx h es=M∧h.length≤M.length∧Re M=true∧(∃v' fl',M[p]?=some (.live 1 fl' true [[v']])∧QS v' (x::q) M p∧∀b∈aL v',h.length≤b)∧∀b c,b≠p→h[b]?=some c→M[b]?=some c:=by
 obtain⟨o,G,es,e1,e2,rfl,v',fl',k1,k2,K,k5,k6⟩:=qI rfl rfl (ahU x (Vs hp) hQ.cln hl) (fun o G hQ=>by
  obtain⟨_,v',fl',k1,k2,K,_⟩:=hQ
  exact(Xh hq K (xK hp G ⟨_,_,k1⟩)).1)
 have X:=xK hp G ⟨_,_,k1⟩
 obtain⟨_,m1,m2,m3,m4⟩:=Xh hq K X
 rw[Uc]at k6
 have hle:h.length≤G.length:=by have:=K.len;rwa[Uc]at this
 refine⟨es,_,e1,e2,by rw[m1];exact hle,eL hq K X (k5 (bU hq)),⟨v',fl',m4 p (ab3 ..) _ k1,?_,k6⟩,fun b c hn hc=>by rw[m3 b (Pz hc) (by simpa using hn)];exact hc⟩
 rcases k2 with h1|⟨b,w',rows,r,h1,h2,h3,h4,h5⟩
 ·exact .inl h1
 ·exact .inr ⟨b,w',rows,r,h1,by rw[m2 b (k6 b (by rw[h1];simp[aL]))];exact h2,h3,h4,h5⟩
theorem aP8{h:Pv}(hq:Re h=true){p:Nat}{fl w:Bool}{v:AV}(hp:h[p]?=some (.live 1 fl w [[v]]))(hQ:QS v [] h p):
 cl Vf h (some (.func (.func 57) [] [])) (some [.ptr p 0 0])=some (.ret (.tup [.int .i64 0,.bool false]),[]):=
 alE rfl rfl (ai3 (Vs hp) hQ.cln) hq
theorem alR{h:Pv}(hq:Re h=true){p:Nat}{fl w:Bool}{v:AV}{x:Nat}{q:List Nat}(hp:h[p]?=some (.live 1 fl w [[v]]))(hQ:QS v (x::q) h p)(hl:q.length≤100000000):
 ∃es M,cl Vf h (some (.func (.func 57) [] [])) (some [.ptr p 0 0])=some (.ret (.tup [.int .i64 (x:Int),.bool true]),es)∧Rx h es=M∧h.length≤M.length∧Re M=true∧(∃v' fl',M[p]?=some (.live 1 fl' true [[v']])∧QS v' q M p∧aL v'=aL v)∧∀b c,b≠p→h[b]?=some c→M[b]?=some c:=by
 obtain⟨o,G,es,e1,e2,rfl,v',fl',k1,k2,K,k4,k5⟩:=qI rfl rfl (ai4 (Vs hp) hQ.cln hl) (fun o G hQ=>by
  obtain⟨_,v',fl',k1,k2,K,_⟩:=hQ
  exact(Xh hq K (xK hp G ⟨_,_,k1⟩)).1)
 have X:=xK hp G ⟨_,_,k1⟩
 obtain⟨_,m1,m2,m3,m4⟩:=Xh hq K X
 have hle:h.length≤G.length:=by have:=K.len;rwa[Uc]at this
 have same:∀b c,b≠p→h[b]?=some c→(Zn h G)[b]?=some c:=fun b c hn hc=>by rw[m3 b (Pz hc) (by simpa using hn)];exact hc
 refine⟨es,_,e1,e2,by rw[m1];exact hle,eL hq K X (k5 (bU hq)),⟨v',fl',m4 p (ab3 ..) _ k1,?_,k4⟩,same⟩
 rcases k2 with h1|⟨b,w',rows,r,h1,h2,h3,h4,h5⟩
 ·exact .inl h1
 ·have hbv:b∈aL v:=by rw[←k4,h1];simp[aL]
  obtain⟨_,w0,rows0,hh⟩:=hQ.lt b hbv
  have hr:(hf (Zn h G) b).bind aC=(hf G b).bind aC:=aa1 hq K X b
  have hM:=same b _ h3 hh
  have e3:rows0=rows:=by
   have a1:((Zn h G)[b]?).bind aC=(G[b]?).bind aC:=hr
   rw[hM,h2]at a1
   simp[aC]at a1;exact a1
  subst e3
  exact .inr ⟨b,w0,rows0,r,h1,hM,h3,h4,h5⟩
theorem ah4{vs:List AV}{b:Nat}{h:Pv}{ps:List Nat}{asg body:Code}{tm:List AV}{st:Xl}{Q:Tn→Pv→Prop}(hb:h[b]?=some (.lp ps asg body tm st))(hl:ps.length=vs.length)
 (he:RnE b Q (agN Vf Tryd.prog b body (Rr Vf Tryd.prog 5000 asg [] ⟨Zl tm ps vs,h⟩))):RnQ Vf (vs++[.yl b]) h Q:=RnQ.start (pr:=pr) hb hl he
theorem ajE{O:Ui}{H:Pv}{b:Nat}{vs:List AV}{Q:Tn→Pv→Prop}(K:RnQ O (vs++[.yl b]) (Xj H) Q)(ok:∀o G,Q o G→vL H G):
 ∃o G es,cl O H (some (.yl b)) (some vs)=some (o,es)∧Rx H es=Zn H G∧Q o G:=by
 obtain⟨o,G,hc,hq⟩:=K
 obtain⟨es,e1,e2⟩:=gW H G [] (ok o G hq)
 refine⟨o,G,es,?_,by simpa using e2,hq⟩
 rw[aRX,hc,qK]
 have e1':Sz 0 H G=some es:=e1
 rw[e1'];rfl
def Wl:Nat:=1048576
def DiH(LK:CB)(e:Bool)(ps:List AV)(N:Nat)(h:Pv)(dd q K:List Nat):Prop:=∃f v fl w,
 h[0]?=some LK∧h[1]?=some (.live 24 true false [ps])∧h[2]?=some (.live 1 true f (dd.map Yx))∧h[3]?=some (.live 1 false e [[.slr 1 2 0 N]])∧h[5]?=some (.live 1 false e [[.ptr 4 0 0]])∧h[4]?=some (.live 1 fl w [[v]])∧QS v q h 4∧(∀b∈aL v,6≤b∧b∉K)∧Re h=true
theorem DiH.app{LK:CB}{e:Bool}{ps:List AV}{N:Nat}{h:Pv}{dd q K:List Nat}(D:DiH LK e ps N h dd q K){L:Pv}(hL:Re L=true):DiH LK e ps N (h++L) dd q K:=by
 obtain⟨f,v,fl,w',i0,i1,i2,i3,i5,i4,iQ,iB,iq⟩:=D
 refine⟨f,v,fl,w',Qe i0 L,Qe i1 L,Qe i2 L,Qe i3 L,Qe i5 L,Qe i4 L,?_,iB,Ul iq hL⟩
 rcases iQ with h|⟨b,w',rows,r,h1,h2,h3⟩
 ·exact .inl h
 ·exact .inr ⟨b,w',rows,r,h1,Qe h2 _,h3⟩
def cY(H G:Pv):Prop:=H.length≤G.length∧∀(b:Nat) (c0 c:CB),H[b]?=some c0→G[b]?=some c→(c0.quiet c=true∧c0.clean=c.clean)∨(c0.isLive=true∧((∃st fl rows,c=.live st fl true rows)∨c=.dead))
theorem lM{c0 c:CB}(h:c0.isLive=true)(hc:(∃st fl rows,c=.live st fl true rows)∨c=.dead):c0.quiet c=false:=by
 rcases hc with⟨_,_,_,rfl⟩|rfl<;>cases c0<;>first|rfl|(simp[CB.isLive]at h;done)|(simp[CB.quiet,CB.same];done)
theorem cY.sh{H G:Pv}(k:cY H G):vL H G:=⟨k.1,fun b c0 c h0 h1=>(k.2 b c0 c h0 h1).imp (fun h=>h.1) (fun h=>h.1)⟩
theorem wT{c0 c1:CB}(h:c0.clean=c1.clean)(h1:c1.isLive=true):c0.isLive=true:=by cases c0<;>cases c1<;>first|rfl|(simp[CB.clean]at h;done)|cases h1
theorem mS(c:CB):c.clean.clean=c.clean:=by cases c<;>rfl
theorem cY.app{H G:Pv}(k:cY H G)(l:Pv):cY H (G++l):=⟨by simp;have:=k.1;omega,fun b c0 c h0 h1=>k.2 b c0 c h0 (by
 have:=Pz h0
 have:=k.1
 rw[akA (by omega)]at h1;exact h1)⟩
theorem cY.cl{H:Pv}(h:Re H=true):cY H (Xj H):=⟨by rw[Uc];exact ag7 _,fun b c0 c h0 h1=>by
 rw[Vs h0]at h1;cases h1
 exact .inl ⟨Vh h h0,(mS c0).symm⟩⟩
theorem cY.keep{H G:Pv}{X:List Nat}(h:Re H=true)(K:jK X (Xj H) G)(hX:∀b∈X,∃c0 c,H[b]?=some c0∧G[b]?=some c∧c0.isLive=true∧((∃st fl rows,c=.live st fl true rows)∨c=.dead)):cY H G:=⟨by have:=K.len;rwa[Uc]at this,fun b c0 c h0 h1=>by
 by_cases hb:b∈X
 ·obtain⟨d0,d,e0,e1,e2⟩:=hX b hb
  rw[h0]at e0;rw[h1]at e1;cases e0;cases e1
  exact .inr e2
 ·rw[K.same b (by rw[Uc];exact Pz h0) hb,Vs h0]at h1;cases h1
  exact .inl ⟨Vh h h0,(mS c0).symm⟩⟩
theorem cY.mrg_clean{H G:Pv}(k:cY H G){b:Nat}{c:CB}(hc:G[b]?=some c):∃c',(Zn H G)[b]?=some c'∧c'.clean=c.clean:=by
 by_cases hb:b<H.length
 ·have h0:H[b]?=some H[b]:=ab0 hb
  rcases k.2 b _ c h0 hc with⟨h1,h2⟩|⟨h1,h2⟩
  ·exact⟨_,bN h0 hc h1,h2⟩
  ·refine⟨_,iI h0 hc (lM h1 h2),?_⟩
   rcases h2 with⟨_,_,_,rfl⟩|rfl<;>rfl
 ·exact⟨c,by rw[lJ k.1 (by omega)];exact hc,rfl⟩
theorem cY.trans{H h' G:Pv}(k:cY H h')(k':cY h' G):cY H (Zn h' G):=by
 refine⟨by rw[iJ k'.1];exact Nat.le_trans k.1 k'.1,fun b c0 c h0 h1=>?_⟩
 have hb:=Pz h0
 have e1:h'[b]?=some (h'[b]'(by have:=k.1;omega)):=ab0 _
 have e2:G[b]?=some (G[b]'(by have:=k.1;have:=k'.1;omega)):=ab0 _
 generalize h'[b]'(by have:=k.1;omega)=c1 at *
 generalize G[b]'(by have:=k.1;have:=k'.1;omega)=c2 at *
 rcases k'.2 b _ _ e1 e2 with⟨g1,g2⟩|⟨g1,g2⟩
 ·rw[bN e1 e2 g1]at h1;cases h1
  exact k.2 b _ _ h0 e1
 ·rw[iI e1 e2 (lM g1 g2)]at h1
  have:c2.mark=c2:=by rcases g2 with⟨_,_,_,rfl⟩|rfl<;>rfl
  rw[this]at h1;cases h1
  refine .inr ⟨?_,g2⟩
  rcases k.2 b _ _ h0 e1 with⟨_,h⟩|⟨h,_⟩
  ·exact wT h g1
  ·exact h
theorem cY.old{H G:Pv}{b:Nat}{c0 c:CB}(h0:H[b]?=some c0)(h1:G[b]?=some c)(hq:c0.quiet c=true):(Zn H G)[b]?=some c0:=bN h0 h1 hq
theorem afR{c:CB}{st:Nat}{fl w:Bool}{rows:List (List AV)}(h:c.clean=(CB.live st fl w rows).clean):∃w',c=.live st fl w' rows:=by
 cases c<;>simp[CB.clean]at h
 obtain⟨rfl,rfl,rfl⟩:=h
 exact⟨_,rfl⟩
theorem cY.live{H G:Pv}(k:cY H G){b st:Nat}{fl w:Bool}{rows:List (List AV)}(hc:G[b]?=some (.live st fl w rows)):∃w',(Zn H G)[b]?=some (.live st fl w' rows):=by
 obtain⟨c',h1,h2⟩:=k.mrg_clean hc
 obtain⟨w',rfl⟩:=afR h2
 exact⟨w',h1⟩
theorem QS.okw{H G:Pv}(k:cY H G){v:AV}{q:List Nat}{p:Nat}(h:QS v q G p):QS v q (Zn H G) p:=by
 rcases h with h|⟨b,w,rows,r,h1,h2,h3,h4,h5⟩
 ·exact .inl h
 ·obtain⟨w',h6⟩:=k.live h2
  exact .inr ⟨b,w',rows,r,h1,h6,h3,h4,h5⟩
theorem cY.quiet{H G:Pv}(k:cY H G)(h:Re H=true)(h':Re G=true):Re (Zn H G)=true:=by
 refine fP fun c hc=>?_
 obtain⟨b,hb⟩:=List.getElem?_of_mem hc
 have hbl:=Pz hb
 rw[iJ k.1]at hbl
 have e2:G[b]?=some G[b]:=ab0 hbl
 generalize G[b]=c2 at *
 by_cases hl:b<H.length
 ·have e1:H[b]?=some H[b]:=ab0 hl
  generalize H[b]=c1 at *
  rcases k.2 b _ _ e1 e2 with⟨g1,g2⟩|⟨g1,g2⟩
  ·rw[bN e1 e2 g1]at hb;cases hb;exact Vh h e1
  ·rw[iI e1 e2 (lM g1 g2)]at hb;cases hb;exact lS (Vh h' e2)
 ·rw[lJ k.1 (by omega),e2]at hb;cases hb;exact Vh h' e2
theorem aeI{LK:CB}{e:Bool}{ps:List AV}{N:Nat}{h':Pv}{dd q K:List Nat}{f:Bool}{v:AV}{fl w:Bool}(i0:h'[0]?=some LK)(i1:h'[1]?=some (.live 24 true false [ps]))(i2:h'[2]?=some (.live 1 true f (dd.map Yx)))(i3:h'[3]?=some (.live 1 false e [[.slr 1 2 0 N]]))(i5:h'[5]?=some (.live 1 false e [[.ptr 4 0 0]]))(i4:h'[4]?=some (.live 1 fl w [[v]]))(iQ:QS v q h' 4)(iB:∀b∈aL v,6≤b∧b∉K)(iq:Re h'=true)
 {B:Nat} {LP LB:CB} (hB:h'[B]?=some LP) (hBK:B∈K) (hK:∀b∈K,6≤b∧b<h'.length) (hLPc:LP.clean=LP) (hLPq:LP.quiet LP=true) {M:Pv} {Y dd2 q2:List Nat} {v2:AV} {fl2:Bool} (m1:h'.length≤M.length) (m2:Re M=true) (m3:M[4]?=some (.live 1 fl2 true [[v2]])) (m4:QS v2 q2 M 4) (m5:∀b∈aL v2,h'.length≤b)
 (m6:∀b c,b∉Y→(((Xj h').set B LB).set 2 (.live 1 true true (dd2.map Yx)))[b]?=some c→M[b]?=some c) (hY:4∈Y) (hY':∀b∈Y,b=4∨(b∈aL v∧M[b]?=some .dead)):
 cY h' (M.set B LP)∧DiH LK e ps N (Zn h' (M.set B LP)) dd2 q2 K∧(∀b∈K,(Zn h' (M.set B LP))[b]?=h'[b]?)∧h'.length≤(Zn h' (M.set B LP)).length:=by
 have hBl:=Pz hB
 have hB6:=(hK B hBK).1
 have h4l:=Pz i4
 have hY6:∀b∈Y,b=4∨(6≤b∧b∉K):=fun b hb1=>(hY' b hb1).imp id (fun h=>iB b h.1)
 have h2Y:2∉Y:=fun h=>by rcases hY6 2 h with h|h<;>omega
 have hKY:∀b∈K,b∉2::Y:=fun b hb1 h=>by
  have:=(hK b hb1).1
  rcases abZ.1 h with h|h
  ·omega
  ·rcases hY6 b h with h|h
   ·omega
   ·exact h.2 hb1
 have hg2:M[2]?=some (.live 1 true true (dd2.map Yx)):=m6 2 _ h2Y (ag9 (by simp[Uc];omega))
 have hK2:jK (2::Y) (Xj h') (M.set B LP):=⟨by simpa [Uc]using m1,fun b hb1 hn=>by
  rw[Uc]at hb1
  obtain⟨c,hc⟩:∃c,h'[b]?=some c:=⟨_,ab0 hb1⟩
  by_cases e:b=B
  ·subst e
   rw[ag9 (by omega),Vs hB,hLPc]
  ·rw[abY (fun h=>e h.symm)]
   have:=m6 b c.clean (fun h=>hn (aj1 _ h)) (by
    rw[abY (fun h=>hn (by rw[←h];exact ab3 ..)),abY (fun h=>e h.symm)];exact Vs hc)
   rw[this,Vs hc]⟩
 have hne:∀b,b≠B→(M.set B LP)[b]?=M[b]?:=fun b h=>abY (fun e=>h e.symm)
 have X:∀b∈2::Y,∃c0 c,h'[b]?=some c0∧(M.set B LP)[b]?=some c∧c0.isLive=true∧((∃st fl rows,c=.live st fl true rows)∨c=.dead):=fun b hb1=>by
  rcases abZ.1 hb1 with rfl|hb1
  ·exact⟨_,_,i2,by rw[hne 2 (by omega)];exact hg2,rfl,.inl ⟨_,_,_,rfl⟩⟩
  ·rcases hY' b hb1 with rfl|⟨h1,h2⟩
   ·exact⟨_,_,i4,by rw[hne 4 (by omega)];exact m3,rfl,.inl ⟨_,_,_,rfl⟩⟩
   ·obtain⟨h3,w',rows,h5⟩:=iQ.lt b h1
    exact⟨_,_,h5,by rw[hne b (fun e=>(iB b h1).2 (e▸hBK))];exact h2,rfl,.inr rfl⟩
 have ok:=cY.keep iq hK2 X
 have X':∀b∈2::Y,b<h'.length∧∀c0 c,h'[b]?=some c0→(M.set B LP)[b]?=some c→c0.isLive=true∧c0.quiet c=false:=fun b hb1=>by
  obtain⟨c0,c,h1,h2,h3,h4⟩:=X b hb1
  refine⟨Pz h1,fun d0 d k1 k2=>?_⟩
  rw[h1]at k1;rw[h2]at k2;cases k1;cases k2
  exact⟨h3,lM h3 h4⟩
 obtain⟨g1,g2,g3,g4,g5⟩:=Xh iq hK2 X'
 have low:∀b,b<6→b≠2→b≠4→(Zn h' (M.set B LP))[b]?=h'[b]?:=fun b h1 h2 h3=>g4 b (by have:=Pz i5;omega) fun h=>by
  rcases abZ.1 h with h|h
  ·exact h2 h
  ·rcases hY6 b h with h|h<;>omega
 refine⟨ok,⟨true,v2,fl2,true,by rw[low 0 (by omega) (by omega) (by omega)];exact i0,by rw[low 1 (by omega) (by omega) (by omega)];exact i1,?_,by rw[low 3 (by omega) (by omega) (by omega)];exact i3,by rw[low 5 (by omega) (by omega) (by omega)];exact i5,?_,?_,fun b hb1=>?_,?_⟩,fun b hb1=>g4 b (hK b hb1).2 (hKY b hb1),by rw[g2];simpa using m1⟩
 ·exact g5 2 (ab3 ..) _ (by rw[hne 2 (by omega)];exact hg2)
 ·exact g5 4 (aj1 _ hY) _ (by rw[hne 4 (by omega)];exact m3)
 ·rcases m4 with h|⟨b,w',rows,r,h1,h2,h3⟩
  ·exact .inl h
  ·have hb1:=m5 b (by rw[h1];simp[aL])
   exact .inr ⟨b,w',rows,r,h1,by rw[g3 b hb1,hne b (by omega)];exact h2,h3⟩
 ·have h1:=m5 b hb1
  exact⟨by omega,fun h=>by have:=(hK b h).2;omega⟩
 ·exact eL iq hK2 X' (Uk m2 B (by rw[hLPc];exact hLPq))
theorem akT{h' l:Pv}(hq:Re h'=true):cY h' (Xj h'++l)∧Zn h' (Xj h'++l)=h'++l:=by
 have K:jK [] (Xj h') (Xj h'++l):=jK.app _ _
 have X:∀b∈([]:List Nat),b<h'.length∧∀c0 c,h'[b]?=some c0→(Xj h'++l)[b]?=some c→c0.isLive=true∧c0.quiet c=false:=fun b hb1=>by cases hb1
 obtain⟨g1,g2,g3,g4,_⟩:=Xh hq K X
 refine⟨(cY.cl hq).app l,amJ fun b=>?_⟩
 by_cases hb1:b<h'.length
 ·rw[g4 b hb1 (by simp),akA hb1]
 ·rw[g3 b (by omega),ag8 (by simp[Uc];omega),ag8 (by omega),Uc]
theorem ahV:Qc .nilp=[.nilp]:=Eq.trans rfl rfl
theorem alP(n x:Nat):(aaN n x).sum=n*x:=by
 induction n with
 |zero=>simp
 |succ n ih=>rw[am4,List.sum_cons,ih,Nat.succ_mul];omega
theorem tK:∀(l:List Nat) (s:Nat),(l.set s 0).sum≤l.sum
 | [],s=>by simp
 |a::l,0=>by simp
 |a::l,s+1=>by have:=tK l s;simp;omega
theorem adI{N s far:Nat}(h:N≤8):(Yz N s far).sum≤8*far:=by
 unfold Yz
 refine Nat.le_trans (tK _ _) ?_
 rw[alP]
 exact Nat.mul_le_mul_right _ h
def nS(x:Int × Bool):Bool:=x.1==0&& !x.2
def tgt(L:List (Int × Bool)):List Bool:=L.map nS
theorem agM{w:Rf}{L:List (Int × Bool)}{i:Nat}{p:Px}{x:Int × Bool}(hp:w.parts[i]?=some p)(hx:L[i]?=some x):(rK w (tgt L))[i]?=some (p.one.toNat,p.other.toNat,if nS x=true then 1 else 0):=by
 unfold rK tgt
 rw[List.getElem?_zipWith,ah0,hp,hx];rfl
theorem vD{w:Rf}{d:Int}:rK w (tgt (Qb w d))=rK w (wN w d):=by
 have e:∀(l:List Px) (r:List Bool) (f:Px→Bool→Net.Edge),List.zipWith f l (l.map (fun p=>vX p d)++r)=List.zipWith f l (l.map fun p=>vX p d):=by
  intro l;induction l with
  |nil=>intro r f;simp
  |cons a l ih=>intro r f;simp[ih]
 unfold rK tgt Qb wN
 rw[arW,List.map_map]
 exact e _ _ _
theorem QS.app{v:AV}{q:List Nat}{H:Pv}{p:Nat}(h:QS v q H p)(l:Pv):QS v q (H++l) p:=by
 rcases h with h|⟨b,w,rows,r,h1,h2,h3⟩
 ·exact .inl h
 ·exact .inr ⟨b,w,rows,r,h1,Qe h2 l,h3⟩
theorem agB{h:Pv}{b:Nat}{c:CB}(hc:h[b]?=some c):h.set b c=h:=by
 refine amJ fun i=>?_
 by_cases e:b=i
 ·subst e;rw[ag9 (Pz hc),hc]
 ·rw[abY e]
theorem nM:∀(L:List (Int × Bool)) (i:Nat) (a:Int) (b:Bool),L[i]?=some (a,b)→ab2 2 (akQ (i*2) (Ve L))=[.int .i64 a,.bool b]
 | [],i,a,b,h=>by simp at h
 |x::L,0,a,b,h=>by simp at h;subst h;simp[Ve]
 |x::L,i+1,a,b,h=>by
  have ih:=nM L i a b (by simpa using h)
  rw[show(i+1)*2=(i*2)+1+1 by omega]
  simpa only[Ve,ayD,alS,ahA,aFK]using ih
theorem eJ{w:Rf}{d:Int}{i:Nat}{p:Px}(hx:w.parts[i]?=some p):(Qb w d)[i]?=some (Ri p d,p.opn):=by
 unfold Qb
 rw[akA (by rw[ahC];exact(ahE.1 hx).1),ah0,hx];rfl
def no3:Nat→Nat→Nat→Prop:=fun _ _ _=>False
theorem rM{w:Rf}{N:Nat}(hw:WOk w N)(h12:w.parts.length≤12){d:Int}{s:Nat}(hs:s<N){ps:List AV}{L:List (Int × Bool)}(hL12:L.length=12)(hps:ps=Ve L){wf:Bool}:
 ClQ Vf 36 [.ptr 0 0 0,.int .i64 (s:Int),.agg ps] [.live 4 false wf [[.int .i64 w.rooms,.int .i64 w.need,Ux 9 true w.nn (w.parts.map Px.cells),.int .i64 d]]] fun o h'=>
  ∃(f:Bool) (ds:List Nat),o=.ret (.slr 1 1 0 N)∧h'=[.live 4 false wf [[.int .i64 w.rooms,.int .i64 w.need,Ux 9 true w.nn (w.parts.map Px.cells),.int .i64 d]],.live 1 true f (ds.map Yx)]∧ds.length=N∧dD (rK w (tgt L)) s N Wl (fun v=>ds.getD v 0):=by
 have hr:=hw.rooms
 have n2:=hw.n2
 have n8:=hw.n8
 have hpl:ps.length=24:=by rw[hps,Wt];omega
 have hflat:ps.all AV.flat=true∧ps.all AV.isCell=true:=by
  subst hps
  have hform:∀x∈Ve L,(∃n,x=.int .i64 n)∨∃b,x=.bool b:=fun x hx=>by
   simp only[Ve,aMN,abZ,adC,or_false]at hx
   obtain⟨y,_,rfl|rfl⟩:=hx
   ·exact .inl ⟨_,rfl⟩
   ·exact .inr ⟨_,rfl⟩
  exact⟨ahJ.2 fun x hx=>by rcases hform x hx with⟨n,rfl⟩|⟨b,rfl⟩<;>rfl,ahJ.2 fun x hx=>by rcases hform x hx with⟨n,rfl⟩|⟨b,rfl⟩<;>rfl⟩
 obtain⟨hf1,hf2⟩:=hflat
 refine aSD rfl Tryd.func36 rfl rfl ?_
 simp only[Tryd.f36]
 simp only[hr]
 have h39:(N≤549755813888)=True:=eq_true (by omega)
 have m1:((N:Int)≤(N:Int))=True:=eq_true (Int.le_refl _)
 have m2:((N:Int)≤1099511627776)=True:=eq_true (by omega)
 (have hb:=trivial;with_reducible repeat' (first|simp only[hb,Vc.down,seval,cV.down,hpl,hf1,hf2,h39,m1,m2,aMX]|refine Rj ?_ ?_<;>intro hb|refine fd ?_|fail))
 generalize hLK:(CB.live 4 false wf [[.int .i64 (N:Int),.int .i64 w.need,Ux 9 true w.nn (w.parts.map Px.cells),.int .i64 d]])=LK
 refine iP (yQ 85 (aaN N ()) (fun i (_:Unit) t h=>t 0=.ptr 0 0 0∧t 1=.int .i64 (s:Int)∧t 5=.ptr 1 0 0∧t 7=.ptr 3 0 0∧t 23=.int .i64 (N:Int)∧t 24=.int .i64 (i:Int)∧∃f,h=[LK,.live 24 true false [ps],.live 1 true f ((aaN i Wl++aaN (N-i) 0).map Yx),.live 1 false true [[.slr 1 2 0 N]]]) (fun _ _=>())
  (fun _ e t h=>e=.exit 0∧t 0=.ptr 0 0 0∧t 1=.int .i64 (s:Int)∧t 5=.ptr 1 0 0∧t 7=.ptr 3 0 0∧∃f,h=[LK,.live 24 true false [ps],.live 1 true f ((aaN N Wl).map Yx),.live 1 false true [[.slr 1 2 0 N]]]) ?_ ?_ () _ _ ?_) (fun e t h hk=>?_)
 ·rintro _ t h Q' kQ ⟨g0,g1,g5,g7,g23,g24,f,rfl⟩
  rw[ah8]at g24
  (have hb:=trivial;with_reducible repeat' (first|simp only[hb,Vc.down,seval,cV.down,g23,g24,Int.lt_irrefl,decide_false]|refine Rj ?_ ?_<;>intro hb|refine fd ?_|fail))
  exact kQ _ _ _ ⟨rfl,by simp[up,g0],by simp[up,g1],by simp[up,g5],by simp[up,g7],f,by simp⟩
 ·rintro x rest i _ t h J Q' kJ kQ hx hi ⟨g0,g1,g5,g7,g23,g24,f,rfl⟩
  rw[ah8]at hi
  have hdd:decide ((i:Int)<(N:Int))=true:=decide_eq_true (by omega)
  have hdi:((i:Int)<(N:Int))=True:=eq_true (by omega)
  have hww:=Ya (n:=N) hi (by unfold maxLen;omega)
  have hrow:((aaN i Wl++aaN (N-i) 0).map Yx)[i]?=some [.int .i64 0]:=by
   rw[ah0,ag8 (by simp),ah8,alY,aNF,if_pos (by omega)]
   rfl
  have hnx:((aaN i Wl++aaN (N-i) 0).map Yx).set i [.int .i64 1048576]=(aaN (i+1) Wl++aaN (N-(i+1)) 0).map Yx:=by
   have e:N-i=(N-(i+1))+1:=by omega
   rw[show([.int .i64 1048576]:List AV)=Yx Wl from rfl,←al1,List.set_append_right _ _ (by simp),ah8,alY,e,am4,List.set_cons_zero,List.replicate_succ',List.append_assoc]
   rfl
  generalize(aaN i Wl++aaN (N-i) 0).map Yx=rows at *
  (have hb:=trivial;with_reducible repeat' (first|simp only[hb,Vc.down,seval,cV.down,g0,g1,g5,g7,g23,g24,hdd,hdi,hww,hrow,hnx]|refine Rj ?_ ?_<;>intro hb|refine fd ?_|fail))
  exact Qk (kJ _ _ () ⟨by simp[up,g0],by simp[up,g1],by simp[up,g5],by simp[up,g7],by simp[up,g23],by simp[up],true,rfl⟩ rfl)
 ·exact⟨by simp[up,eU],by simp[up,eU],by simp[up],by simp[up],by simp[up],by simp[up],false,by simp[Yx]⟩
 obtain⟨rfl,g0,g1,g5,g7,f,rfl⟩:=hk
 have hrow:s<((aaN N Wl).map Yx).length:=by simpa using hs
 have hz:((aaN N Wl).map Yx)[s]?=some [.int .i64 1048576]:=by rw[ah0,aNF,if_pos hs];rfl
 have hin:((aaN N Wl).map Yx).set s [.int .i64 0]=(Yz N s Wl).map Yx:=by rw[Yz,al1];rfl
 have o1:((s:Int)<(N:Int))=True:=eq_true (by omega)
 generalize hrw:(aaN N Wl).map Yx=rows at *
 obtain⟨q1,hq1⟩:∃q,Fn.func 56=q:=⟨_,rfl⟩
 obtain⟨q2,hq2⟩:∃q,Fn.func 57=q:=⟨_,rfl⟩
 have hLq:LK.quiet LK.clean=true:=by rw[←hLK];rfl
 obtain⟨es,M,b1,b2,b3,b4,⟨v',fl',b5,b6,b7⟩,b8,_⟩:=alZ (h:=[LK,.live 24 true false [ps],.live 1 true true ((Yz N s Wl).map Yx),.live 1 false true [[.slr 1 2 0 N]],.live 1 false false [[.nils]],.live 1 false true [[.ptr 4 0 0]]]) (fP fun c hc=>by
  simp only[abZ,adC,or_false]at hc
  rcases hc with rfl|rfl|rfl|rfl|rfl|rfl
  ·exact hLq
  all_goals rfl) (p:=4) s rfl (.inl ⟨rfl,rfl⟩) (by simp)
 rw[hq1]at b1
 simp only[ahA]at b6
 obtain⟨es2,M2,c1,c2,c3,c4,⟨v2,fl2,c5,c6,c7⟩,c8⟩:=alR b4 b5 b6 (by simp)
 rw[hq2]at c1
 have k3:=b8 3 _ (by simp[aL]) rfl
 have k5:=b8 5 _ (by simp[aL]) rfl
 have j3:=c8 3 _ (by omega) k3
 have j5:=c8 5 _ (by omega) k5
 have j0:=c8 0 _ (by omega) (b8 0 _ (by simp[aL]) rfl)
 have j1:=c8 1 _ (by omega) (b8 1 _ (by simp[aL]) rfl)
 have j2:=c8 2 _ (by omega) (b8 2 _ (by simp[aL]) rfl)
 (have hb:=trivial;with_reducible repeat' (first|simp only[hb,Vc.down,seval,cV.down,g0,g1,g5,g7,hz,hin,o1,hq1,hq2,b1,b2,c1,c2,k3,k5,j3,j5,ahV,aMX]|refine Rj ?_ ?_<;>intro hb|refine fd ?_|fail))
 generalize hE:rK w (tgt L)=E at *
 have hEo:nX E N:=by rw[←hE];exact nL hw _
 have I0:=aiF (E:=E) (far:=Wl) hs hEo
 have hsum:(Yz N s Wl).sum≤8*1048576:=adI n8
 refine iP (cnt 85 (fun n (_:Unit) t h=>t 0=.ptr 0 0 0∧t 1=.int .i64 (s:Int)∧t 5=.ptr 1 0 0∧t 7=.ptr 3 0 0∧t 9=.ptr 5 0 0∧∃dd q k,DiH LK true ps N h dd q [k]∧2*dd.sum+q.length≤20000000∧
  ((t 11=.bool true∧∃room w,t 10=.ptr k 0 0∧6≤k∧h[k]?=some (.live 1 true w [[.int .i64 (room:Nat)]])∧iU E s N Wl dd (room::q) no3∧2*dd.sum+q.length+1≤n)∨(t 11=.bool false∧q=[]∧iU E s N Wl dd [] no3))) (fun _ _=>())
  (fun _ e t h=>e=.exit 2∧t 7=.ptr 3 0 0∧∃dd k,DiH LK true ps N h dd [] [k]∧iU E s N Wl dd [] no3) ?_ ?_ (2*(Yz N s Wl).sum+1) () _ _ ?_) (fun e t h hk=>?_)
 ·rintro _ t h Q' kQ ⟨g0,g1,g5,g7,g9,dd,q,k,hD,hql,⟨g11,room,w5,g10,_,_,_,hm⟩|⟨g11,rfl,hI⟩⟩
  ·omega
  ·(have hb:=trivial;with_reducible repeat' (first|simp only[hb,Vc.down,seval,cV.down,g11]|refine Rj ?_ ?_<;>intro hb|refine fd ?_|fail))
   exact kQ _ _ _ ⟨rfl,by simp[up,g7],dd,k,hD,hI⟩
 ·rintro n _ t h J Q' kJ kQ ⟨g0,g1,g5,g7,g9,dd,q,k,hD,hql,⟨g11,room,w5,g10,hk6,hkb,hI,hm⟩|⟨g11,rfl,hI⟩⟩
  ·obtain⟨f,v,fl,w',i0,i1,i2,i3,i5,i4,iQ,iB,iq⟩:=hD
   have hat:=aT0 w d (room:Int) false
   rw[hr]at hat
   subst hLK
   (have hb:=trivial;with_reducible repeat' (first|simp only[hb,Vc.down,seval,cV.down,g0,g1,g5,g7,g9,g10,g11,i0,i1,i2,i3,i5,hkb,hat]|refine Rj ?_ ?_<;>intro hb|refine fd ?_|fail))
   obtain⟨rN,rI⟩:=iU.take hI
   have hkl:=Pz hkb
   generalize hLP:CB.lp _ _ _ _ _=LP
   obtain⟨LK,hLK⟩:∃c:CB,c=CB.live 4 false wf [[.int .i64 (N:Int),.int .i64 w.need,Ux 9 true w.nn (w.parts.map Px.cells),.int .i64 d]]:=⟨_,rfl⟩
   refine aMC (aTY hw (d:=d) (r:=(room:Int)) (lb:=h.length) (rb:=h.length+1) (kb:=0) (fun i h'=>∃dd' q',DiH LK.clean false ps N h' dd' q' [k,h.length,h.length+1,h.length+2]∧iU E s N Wl dd' q' (bZ E room i)∧2*dd'.sum+q'.length≤2*dd.sum+q.length∧(∃w1,h'[k]?=some (.live 1 true w1 [[.int .i64 (room:Nat)]]))∧(∃w1,h'[h.length]?=some (.live 1 false w1 [[.ptr 0 0 0]]))∧(∃w1,h'[h.length+1]?=some (.live 1 true w1 [[.int .i64 (room:Nat)]]))∧h'[h.length+2]?=some LP∧h.length+3≤h'.length∧cY (h++[.live 1 false false [[.ptr 0 0 0]],.live 1 true false [[.int .i64 (room:Nat)]],LP]) h') ?_ ?_ ?_ ?_ ?_ ?_ ?_) ?_
   ·rintro i h' ⟨dd',q',_,_,_,_,hb1,_⟩
    exact hb1
   ·rintro i h' ⟨dd',q',⟨f,v,fl,w',i0,_⟩,_⟩
    rw[hr]
    exact⟨false,by rw[i0,hLK];rfl⟩
   ·rintro i h' ⟨dd',q',_,_,_,_,_,hb2,_⟩
    exact hb2
   ·rintro i h' fl wf rows ⟨dd',q',k1,k3,k4,⟨a0,k5⟩,⟨a1,k6⟩,⟨a2,k7⟩,k8,k9,kO⟩
    exact⟨dd',q',k1.app rfl,k3,k4,⟨a0,Qe k5 _⟩,⟨a1,Qe k6 _⟩,⟨a2,Qe k7 _⟩,Qe k8 _,by simp;omega,kO.app _⟩
   ·rintro i p u h' hpx hu ⟨dd',q',⟨f',v',fl',w2,j0,j1,j2,j3,j5,j4,jQ,jB,jq⟩,k3,k4,⟨a0,k5⟩,⟨a1,k6⟩,⟨a2,k7⟩,k8,k9,kO⟩
    have round:RnQ Vf ([.int .i64 i,.int .i64 u]++[.yl (h.length+2)]) (Xj h') fun o G=>o=.ret (.bool true)∧cY h' G∧∃dd2 q2,DiH LK.clean false ps N (Zn h' G) dd2 q2 [k,h.length,h.length+1,h.length+2]∧iU E s N Wl dd2 q2 (bZ E room (i+1))∧2*dd2.sum+q2.length≤2*dd.sum+q.length∧(∀b∈[k,h.length,h.length+1,h.length+2],(Zn h' G)[b]?=h'[b]?)∧h'.length≤(Zn h' G).length:=by
     have hir:room<N:=rN
     have hpo:=hw.part p (aNJ hpx)
     have hil:i<w.parts.length:=(ahE.1 hpx).1
     obtain⟨pc,hpc⟩:∃x,L[i]?=some x:=⟨_,ab0 (by omega)⟩
     have he:=agM hpx hpc
     rw[hE]at he
     obtain⟨to,rfl,htN,hrt,hto⟩:∃to:Nat,u=(to:Int)∧to<N∧room≠to∧(E[i]?=some (room,to,if nS pc=true then 1 else 0)∨E[i]?=some (to,room,if nS pc=true then 1 else 0)):=by
      rcases hu with⟨h1,h2⟩|⟨h1,h2,h3⟩
      ·exact⟨p.other.toNat,by omega,by omega,by omega,.inl (by rw[he,h1];rfl)⟩
      ·exact⟨p.one.toNat,by omega,by omega,by omega,.inr (by rw[he,h2];rfl)⟩
     have hi12:((i:Int)<12)=True:=eq_true (by omega)
     have hp24:(i*2+2≤24)=True:=eq_true (by omega)
     have htk:ab2 2 (akQ (i*2) ps)=[.int .i64 pc.1,.bool pc.2]:=by
      rw[hps];exact nM _ _ _ _ hpc
     have htt:=xM pc.1 pc.2
     rw[show(pc.1==0&& !pc.2)=nS pc from rfl]at htt
     have hdl:=k3.i.len
     have hrm:=qR (d:=dd') (a:=room) (by omega)
     have htm:=qR (d:=dd') (a:=to) (by omega)
     have hst:∀n:Nat,(dd'.map Yx).set to [.int .i64 (n:Int)]=(dd'.set to n).map Yx:=fun n=>by rw[al1];rfl
     have hrf:=k3.i.le room rN
     have hrf2:dd'.getD room 0≤1048576:=hrf
     have I0:=k3.same hto
     have I1:=fun q'=>k3.less (q':=q') rN htN hrt hto
     have hrN:((room:Int)<(N:Int))=True:=eq_true (by omega)
     have htN':((to:Int)<(N:Int))=True:=eq_true (by omega)
     have hbit:=aPQ (nS pc)
     have hsum:∀x,x<dd'.getD to 0→(dd'.set to x).sum<dd'.sum:=fun x hx=>agS (by omega) hx
     generalize dd'.getD room 0=xr at *
     generalize dd'.getD to 0=xt at *
     generalize hrows:dd'.map Yx=rows at *
     have hbc:=Vs k8
     have hb0:LP.clean=LP:=by rw[←hLP];rfl
     rw[hb0]at hbc
     have hne2:∀(b:Nat) (c X:CB),b≠h.length+2→h'[b]?=some c→((Xj h').set (h.length+2) X)[b]?=some c.clean:=fun b c X hn hc=>by rw[abY (fun e=>hn e.symm),Vs hc]
     have h6:=Pz i5
     have g0':=fun X=>hne2 0 _ X (by omega) j0
     have g1':=fun X=>hne2 1 _ X (by omega) j1
     have g2':=fun X=>hne2 2 _ X (by omega) j2
     have g3':=fun X=>hne2 3 _ X (by omega) j3
     have g5':=fun X=>hne2 5 _ X (by omega) j5
     have gk':=fun X=>hne2 k _ X (by omega) k5
     simp only[CB.clean]at g1' g2' g3' g5' gk'
     have hlw:∀n,n≤1048577→IntKind.i64.wrap (n:Nat)=(n:Int):=fun n hn=>cO (by omega) (by omega)
     have hself:∀X:CB,((Xj h').set (h.length+2) X)[h.length+2]?=some X:=fun X=>ag9 (Pz hbc)
     have hback:∀X:CB,(((Xj h').set (h.length+2) X).set (h.length+2) LP)=Xj h':=fun X=>by
      rw[List.set_set];exact agB hbc
     have sm:=akT (l:=[]) jq
     simp only[List.append_nil]at sm
     have fin0:∀(dx:iU E s N Wl dd' q' (bZ E room (i+1))),(Tn.ret (AV.bool true)=.ret (.bool true))∧cY h' (Xj h')∧∃dd2 q2,DiH LK.clean false ps N (Zn h' (Xj h')) dd2 q2 [k,h.length,h.length+1,h.length+2]∧iU E s N Wl dd2 q2 (bZ E room (i+1))∧2*dd2.sum+q2.length≤2*dd.sum+q.length∧(∀b∈[k,h.length,h.length+1,h.length+2],(Zn h' (Xj h'))[b]?=h'[b]?)∧h'.length≤(Zn h' (Xj h')).length:=fun dx=>by
      rw[sm.2]
      exact⟨rfl,sm.1,dd',q',⟨f',v',fl',w2,j0,j1,by rw[hrows];exact j2,j3,j5,j4,jQ,jB,jq⟩,dx,k4,fun b _=>rfl,ag7 _⟩
     have hq':q'.length≤100000000:=by omega
     have hK6:∀b∈[k,h.length,h.length+1,h.length+2],6≤b∧b<h'.length:=fun b hb1=>by
      simp only[abZ,adC,or_false]at hb1
      omega
     have hnx:∀(b:Nat) (c X Y:CB),b≠h.length+2→b≠2→h'[b]?=some c→(((Xj h').set (h.length+2) X).set 2 Y)[b]?=some c.clean:=fun b c X Y n1 n2 hc=>by rw[abY (fun e=>n2 e.symm)];exact hne2 b c X n1 hc
     have n5:=fun X Y=>hnx 5 _ X Y (by omega) (by omega) j5
     have n4:=fun X Y=>hnx 4 _ X Y (by omega) (by omega) j4
     have nB:∀X Y:CB,(((Xj h').set (h.length+2) X).set 2 Y)[h.length+2]?=some X:=fun X Y=>by rw[abY (by omega)];exact hself X
     simp only[CB.clean]at n5 n4
     have nQ:∀X Y,QS v' q' (((Xj h').set (h.length+2) X).set 2 Y) 4:=fun X Y=>by
      rcases QS.cln jQ with h1|⟨b,w0,rows0,r0,h1,h2,h3⟩
      ·exact .inl h1
      ·have hbb:=jB b (by rw[h1];simp[aL])
       simp only[abZ,adC,or_false,not_or]at hbb
       exact .inr ⟨b,w0,rows0,r0,h1,by rw[abY (by omega),abY (by omega)];exact h2,h3⟩
     have hlen2:∀X Y:CB,(((Xj h').set (h.length+2) X).set 2 Y).length=h'.length:=fun X Y=>by simp[Uc]
     have nqt:∀(X:CB) (Y:List (List AV)),X.quiet X.clean=true→Re (((Xj h').set (h.length+2) X).set 2 (.live 1 true true Y))=true:=fun X Y hX=>Uk (Uk (bU jq) _ hX) _ rfl
     have fin1:∀{n:Nat} {q2:List Nat} {M:Pv} {Y:List Nat} {LB:CB} {v2:AV} {fl2:Bool},iU E s N Wl (dd'.set to n) q2 (bZ E room (i+1))→n<xt→q2.length=q'.length+1→h'.length≤M.length→Re M=true→M[4]?=some (.live 1 fl2 true [[v2]])→QS v2 q2 M 4→(∀b∈aL v2,h'.length≤b)→
      (∀b c,b∉Y→(((Xj h').set (h.length+2) LB).set 2 (.live 1 true true ((dd'.set to n).map Yx)))[b]?=some c→M[b]?=some c)→4∈Y→(∀b∈Y,b=4∨(b∈aL v'∧M[b]?=some .dead))→
      (Tn.ret (AV.bool true)=.ret (.bool true))∧cY h' (M.set (h.length+2) LP)∧∃dd2 q2,DiH LK.clean false ps N (Zn h' (M.set (h.length+2) LP)) dd2 q2 [k,h.length,h.length+1,h.length+2]∧iU E s N Wl dd2 q2 (bZ E room (i+1))∧2*dd2.sum+q2.length≤2*dd.sum+q.length∧(∀b∈[k,h.length,h.length+1,h.length+2],(Zn h' (M.set (h.length+2) LP))[b]?=h'[b]?)∧h'.length≤(Zn h' (M.set (h.length+2) LP)).length:=fun {n q2 M Y LB v2 fl2} dx hn hq2 m1 m2 m3 m4 m5 m6 hY hY'=>by
      have hr:=aeI (K:=[k,h.length,h.length+1,h.length+2]) j0 j1 (by rw[hrows];exact j2) j3 j5 j4 jQ jB jq k8 (by simp) hK6 hb0 (by rw[←hLP];rfl) m1 m2 m3 m4 m5 m6 hY hY'
      exact⟨rfl,hr.1,dd'.set to n,q2,hr.2.1,dx,by have:=hsum n hn;omega,hr.2.2.1,hr.2.2.2⟩
     have nbv:h.length+2∉4::aL v':=fun hx=>by
      rcases abZ.1 hx with hx|hx
      ·omega
      ·have:=(jB _ hx).2;simp at this
     have mq:∀x,x∈q'++[to]↔x=to∨x∈q':=fun x=>by simp;exact Or.comm
     have mq2:∀x,x∈to::q'↔x=to∨x∈q':=fun x=>by simp
     cases htb:nS pc with
     |true=>
      have hw1:IntKind.i64.wrap ((xr:Int)+1)=((xr+1:Nat):Int):=by have:=hlw (xr+1) (by omega);simpa using this
      rw[htb]at htt hbit I0 I1
      simp only[if_true]at I0 I1 hbit
      by_cases hle:xt≤xr+1
      ·have hle':(((xr+1:Nat):Int)≥(xt:Int))=True:=eq_true (by omega)
       have fz:=fin0 (I0 hle)
       subst hLP
       refine ah4 hbc rfl ?_
       (have hb:=trivial;with_reducible repeat' (first|simp only[hb,Vc.down,seval,cV.down,k8,g0,g1,g5,g7,g9,g10,g0',g1',g2',g3',g5',gk',Us,hi12,hp24,hpl,htk,htt,hbit,hrm,htm,hrN,htN',hw1,hle',hself,hback]|refine Rj ?_ ?_<;>intro hb|refine fd ?_|fail))
       exact⟨_,_,rfl,fz⟩
      ·have hle':(((xr+1:Nat):Int)≥(xt:Int))=False:=eq_false (by omega)
       subst hLP
       refine ah4 hbc rfl ?_
       (have hb:=trivial;with_reducible repeat' (first|simp only[hb,Vc.down,seval,cV.down,k8,g0,g1,g5,g7,g9,g10,g0',g1',g2',g3',g5',gk',Us,hi12,hp24,hpl,htk,htt,hbit,hrm,htm,hrN,htN',hw1,hle',hst]|refine Rj ?_ ?_<;>intro hb|refine fd ?_|fail))
       generalize hLB:CB.lp _ _ _ _ Xl.busy=LB
       obtain⟨q1,hq1⟩:∃q,Fn.func 56=q:=⟨_,rfl⟩
       obtain⟨es,M,b1,b2,b3,b4,⟨v2,fl2,b5,b6,b7⟩,b8,b9⟩:=alZ (nqt LB ((dd'.set to (xr+1)).map Yx) (by rw[←hLB];rfl)) to (n4 LB _) (nQ LB _) hq'
       rw[hq1]at b1
       have n5':=n5 LB
       have mB:=b8 _ _ nbv (nB LB _)
       have fz:=fin1 (I1 (q'++[to]) (by omega) mq) (by omega) (by simp) (by rw[hlen2]at b3;exact b3) b4 b5 b6 (by rw[hlen2]at b7;exact b7) b8 (ab3 ..) (fun b hb1=>(abZ.1 hb1).imp id fun hb1=>⟨hb1,b9 b hb1⟩)
       subst hLB
       (have hb:=trivial;with_reducible repeat' (first|simp only[hb,Vc.down,seval,cV.down,n5',hq1,b1,b2,mB]|refine Rj ?_ ?_<;>intro hb|refine fd ?_|fail))
       exact⟨_,_,rfl,fz⟩
     |false=>
      have hw1:IntKind.i64.wrap ((xr:Int)+0)=((xr:Nat):Int):=by have:=hlw xr (by omega);simpa using this
      rw[htb]at htt hbit I0 I1
      simp only[Bool.false_eq_true,if_false,Nat.add_zero]at I0 I1 hbit
      by_cases hle:xt≤xr
      ·have hle':((xr:Int)≥(xt:Int))=True:=eq_true (by omega)
       have fz:=fin0 (I0 hle)
       subst hLP
       refine ah4 hbc rfl ?_
       (have hb:=trivial;with_reducible repeat' (first|simp only[hb,Vc.down,seval,cV.down,k8,g0,g1,g5,g7,g9,g10,g0',g1',g2',g3',g5',gk',Us,hi12,hp24,hpl,htk,htt,hbit,hrm,htm,hrN,htN',hw1,hle',hself,hback]|refine Rj ?_ ?_<;>intro hb|refine fd ?_|fail))
       exact⟨_,_,rfl,fz⟩
      ·have hle':((xr:Int)≥(xt:Int))=False:=eq_false (by omega)
       subst hLP
       refine ah4 hbc rfl ?_
       (have hb:=trivial;with_reducible repeat' (first|simp only[hb,Vc.down,seval,cV.down,k8,g0,g1,g5,g7,g9,g10,g0',g1',g2',g3',g5',gk',Us,hi12,hp24,hpl,htk,htt,hbit,hrm,htm,hrN,htN',hw1,hle',hst]|refine Rj ?_ ?_<;>intro hb|refine fd ?_|fail))
       generalize hLB:CB.lp _ _ _ _ Xl.busy=LB
       obtain⟨q1,hq1⟩:∃q,Fn.func 60=q:=⟨_,rfl⟩
       obtain⟨es,M,b1,b2,b3,b4,⟨v2,fl2,b5,b6,b7⟩,b8⟩:=aQX (nqt LB ((dd'.set to xr).map Yx) (by rw[←hLB];rfl)) to (n4 LB _) (nQ LB _) hq'
       rw[hq1]at b1
       have n5':=n5 LB
       have mB:=b8 _ _ (by omega) (nB LB _)
       have fz:=fin1 (Y:=[4]) (I1 (to::q') (by omega) mq2) (by omega) (by simp) (by rw[hlen2]at b3;exact b3) b4 b5 b6 (by rw[hlen2]at b7;exact b7) (fun b c hn=>b8 b c (by simpa using hn)) (ab3 ..) (fun b hb1=>.inl (by simpa using hb1))
       subst hLB
       (have hb:=trivial;with_reducible repeat' (first|simp only[hb,Vc.down,seval,cV.down,n5',hq1,b1,b2,mB]|refine Rj ?_ ?_<;>intro hb|refine fd ?_|fail))
       exact⟨_,_,rfl,fz⟩
    obtain⟨o,G,es,e1,e2,rfl,z0,dd2,q2,z1,z2,z3,z4,z5⟩:=ajE round (fun o G h=>h.2.1.sh)
    refine⟨es,e1,?_⟩
    rw[e2]
    exact⟨dd2,q2,z1,z2,z3,⟨a0,by rw[z4 k (by simp)];exact k5⟩,⟨a1,by rw[z4 _ (by simp)];exact k6⟩,⟨a2,by rw[z4 _ (by simp)];exact k7⟩,by rw[z4 _ (by simp)];exact k8,by omega,kO.trans z0⟩
   ·rintro i p h' hpx n1 n2 ⟨dd',q',k1,k3,k4,k5,k6,k7,k8,k9⟩
    have hpo:=hw.part p (aNJ hpx)
    obtain⟨pc,hpc⟩:∃x,L[i]?=some x:=⟨_,ab0 (by have:=(ahE.1 hpx).1;omega)⟩
    have he:=agM hpx hpc
    rw[hE]at he
    exact⟨dd',q',k1,k3.skip he (by omega) (by omega),k4,k5,k6,k7,k8,k9⟩
   ·have cl:∀(b:Nat) (c:CB),h[b]?=some c→(Xj h++[CB.live 1 false false [[.ptr 0 0 0]],.live 1 true false [[.int .i64 (room:Nat)]],LP])[b]?=some c.clean:=fun b c hc=>Qe (Vs hc) _
    have ca:∀j,(Xj h++[CB.live 1 false false [[.ptr 0 0 0]],.live 1 true false [[.int .i64 (room:Nat)]],LP])[h.length+j]?=[CB.live 1 false false [[.ptr 0 0 0]],.live 1 true false [[.int .i64 (room:Nat)]],LP][j]?:=fun j=>by
     rw[ag8 (by rw[Uc];omega),Uc,aN3]
    have hLc:LP.clean=LP:=by rw[←hLP];rfl
    have hLq:LP.quiet LP=true:=by rw[←hLP];rfl
    have hok:cY (h++[.live 1 false false [[.ptr 0 0 0]],.live 1 true false [[.int .i64 (room:Nat)]],LP]) (Xj h++[.live 1 false false [[.ptr 0 0 0]],.live 1 true false [[.int .i64 (room:Nat)]],LP]):=by
     have:=cY.cl (H:=h++[.live 1 false false [[.ptr 0 0 0]],.live 1 true false [[.int .i64 (room:Nat)]],LP]) (Ul iq (by simp only[Re,al4,hLc,hLq];rfl))
     rw[show Xj (h++[CB.live 1 false false [[.ptr 0 0 0]],.live 1 true false [[.int .i64 (room:Nat)]],LP])=Xj h++[CB.live 1 false false [[.ptr 0 0 0]],.live 1 true false [[.int .i64 (room:Nat)]],LP] by simp only[Xj,arW,List.map_cons,List.map_nil,hLc];rfl]at this
     exact this
    refine⟨dd,q,⟨false,v,fl,false,by rw[hLK];exact cl 0 _ i0,cl 1 _ i1,cl 2 _ i2,cl 3 _ i3,cl 5 _ i5,cl 4 _ i4,?_,fun b hb1=>?_,Ul (bU iq) (by simp only[Re,al4,hLc,hLq];rfl)⟩,rI,ag7 _,⟨_,cl k _ hkb⟩,⟨false,ca 0⟩,⟨false,ca 1⟩,ca 2,by simp[Uc],hok⟩
    ·rcases QS.cln iQ with h|⟨b,w',rows,r,h1,h2,h3⟩
     ·exact .inl h
     ·exact .inr ⟨b,w',rows,r,h1,Qe h2 _,h3⟩
    ·have:=(iQ.lt b hb1).1
     have:=iB b hb1
     simp at this ⊢
     omega
   ·rintro o h' ⟨rfl,dd',q',⟨f',v',fl',w2,j0,j1,j2,j3,j5,j4,jQ,jB,jq⟩,k3,k4,⟨a0,k5⟩,⟨a1,k6⟩,⟨a2,k7⟩,k8,k9,kO⟩
    have hl5:=Pz i5
    have hLc:LP.clean=LP:=by rw[←hLP];rfl
    have hLq:LP.quiet LP=true:=by rw[←hLP];rfl
    obtain⟨h1,hh1⟩:∃H:Pv,h++[.live 1 false false [[.ptr 0 0 0]],.live 1 true false [[.int .i64 (room:Nat)]],LP]=H:=⟨_,rfl⟩
    have hB1:h1[h.length+2]?=some LP:=by rw[←hh1,ag8 (by omega),aN3];rfl
    have hq1:Re h1=true:=by rw[←hh1];exact Ul iq (by simp only[Re,al4,hLc,hLq];rfl)
    have hO:∀(b:Nat) (c:CB),h[b]?=some c→h1[b]?=some c:=fun b c hc=>by rw[←hh1];exact Qe hc _
    simp only[hh1]at kO ⊢
    obtain⟨es,e1,e2⟩:=gW h1 h' [] kO.sh
    have e1':Sz 0 h1 h'=some es:=e1
    simp only[ahA]at e2
    have m0:=cY.old (hO 0 _ i0) j0 (by rw[hLK];rfl)
    have m1:=cY.old (hO 1 _ i1) j1 rfl
    obtain⟨x2,m2⟩:=kO.live j2
    have m3:=cY.old (hO 3 _ i3) j3 rfl
    have m5:=cY.old (hO 5 _ i5) j5 rfl
    obtain⟨x4,m4⟩:=kO.live j4
    obtain⟨xk,mk_⟩:=kO.live k5
    have mQ:=jQ.okw kO
    have mB:=cY.old hB1 k8 hLq
    have mqt:=kO.quiet hq1 jq
    have mln:h'.length≤(Zn h1 h').length:=by rw[iJ kO.1];exact ag7 _
    generalize hM:Zn h1 h'=M at *
    rw[qK,e1']
    have dne:∀(b:Nat) (c:CB),b≠h.length+2→M[b]?=some c→(M.set (h.length+2) .dead)[b]?=some c:=fun b c hn hc=>by rw[abY (fun e=>hn e.symm)];exact hc
    have hkn:k≠h.length+2:=by omega
    have d0:=dne 0 _ (by omega) m0
    have d1:=dne 1 _ (by omega) m1
    have d2:=dne 2 _ (by omega) m2
    have d3:=dne 3 _ (by omega) m3
    have d5:=dne 5 _ (by omega) m5
    have d4:=dne 4 _ (by omega) m4
    have dk:=dne k _ hkn mk_
    have dq:Re (M.set (h.length+2) .dead)=true:=Uk mqt _ rfl
    have dl:(M.set (h.length+2) .dead).length=M.length:=by simp
    have dQ:QS v' q' (M.set (h.length+2) .dead) 4:=by
     rcases mQ with h1|⟨b,w0,rows0,r0,h1,h2,h3⟩
     ·exact .inl h1
     ·have hbb:=jB b (by rw[h1];simp[aL])
      simp only[abZ,adC,or_false,not_or]at hbb
      exact .inr ⟨b,w0,rows0,r0,h1,dne b _ (by omega) h2,h3⟩
    subst hLP
    (have hb:=trivial;with_reducible repeat' (first|simp only[hb,Vc.down,seval,cV.down,e2,mB]|refine Rj ?_ ?_<;>intro hb|refine fd ?_|fail))
    generalize hD:M.set (h.length+2) CB.dead=D at *
    (have hb:=trivial;with_reducible repeat' (first|simp only[hb,Vc.down,seval,cV.down,g0,g1,g5,g7,g9,g10,dk,d5]|refine Rj ?_ ?_<;>intro hb|refine fd ?_|fail))
    have p5:=Qe d5 [CB.live 1 true true [[.int .i64 (room:Int)]]]
    have p4:=Qe d4 [CB.live 1 true true [[.int .i64 (room:Int)]]]
    have pq:Re (D++[CB.live 1 true true [[.int .i64 (room:Int)]]])=true:=Ul dq rfl
    have pQ:=dQ.app [CB.live 1 true true [[.int .i64 (room:Int)]]]
    have pk:(D++[CB.live 1 true true [[.int .i64 (room:Int)]]])[D.length]?=some (.live 1 true true [[.int .i64 (room:Int)]]):=by simp
    have hEl:E.length≤w.parts.length:=by rw[←hE];simp[rK,tgt];omega
    have k3':=k3.done hEl
    have hD6:6≤D.length:=by omega
    have hvD:∀b∈aL v',6≤b∧b∉[D.length]:=fun b hb1=>by
     have h1:=(dQ.lt b hb1).1
     have h2:=(jB b hb1).1
     exact⟨h2,by simp;omega⟩
    obtain⟨q1,hq1⟩:∃q,Fn.func 57=q:=⟨_,rfl⟩
    cases q' with
    |nil=>
     have b1:=aP8 pq p4 pQ
     rw[hq1]at b1
     (have hb:=trivial;with_reducible repeat' (first|simp only[hb,Vc.down,seval,cV.down,p5,hq1,b1]|refine Rj ?_ ?_<;>intro hb|refine fd ?_|fail))
     refine Qk (kJ _ _ () ⟨by simp[up,g0],by simp[up,g1],by simp[up,g5],by simp[up,g7],by simp[up,g9],dd',[],D.length,?_,?_,.inr ⟨by simp[up],rfl,k3'⟩⟩ rfl)
     ·exact⟨_,_,_,_,Qe d0 _,Qe d1 _,Qe d2 _,Qe d3 _,Qe d5 _,Qe d4 _,dQ.app _,hvD,Ul dq rfl⟩
     ·omega
    |cons x q'=>
     simp only[List.length_cons]at k4
     obtain⟨es,M4,b1,b2,b3,b4,⟨v2,fl2,b5,b6,b7⟩,b8⟩:=alR pq p4 pQ (by omega)
     rw[hq1]at b1
     have r5:=b8 _ _ (by omega) p5
     have rk:=b8 _ _ (by omega) pk
     (have hb:=trivial;with_reducible repeat' (first|simp only[hb,Vc.down,seval,cV.down,p5,hq1,b1,b2,rk,r5]|refine Rj ?_ ?_<;>intro hb|refine fd ?_|fail))
     have sne:∀(b:Nat) (c:CB),b<D.length→b≠4→D[b]?=some c→(M4.set D.length (.live 1 true true [[.int .i64 (x:Int)]]))[b]?=some c:=fun b c h1 h2 hc=>by
      rw[abY (by omega)];exact b8 b c h2 (Qe hc _)
     have hl4:=Pz rk
     refine Qk (kJ _ _ () ⟨by simp[up,g0],by simp[up,g1],by simp[up,g5],by simp[up,g7],by simp[up,g9],dd',q',D.length,?_,by omega,.inl ⟨by simp[up],x,true,by simp[up],hD6,ag9 hl4,k3',by omega⟩⟩ rfl)
     refine⟨_,v2,fl2,true,sne 0 _ (by omega) (by omega) d0,sne 1 _ (by omega) (by omega) d1,sne 2 _ (by omega) (by omega) d2,sne 3 _ (by omega) (by omega) d3,sne 5 _ (by omega) (by omega) d5,by rw[abY (by omega)];exact b5,?_,fun b hb1=>hvD b (by rw[←b7];exact hb1),Uk b4 _ rfl⟩
     rcases b6 with h1|⟨b,w0,rows0,r0,h1,h2,h3⟩
     ·exact .inl h1
     ·have hbb:=hvD b (by rw[←b7,h1];simp[aL])
      simp only[abZ,adC,or_false]at hbb
      exact .inr ⟨b,w0,rows0,r0,h1,by rw[abY (fun e=>hbb.2 e.symm)];exact h2,h3⟩
  ·(have hb:=trivial;with_reducible repeat' (first|simp only[hb,Vc.down,seval,cV.down,g11]|refine Rj ?_ ?_<;>intro hb|refine fd ?_|fail))
   exact kQ _ _ _ ⟨rfl,by simp[up,g7],dd,k,hD,hI⟩
 ·refine⟨by simp[up,g0],by simp[up,g1],by simp[up,g5],by simp[up,g7],by simp[up],Yz N s Wl,[],M2.length,?_,by simp only[List.length_nil];omega,.inl ⟨by simp[up],s,true,by simp[up],by simp at b3;omega,by rw[ag8 (ag7 _),alY];rfl,I0,by simp⟩⟩
  refine⟨true,v2,fl2,true,Qe j0 _,Qe j1 _,Qe j2 _,Qe j3 _,Qe j5 _,Qe c5 _,?_,?_,Ul c4 rfl⟩
  ·rcases c6 with h|⟨b,w',rows,r,h1,h2,h3⟩
   ·exact .inl h
   ·exact .inr ⟨b,w',rows,r,h1,Qe h2 _,h3⟩
  ·intro b hb1
   have:=c6.lt b hb1
   rw[c7]at hb1
   have h6:=b7 b hb1
   simp at h6
   exact⟨h6,by simp;omega⟩
 obtain⟨rfl,g7,dd,k,⟨f,v,fl,w',i0,i1,i2,i3,i5,i4,iQ,iB,iq⟩,hI⟩:=hk
 have hR:=hI.right hs hEo (by unfold Wl;omega)
 have hdl:=hI.i.len
 have hln:(dd.map Yx).length=N:=by simp[hdl]
 subst hLK
 (have hb:=trivial;with_reducible repeat' (first|simp only[hb,Vc.down,seval,cV.down,g7,i3,i2,i0,hln]|refine Rj ?_ ?_<;>intro hb|refine fd ?_|fail))
 exact⟨f,dd,rfl,hdl,hR⟩
theorem Ze(L:List (Int × Bool)):∀x∈Ve L,(∃n,x=.int .i64 n)∨∃b,x=.bool b:=fun x hx=>by
 simp only[Ve,aMN,abZ,adC,or_false]at hx
 obtain⟨y,_,rfl|rfl⟩:=hx
 ·exact .inl ⟨_,rfl⟩
 ·exact .inr ⟨_,rfl⟩
theorem Xi(L:List (Int × Bool)):(Ve L).all AV.flat=true:=ahJ.2 fun x hx=>by rcases Ze L x hx with⟨n,rfl⟩|⟨b,rfl⟩<;>rfl
theorem Xg(L:List (Int × Bool)):(Ve L).all AV.isCell=true:=ahJ.2 fun x hx=>by rcases Ze L x hx with⟨n,rfl⟩|⟨b,rfl⟩<;>rfl
theorem dA(L:List (Int × Bool))(d:Nat)(g:HF):Rn (Vn (d+1) g) (Ve L)=some (Ve L):=qO fun x hx=>by rcases Ze L x hx with⟨n,rfl⟩|⟨b,rfl⟩<;>rfl
theorem eF(L:List (Int × Bool))(d:Nat)(g:HF):(Ve L).flatMap (Qv (d+1) g)=[]:=List.flatMap_eq_nil_iff.2 fun x hx=>by rcases Ze L x hx with⟨n,rfl⟩|⟨b,rfl⟩<;>rfl
theorem cK(L:List (Int × Bool))(d:Nat)(m:List Nat):Sv.refL (Sv (d+1)) m (Ve L)=some (Ve L,m):=Vy fun x hx=>by rcases Ze L x hx with⟨n,rfl⟩|⟨b,rfl⟩<;>rfl
theorem qV(L:List (Int × Bool))(d:Nat)(f:Nat→Nat):Rn (Si (d+1) f) (Ve L)=some (Ve L):=qO fun x hx=>by rcases Ze L x hx with⟨n,rfl⟩|⟨b,rfl⟩<;>rfl
theorem qE(L:List (Int × Bool))(d:Nat):(Ve L).any (hasImm (d+1))=false:=List.any_eq_false.2 fun x hx=>by rcases Ze L x hx with⟨n,rfl⟩|⟨b,rfl⟩<;>simp[hasImm]
def bP(w:Rf)(N:Nat)(L:List (Int × Bool)):Nat:=oI (rK w (tgt L)) N w.parts.length
theorem aI{w:Rf}{N:Nat}(hw:WOk w N)(h12:w.parts.length≤12)(d:Int){L:List (Int × Bool)}(hL12:L.length=12)(wf:Bool):
 Vf.call (.fn 43) [.ptr 0 0 0,.agg (Ve L)] [.live 4 false wf [[.int .i64 w.rooms,.int .i64 w.need,Ux 9 true w.nn (w.parts.map Px.cells),.int .i64 d]]]=some (.ret (.int .i64 (bP w N L:Nat)),[.live 4 false wf [[.int .i64 w.rooms,.int .i64 w.need,Ux 9 true w.nn (w.parts.map Px.cells),.int .i64 d]]]):=by
 have n2:=hw.n2
 have n8:=hw.n8
 obtain⟨o,h',hc,f,ds,rfl,rfl,hdl,hR⟩:=rM hw h12 (d:=d) (s:=0) (by omega) hL12 rfl (wf:=false)
 have hne:=amD (len:=w.parts.length) n2 (by omega) (by unfold Wl;omega) (nL hw (tgt L)) hR
 have hf1:=Xi L
 have hf2:=Xg L
 have hpl:(Ve L).length=24:=by rw[Wt];omega
 have hd1:=qR (d:=ds) (a:=1) (by omega)
 have h1N:((1:Int)<(N:Int))=True:=eq_true (by omega)
 have hle:ds.getD 1 0≤1048576:=by
  by_cases e:ds.getD 1 0=Wl
  ·rw[e];exact ag7 _
  ·have:=(dD.num hR hR (by unfold Wl;omega) (by unfold Wl;omega) (by omega) (nL hw (tgt L)) (v:=1) (by omega)).2.2 e
   have:ds.getD 1 0<N:=this
   omega
 have hN1:bP w N L=if ds.getD 1 0=Wl then w.parts.length+1 else ds.getD 1 0:=hne.symm
 rw[hN1]
 have hav:=dA L
 have hlv:=eF L
 have hrf:=cK L
 simp only[Int.natCast_zero]at hc
 generalize Ve L=ps at *
 have htk:ab2 24 ps=ps:=ag6 (by omega)
 generalize ds.getD 1 0=x at *
 generalize ds.map Yx=rows at *
 have hwr:IntKind.i64.wrap ((w.parts.length:Int)+1)=((w.parts.length+1:Nat):Int):=by have:=cO (n:=((w.parts.length+1:Nat):Int)) (by omega) (by omega);simpa using this
 by_cases e:x=Wl
 ·have e1:((x:Int)==1048576)=true:=by rw[e];rfl
  rw[if_pos e]
  refine ce Tryd.func43 ?_
  simp only[Tryd.f43]
  (have hb:=trivial;with_reducible repeat' (first|simp only[hb,Vc.down,seval,aQN.down,hpl,hf1,hf2,htk,hav,hlv,hrf,hc,hd1,h1N,e1,hwr,ahC]|refine Rj ?_ ?_<;>intro hb|refine fd ?_|fail))
 ·have e1:((x:Int)==1048576)=false:=by simp;exact fun h=>e (by unfold Wl;omega)
  rw[if_neg e]
  refine ce Tryd.func43 ?_
  simp only[Tryd.f43]
  (have hb:=trivial;with_reducible repeat' (first|simp only[hb,Vc.down,seval,aQN.down,hpl,hf1,hf2,htk,hav,hlv,hrf,hc,hd1,h1N,e1,ahC]|refine Rj ?_ ?_<;>intro hb|refine fd ?_|fail))
theorem fX{w:Rf}{d:Int}(h12:w.parts.length≤12):(Qb w d).length=12:=by simp[Qb];omega
theorem fY{w:Rf}{N:Nat}{d:Int}:bP w N (Qb w d)=jD w N d:=by unfold bP jD;rw[vD]
theorem jH{w:Rf}{N:Nat}(hw:WOk w N)(h12:w.parts.length≤12)(hs:w.small)(d:Int)(hb0:(Xa w&&aN d)=true):Vf.call (.fn 17) [.agg [.int .i64 w.rooms,.int .i64 w.need,Ux 9 true w.nn (w.parts.map Px.cells)],.int .i64 d] []=some (.ret (.tup [.int .i64 (jD w N d:Nat),.int .i64 0]),[]):=by
 have h:=rC w hs d
 rw[hb0]at h
 have hp:=nF w d false h12
 have hn:=aI hw h12 d (fX (d:=d) h12) false
 rw[fY]at hn
 have hf1:=Xi (Qb w d)
 have hf2:=Xg (Qb w d)
 have hav:=dA (Qb w d)
 have hlv:=eF (Qb w d)
 have hrf:=cK (Qb w d)
 have hrn:=qV (Qb w d)
 have hhi:=qE (Qb w d)
 generalize Ve (Qb w d)=ps at *
 (refine ce Tryd.func17 ?_;simp only[Tryd.f17];(have hb:=trivial;with_reducible repeat' (first|simp only[hb,Vc.down,seval,aS8.down,h,hp,hn,hf1,hf2,hav,hlv,hrf,hrn,hhi]|refine Rj ?_ ?_<;>intro hb|refine fd ?_|fail)))
theorem sB{α:Type}{d:List AV→Option α}{f:α→List AV}(hd:∀cs x,d cs=some x→cs=f x):∀{rows:List (List AV)} {l:List α},Rn d rows=some l→rows=l.map f
 | [],l,h=>by simp[Rn]at h;subst h;rfl
 |r::rows,l,h=>by
  simp only[Rn,aN9,ai6]at h
  obtain⟨x,h1,l',h2,rfl⟩:=h
  rw[hd r x h1,sB hd h2];rfl
def dSl{α:Type}(n:Nat)(fl:Bool)(d:List AV→Option α):AV→Option (Bool × List α)
 | .nils=>some (false,[])
 | .imm n' fl' rows=>if n'=n∧fl'=fl then(Rn d rows).map fun l=>(true,l)else none
 |_=>none
theorem anQ{α:Type}{n:Nat}{fl:Bool}{d:List AV→Option α}{f:α→List AV}(hd:∀cs x,d cs=some x→cs=f x){v:AV}{x:Bool × List α}(h:dSl n fl d v=some x):v=Ux n fl x.1 (x.2.map f):=by
 unfold dSl at h
 split at h
 ·cases h;rfl
 ·split at h
  ·rename_i hq
   obtain⟨rfl,rfl⟩:=hq
   obtain⟨l,h1,rfl⟩:=ai6.1 h
   rw[sB hd h1]
   cases l<;>rfl
  ·cases h
 ·cases h
def adZ:List AV→Option Px
 | [.int .i64 a,.int .i64 b,.bool c,.bool d,.int .i64 e,.int .i64 f,.bool g,.int .i64 h,.int .i64 i]=>some ⟨a,b,c,d,e,f,g,h,i⟩
 |_=>none
theorem aeB(cs:List AV)(x:Px)(h:adZ cs=some x):cs=x.cells:=by
 unfold adZ at h
 split at h
 ·cases h;rfl
 ·cases h
def acD:List AV→Option (List (Int × Bool))
 | []=>some []
 | .int .i64 a::.bool b::l=>(acD l).map fun r=>(a,b)::r
 |_=>none
theorem yH:∀(cs:List AV) (x:List (Int × Bool)),acD cs=some x→cs=Ve x
 | [],x,h=>by simp[acD]at h;subst h;rfl
 | .int .i64 a::.bool b::l,x,h=>by
   simp only[acD,ai6]at h
   obtain⟨r,h1,rfl⟩:=h
   rw[yH l r h1];rfl
def aPO:List AV→Pv→Option (Tn × Pv)
 | [.ptr 0 0 0,.agg ps],[.live 4 false wf [[.int .i64 rooms,.int .i64 need,sl,.int .i64 d]]]=>
   (dSl 9 true adZ sl).bind fun x=>(acD ps).bind fun L=>if(Xa ⟨rooms,need,x.1,x.2⟩&&decide (L.length=12))=true then
     some (.ret (.int .i64 (bP ⟨rooms,need,x.1,x.2⟩ rooms.toNat L:Nat)),[.live 4 false wf [[.int .i64 rooms,.int .i64 need,sl,.int .i64 d]]])else none
 |_,_=>none
def pr2:Yv:=⟨fun f=>if f=43 then some aPO else pr f,pr.md⟩
theorem aRY(f:Nat)(h:pr2 f=none):pr f=none:=by
 simp only[pr2]at h
 split at h
 ·cases h
 ·exact h
theorem amY:∀f p,pr2 f=some p→∀a h r,p a h=some r→Vf.call (.fn f) a h=some r:=by
 intro f p hp a h r hr
 simp only[pr2]at hp
 split at hp
 ·rename_i hf
  subst hf
  cases hp
  unfold aPO at hr
  split at hr
  ·rename_i ps wf rooms need sl d
   simp only[aN9]at hr
   obtain⟨x,h1,L,h2,h3⟩:=hr
   split at h3
   ·rename_i hs
    simp only[Bool.and_eq_true,decide_eq_true_eq]at hs
    cases h3
    obtain⟨N,hw,h12⟩:=lI hs.1
    have hN:rooms.toNat=N:=by have:=hw.rooms;simp only at this;omega
    rw[anQ aeB h1,yH _ _ h2,hN]
    exact aI hw h12 d hs.2 wf
   ·cases h3
  ·cases hr
 ·exact xX hp hr
theorem abA:(bJ Tryd.prog pr2 100).call (.fn 10) [] []=some (.ret (.bool true),[]):=by kernel_rfl
theorem agR:Vf.call (.fn 10) [] []=some (.ret (.bool true),[]):=sU (pr:=pr) (pr2:=pr2) rfl aRY amY abA
def wU(w:Rf):Bool:=decide ((w.parts.length:Int)≤15)
theorem ajQ(w:Rf):Vf.call (.fn 9) [.agg [.int .i64 w.rooms,.int .i64 w.need,Ux 9 true w.nn (w.parts.map Px.cells)]] []=some (.ret (.bool (wU w)),[]):=by
 cases c:wU w
 ·have h:decide ((w.parts.length:Int)≤15)=false:=c
  (refine ce Tryd.func9 ?_;simp only[Tryd.f9];(have hb:=trivial;with_reducible repeat' (first|simp only[hb,Va.down,seval,TY9.down,h,ahC]|refine Rj ?_ ?_<;>intro hb|refine fd ?_|fail)))
 ·have h:decide ((w.parts.length:Int)≤15)=true:=c
  (refine ce Tryd.func9 ?_;simp only[Tryd.f9];(have hb:=trivial;with_reducible repeat' (first|simp only[hb,Va.down,seval,TY9.down,h,ahC]|refine Rj ?_ ?_<;>intro hb|refine fd ?_|fail)))
theorem sN:∀(L:List (Int × Bool)) (i:Nat) (a:Int) (b:Bool),i<L.length→ab2 (i*2) (Ve L)++(.int .i64 a::.bool b::akQ (i*2+2) (Ve L))=Ve (L.set i (a,b))
 | [],i,a,b,h=>by simp at h
 |x::L,0,a,b,h=>by simp[Ve]
 |x::L,i+1,a,b,h=>by
  have ih:=sN L i a b (by simpa using h)
  rw[show(i+1)*2=(i*2)+1+1 by omega,show(i*2)+1+1+2=(i*2+2)+1+1 by omega]
  simp only[Ve,ayD,alS,ahA,List.take_succ_cons,aFK,List.set_cons_succ]at ih ⊢
  rw[←ih]
theorem mA(L:List (Int × Bool))(d:Nat):(Ve L).all (Rb (d+1))=true:=ahJ.2 fun x hx=>by rcases Ze L x hx with⟨n,rfl⟩|⟨b,rfl⟩<;>rfl
def Zg(k:Int)(b:Bool)(x:Int × Bool):Int × Bool:=if k=1 then(x.1,true)else if k=2 then(x.1,false)else if k=3 then(if b=true then(0,x.2)else(2,x.2))else(0,x.2)
theorem ae3(c:Int)(o b:Bool):Vf.call (.fn 95) [.agg [.int .i64 c,.bool o],.bool b] []=some (.ret (.agg [.int .i64 c,.bool true]),[]):=by
 (refine ce Tryd.func95 ?_;simp only[Tryd.f95];(have hb:=trivial;with_reducible repeat' (first|simp only[hb,Vc.down,seval,aT1.down]|refine Rj ?_ ?_<;>intro hb|refine fd ?_|fail)))
theorem agA(c:Int)(o b:Bool):Vf.call (.fn 96) [.agg [.int .i64 c,.bool o],.bool b] []=some (.ret (.agg [.int .i64 c,.bool false]),[]):=by
 (refine ce Tryd.func96 ?_;simp only[Tryd.f96];(have hb:=trivial;with_reducible repeat' (first|simp only[hb,Vc.down,seval,aTE.down]|refine Rj ?_ ?_<;>intro hb|refine fd ?_|fail)))
theorem agK(c:Int)(o b:Bool):Vf.call (.fn 97) [.agg [.int .i64 c,.bool o],.bool b] []=some (.ret (.agg [.int .i64 (if b=true then 0 else 2),.bool o]),[]):=by
 cases b<;>(refine ce Tryd.func97 ?_;simp only[Tryd.f97];(have hb:=trivial;with_reducible repeat' (first|simp only[hb,Vc.down,seval,aTB.down]|refine Rj ?_ ?_<;>intro hb|refine fd ?_|fail)))
theorem zG(c:Int)(o b:Bool):Vf.call (.fn 98) [.agg [.int .i64 c,.bool o],.bool b] []=some (.ret (.agg [.int .i64 0,.bool o]),[]):=by
 (refine ce Tryd.func98 ?_;simp only[Tryd.f98];(have hb:=trivial;with_reducible repeat' (first|simp only[hb,Vc.down,seval,aTH.down]|refine Rj ?_ ?_<;>intro hb|refine fd ?_|fail)))
def oH:CB:=.lp [] .skip .skip [.int .i64 1,.func (.func 95) [] [],.int .i64 2,.func (.func 96) [] [],.int .i64 3,.func (.func 97) [] [],.int .i64 4,.func (.func 98) [] []] .map
theorem pZ:Vf.call (.fn 84) [] []=some (.ret (.mapr 0),[oH]):=by
 exact sU (pr:=pr) (pr2:=pr) (n:=10) rfl (fun f hf=>hf) (fun f p hp a h r hr=>xX hp hr) (by kernel_rfl)
def fnD(k:Int):Nat:=if k=1 then 95 else if k=2 then 96 else if k=3 then 97 else 98
theorem ajK{h:Pv}{b:Nat}(hb:h[b]?=some oH){k:Int}(hk:k=1∨k=2∨k=3∨k=4):lk Tryd.prog h 129 (some (.mapr b)) (some (.int .i64 k)) false=some (.ret (.func (.func (fnD k)) [] []),[]):=by
 have key:∀k:Int,k=1∨k=2∨k=3∨k=4→(Vu Tryd.prog (fun _=>some oH) 129 (.mapr 0) (.int .i64 k) false).map (fun d=>(d.v,d.es))=some (.func (.func (fnD k)) [] [],[]):=fun k hk=>by
  rcases hk with rfl|rfl|rfl|rfl<;>kernel_rfl
 have e:(Vu Tryd.prog (hf h) 129 (.mapr b) (.int .i64 k) false).map (fun d=>(d.v,d.es))=(Vu Tryd.prog (fun _=>some oH) 129 (.mapr 0) (.int .i64 k) false).map (fun d=>(d.v,d.es)):=by
  unfold Vu
  simp only[Tryd.underlying129]
  have hm:bX (hf h) b=bX (fun _=>some oH) 0:=by simp only[bX,hf,hb]
  simp only[hm]
  split
  ·generalize bX (fun _=>some oH) 0=m
   cases m with
   |none=>rfl
   |some kvs=>
    simp only[al6]
    generalize gP _ _ _ kvs 0=r
    cases r with
    |none=>rfl
    |some r=>
     simp only[al6]
     generalize Wc _ _=z
     cases z<;>rfl
  ·rfl
 rw[key k hk]at e
 simp only[lk,al6]
 obtain⟨d,hd,h2⟩:=ai6.1 e
 rw[hd]
 simp only[Prod.mk.injEq]at h2
 obtain⟨v,es,fs⟩:=d
 obtain⟨rfl,rfl⟩:=h2
 rfl
theorem ajI{L:List (Int × Bool)}(hL:L.length=12){i:Nat}{x:Int × Bool}(hx:L[i]?=some x){k:Int}(hk:k=1∨k=2∨k=3∨k=4)(b:Bool):
 Vf.call (.fn 67) [.agg (Ve L),.agg [.int .i64 k,.int .i64 (i:Int)],.bool b] []=some (.ret (.agg (Ve (L.set i (Zg k b x)))),[]):=by
 have hi:i<L.length:=(ahE.1 hx).1
 have hpl:(Ve L).length=24:=by rw[Wt];omega
 have hf1:=Xi L
 have hf2:=Xg L
 have htk:=nM _ _ _ _ hx
 have hst:=fun a b=>sN L i a b hi
 have hpl2:∀a b,(Ve (L.set i (a,b))).length=24:=fun a b=>by rw[Wt];simp;omega
 have hfl2:=fun a b=>Xi (L.set i (a,b))
 have hce2:=fun a b=>Xg (L.set i (a,b))
 have hrf2:=fun a b=>cK (L.set i (a,b))
 have hpv2:=fun a b=>mA (L.set i (a,b))
 have i12:((i:Int)<12)=True:=eq_true (by omega)
 have hp24:(i*2+2≤24)=True:=eq_true (by omega)
 have htk24:ab2 24 (Ve L)=Ve L:=ag6 (by omega)
 have htk2:∀a b,ab2 (24-i*2) [AV.int .i64 a,AV.bool b]=[AV.int .i64 a,AV.bool b]:=fun a b=>ag6 (by simp;omega)
 have htk3:∀a b,ab2 24 (Ve (L.set i (a,b)))=Ve (L.set i (a,b)):=fun a b=>ag6 (by rw[hpl2];omega)
 obtain⟨a,o⟩:=x
 have hrm:∀f,Wy f oH=some oH:=fun f=>rfl
 have him:oH.hasImm=false:=rfl
 have rv:∀(f:Nat→Nat) (b:Nat),Si 8 f (.mapr b)=some (.mapr (f b)):=fun _ _=>rfl
 have hlk:=fun(h:Pv) (b':Nat) (hb':h[b']?=some oH)=>ajK hb' hk
 have q1:=ae3 a o b
 have q2:=agA a o b
 have q3:=agK a o b
 have q4:=zG a o b
 rcases hk with rfl|rfl|rfl|rfl
 ·rw[show fnD 1=95 from rfl]at hlk
  rw[show Zg 1 b (a,o)=(a,true)from rfl]
  refine ce Tryd.func67 ?_
  simp only[Tryd.f67]
  (have hb:=trivial;with_reducible repeat' (first|simp only[hb,Vc.down,seval,aiG.down,hpl,hf1,hf2,htk,pZ,i12,hp24,hrm,him,rv,hlk,q1,Us,hst,hpl2,hfl2,hce2,hrf2,htk24,htk2,htk3,hpv2]|refine Rj ?_ ?_<;>intro hb|refine fd ?_|fail))
 ·rw[show fnD 2=96 from rfl]at hlk
  rw[show Zg 2 b (a,o)=(a,false)from rfl]
  refine ce Tryd.func67 ?_
  simp only[Tryd.f67]
  (have hb:=trivial;with_reducible repeat' (first|simp only[hb,Vc.down,seval,aiG.down,hpl,hf1,hf2,htk,pZ,i12,hp24,hrm,him,rv,hlk,q2,Us,hst,hpl2,hfl2,hce2,hrf2,htk24,htk2,htk3,hpv2]|refine Rj ?_ ?_<;>intro hb|refine fd ?_|fail))
 ·rw[show fnD 3=97 from rfl]at hlk
  rw[show Zg 3 b (a,o)=(if b=true then(0,o)else(2,o))from rfl]
  rw[show(if b=true then((0:Int),o)else(2,o))=((if b=true then 0 else 2),o) by cases b<;>rfl]
  refine ce Tryd.func67 ?_
  simp only[Tryd.f67]
  (have hb:=trivial;with_reducible repeat' (first|simp only[hb,Vc.down,seval,aiG.down,hpl,hf1,hf2,htk,pZ,i12,hp24,hrm,him,rv,hlk,q3,Us,hst,hpl2,hfl2,hce2,hrf2,htk24,htk2,htk3,hpv2]|refine Rj ?_ ?_<;>intro hb|refine fd ?_|fail))
 ·rw[show fnD 4=98 from rfl]at hlk
  rw[show Zg 4 b (a,o)=(0,o)from rfl]
  refine ce Tryd.func67 ?_
  simp only[Tryd.f67]
  (have hb:=trivial;with_reducible repeat' (first|simp only[hb,Vc.down,seval,aiG.down,hpl,hf1,hf2,htk,pZ,i12,hp24,hrm,him,rv,hlk,q4,Us,hst,hpl2,hfl2,hce2,hrf2,htk24,htk2,htk3,hpv2]|refine Rj ?_ ?_<;>intro hb|refine fd ?_|fail))
def uB(p:Px)(x:Int × Bool)(k:Int):Bool:=if k=1 then p.valve&& !x.2 else if k=2 then p.valve&&x.2 else if k=3 then !x.2&&x.1==1 else !x.2
theorem aQJ(p:Px)(x:Int × Bool){k:Int}(hk:k=1∨k=2∨k=3∨k=4):Vf.call (.fn 49) [.agg p.cells,.agg [.int .i64 x.1,.bool x.2],.int .i64 k] []=some (.ret (.bool (uB p x k)),[]):=by
 obtain⟨a,o⟩:=x
 obtain⟨p1,p2,p3,p4,p5,p6,p7,p8,p9⟩:=p
 simp only[Px.cells]
 rcases hk with rfl|rfl|rfl|rfl
 ·cases p3<;>cases o<;>(refine ce Tryd.func49 ?_;simp only[Tryd.f49];(have hb:=trivial;with_reducible repeat' (first|simp only[hb,Vc.down,seval,akO.down]|refine Rj ?_ ?_<;>intro hb|refine fd ?_|fail)))
  all_goals rfl
 ·cases p3<;>cases o<;>(refine ce Tryd.func49 ?_;simp only[Tryd.f49];(have hb:=trivial;with_reducible repeat' (first|simp only[hb,Vc.down,seval,akO.down]|refine Rj ?_ ?_<;>intro hb|refine fd ?_|fail)))
  all_goals rfl
 ·cases o<;>cases h:(a==1)<;>(refine ce Tryd.func49 ?_;simp only[Tryd.f49];(have hb:=trivial;with_reducible repeat' (first|simp only[hb,Vc.down,seval,akO.down,h]|refine Rj ?_ ?_<;>intro hb|refine fd ?_|fail)))
  all_goals (simp only[uB,h];rfl)
 ·cases o<;>(refine ce Tryd.func49 ?_;simp only[Tryd.f49];(have hb:=trivial;with_reducible repeat' (first|simp only[hb,Vc.down,seval,akO.down]|refine Rj ?_ ?_<;>intro hb|refine fd ?_|fail)))
  all_goals rfl
theorem ah9(p:Px){k:Int}(hk:k=1∨k=2∨k=3∨k=4):Vf.call (.fn 52) [.agg p.cells,.int .i64 k] []=some (.ret (.int .i64 (if k=3 then p.test else if k=4 then p.change else 1)),[]):=by
 simp only[Px.cells]
 rcases hk with rfl|rfl|rfl|rfl<;>(refine ce Tryd.func52 ?_;simp only[Tryd.f52];(have hb:=trivial;with_reducible repeat' (first|simp only[hb,Vc.down,seval,aS5.down]|refine Rj ?_ ?_<;>intro hb|refine fd ?_|fail)))
 all_goals rfl
def Vl(w:Rf)(N:Nat)(L:List (Int × Bool)):Int:=if(bP w N L:Int)<w.need then(bP w N L:Int)else w.need
def eB(w:Rf)(N:Nat)(L:List (Int × Bool))(k:Int)(i:Nat)(b:Bool)(x:Int × Bool):Bool:=
 (!(k==4)|| !decide ((bP w N (L.set i (2,x.2)):Int)<Vl w N L))&&decide ((bP w N (L.set i (Zg k b x)):Int)≥Vl w N L)
theorem aNB{w:Rf}{N:Nat}(hw:WOk w N)(h12:w.parts.length≤12)(d:Int){L:List (Int × Bool)}(hL:L.length=12){i:Nat}{x:Int × Bool}(hx:L[i]?=some x){k:Int}(hk:k=1∨k=2∨k=3∨k=4)(b:Bool)(wf:Bool):
 Vf.call (.fn 50) [.ptr 0 0 0,.agg (Ve L),.agg [.int .i64 k,.int .i64 (i:Int)],.bool b] [.live 4 false wf [[.int .i64 w.rooms,.int .i64 w.need,Ux 9 true w.nn (w.parts.map Px.cells),.int .i64 d]]]=some (.ret (.bool (eB w N L k i b x)),[.live 4 false wf [[.int .i64 w.rooms,.int .i64 w.need,Ux 9 true w.nn (w.parts.map Px.cells),.int .i64 d]]]):=by
 have hi:i<L.length:=(ahE.1 hx).1
 have hn0:=aI hw h12 d hL false
 have hn1:=aI hw h12 d (L:=L.set i (2,x.2)) (by simpa using hL) false
 have hn2:=aI hw h12 d (L:=L.set i (Zg k b x)) (by simpa using hL) false
 have ha:=ajI hL hx hk b
 have hlb:Vl w N L=if(bP w N L:Int)<w.need then(bP w N L:Int)else w.need:=rfl
 have hsf:eB w N L k i b x=((!(k==4)|| !decide ((bP w N (L.set i (2,x.2)):Int)<Vl w N L))&&decide ((bP w N (L.set i (Zg k b x)):Int)≥Vl w N L)):=rfl
 rw[hsf]
 have hmn:jW (.int .i64 w.need) (.int .i64 (bP w N L:Nat))=some (.int .i64 (Vl w N L)):=rfl
 generalize Vl w N L=lb at *
 generalize(bP w N L:Nat)=n0 at *
 generalize(bP w N (L.set i (2,x.2)):Nat)=n1 at *
 generalize(bP w N (L.set i (Zg k b x)):Nat)=n2 at *
 have f0:=Xi L
 have c0:=Xg L
 have v0:=dA L
 have l0:=eF L
 have r0:=cK L
 have p0:=mA L
 have hpl:(Ve L).length=24:=by rw[Wt];omega
 have htk:=ag6 (l:=Ve L) (i:=24) (by omega)
 have f2:=Xi (L.set i (Zg k b x))
 have c2:=Xg (L.set i (Zg k b x))
 have v2:=dA (L.set i (Zg k b x))
 have l2:=eF (L.set i (Zg k b x))
 have r2:=cK (L.set i (Zg k b x))
 have p2:=mA (L.set i (Zg k b x))
 have n2':=qV (L.set i (Zg k b x))
 have i2:=qE (L.set i (Zg k b x))
 generalize Ve (L.set i (Zg k b x))=ps2 at *
 have i12:((i:Int)<12)=True:=eq_true (by omega)
 have hpz:(i*2≤23)=True:=eq_true (by omega)
 have hs1:=gA L i x.1 2 x.2 hx
 have ht1:ab2 (24-i*2) [AV.int .i64 2]=[AV.int .i64 2]:=ag6 (by simp;omega)
 have f1:=Xi (L.set i (2,x.2))
 have c1:=Xg (L.set i (2,x.2))
 have v1:=dA (L.set i (2,x.2))
 have l1:=eF (L.set i (2,x.2))
 have r1:=cK (L.set i (2,x.2))
 have hpl1:(Ve (L.set i (2,x.2))).length=24:=by rw[Wt];simp;omega
 have htk1:=ag6 (l:=Ve (L.set i (2,x.2))) (i:=24) (by omega)
 simp only[alS,ahA]at hs1
 generalize Ve (L.set i (2,x.2))=ps1 at *
 generalize Ve L=ps at *
 refine ce Tryd.func50 ?_
 simp only[Tryd.f50]
 rw[hlb]
 cases q4:(k==4)
 ·cases q2:decide ((n2:Int)≥if(n0:Int)<w.need then(n0:Int)else w.need)
  all_goals (have hb:=trivial;with_reducible repeat' (first|simp only[hb,Vc.down,seval,aoU.down,q4,hn0,hn2,ha,hmn,f0,c0,v0,l0,r0,p0,hpl,htk,f2,c2,v2,l2,r2,p2,n2',i2]|refine Rj ?_ ?_<;>intro hb|refine fd ?_|fail))
  all_goals simp only[ge_iff_le]at q2
  all_goals rw[q2]
 ·cases q1:decide ((n1:Int)<if(n0:Int)<w.need then(n0:Int)else w.need)
  ·cases q2:decide ((n2:Int)≥if(n0:Int)<w.need then(n0:Int)else w.need)
   all_goals (have hb:=trivial;with_reducible repeat' (first|simp only[hb,Vc.down,seval,aoU.down,q1,q4,hn0,hn1,hn2,ha,hmn,f0,c0,v0,l0,r0,p0,hpl,htk,f1,c1,v1,l1,r1,hpl1,htk1,f2,c2,v2,l2,r2,p2,n2',i2,Us,i12,hpz,hs1,ht1]|refine Rj ?_ ?_<;>intro hb|refine fd ?_|fail))
   all_goals simp only[ge_iff_le]at q2
   all_goals rw[q2]
  ·(have hb:=trivial;with_reducible repeat' (first|simp only[hb,Vc.down,seval,aoU.down,q1,q4,hn0,hn1,hn2,ha,hmn,f0,c0,v0,l0,r0,p0,hpl,htk,f1,c1,v1,l1,r1,hpl1,htk1,f2,c2,v2,l2,r2,p2,n2',i2,Us,i12,hpz,hs1,ht1]|refine Rj ?_ ?_<;>intro hb|refine fd ?_|fail))
end Go.Proofs.YtckfcfcmfjfchaaDoor
