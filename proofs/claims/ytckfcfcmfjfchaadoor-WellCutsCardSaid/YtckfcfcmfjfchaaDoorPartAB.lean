/- The functions of the layer, walked. -/
import Derived.Test.YtckfcfcmfjfchaaDoorPartAA
import Derived.Test.YtckfcfcmfjfchaaDoorLibE
import Derived.Test.YtckfcfcmfjfchaaDoorLibD
open List renaming replicate→aaI,getElem?_set_ne→abN,mem_cons→abO,length_map→abP,getElem?_eq_getElem→abQ,mem_cons_self→abR,getElem?_append_right→abS,not_mem_nil→abT,getElem?_set_self→abV,all_eq_true→abY,getElem?_map→ab7,length_replicate→aeJ,range→afE,mem_cons_of_mem→afG,getElem?_append_left→af8,map_append→af9,take→agB,nil_append→agF,getElem?_eq_some_iff→agG,map_set→agX,mem_of_getElem?→ah1,all_cons→aiN,ext_getElem?→aj9,replicate_succ→akA,mem_flatMap→akP,getElem?_replicate→akR,mem_append→akZ,range_succ→ak3
open Nat renaming le_refl→abU,sub_self→agS,add_sub_cancel_left→akS
open Int renaming lt_irrefl→agQ,ofNat→ajK,toNat_natCast→akQ
open Option renaming map_eq_some_iff→ajA,bind_eq_some_iff→akT
set_option linter.unusedSimpArgs false
set_option linter.unusedVariables false
namespace Go.Proofs.YtckfcfcmfjfchaaDoor
open Go.Ev Go Go.Ev.Net
set_option maxRecDepth 100000
set_option maxHeartbeats 16000000
theorem QS.cln{v:AV}{q:List Nat}{H:Aa}{p:Nat}(h:QS v q H p):QS v q (Eb H) p:=by
 rcases h with h|⟨b,w,rows,r,h1,h2,h3,h4,h5⟩
 ·exact .inl h
 ·exact .inr ⟨b,false,rows,r,h1,Bj h2,h3,h4,h5⟩
theorem QS.lt{v:AV}{q:List Nat}{H:Aa}{p:Nat}(h:QS v q H p):∀b∈Dq v,b<H.length∧∃w rows,H[b]?=some (.live 1 true w rows):=by
 rcases h with⟨rfl,_⟩|⟨b,w,rows,r,rfl,h2,_⟩
 ·intro b hb1;simp[Dq]at hb1
 ·intro b' hb1;simp[Dq]at hb1;subst hb1;exact⟨Ac h2,w,rows,h2⟩
theorem agC{h:Aa}(hq:An h=true){p:Nat}{fl w:Bool}{v:AV}{q:List Nat}(x:Nat)(hp:h[p]?=some (.live 1 fl w [[v]]))(hQ:QS v q h p)(hl:q.length≤100000000):
 ∃es M,cl Fq h (some (.func (.func 56) [] [])) (some [.ptr p 0 0,.int .i64 (x:Int)])=some (.ret (.tup []),es)∧Ax h es=M∧h.length≤M.length∧An M=true∧(∃v' fl',M[p]?=some (.live 1 fl' true [[v']])∧QS v' (q++[x]) M p∧∀b∈Dq v',h.length≤b)∧(∀b c,b∉p::Dq v→h[b]?=some c→M[b]?=some c)∧∀b∈Dq v,M[b]?=some .dead:=by
 have hX:∀G:Aa,(∃f row,G[p]?=some (.live 1 f true row))→(∀b∈Dq v,G[b]?=some .dead)→∀b∈p::Dq v,b<h.length∧∀c0 c,h[b]?=some c0→G[b]?=some c→c0.isLive=true∧c0.quiet c=false:=fun G g1 g2 b hb1=>by
  rcases abO.1 hb1 with rfl|hb1
  ·obtain⟨f,row,g1⟩:=g1
   refine⟨Ac hp,fun c0 c k1 k2=>?_⟩
   rw[hp]at k1;rw[g1]at k2;cases k1;cases k2;exact⟨rfl,rfl⟩
  ·obtain⟨h1,w',rows,h2⟩:=hQ.lt b hb1
   refine⟨h1,fun c0 c k1 k2=>?_⟩
   rw[h2]at k1;rw[g2 b hb1]at k2;cases k1;cases k2;exact⟨rfl,rfl⟩
 obtain⟨o,G,es,e1,e2,rfl,v',fl',k1,k2,K,k4,k5,k6⟩:=gZ rfl rfl (abI x (Bj hp) hQ.cln hl) (fun o G hQ=>by
  obtain⟨_,v',fl',k1,k2,K,k4,_⟩:=hQ
  exact(Ho hq K (hX G ⟨_,_,k1⟩ k4)).1)
 have X:=hX G ⟨_,_,k1⟩ k4
 obtain⟨_,m1,m2,m3,m4⟩:=Ho hq K X
 rw[As]at k6
 have hle:h.length≤G.length:=by have:=K.len;rwa[As]at this
 refine⟨es,_,e1,e2,by rw[m1];exact hle,Sr hq K X (k5 (Fh hq)),⟨v',fl',m4 p (abR ..) _ k1,?_,k6⟩,fun b c hn hc=>by rw[m3 b (Ac hc) hn];exact hc,fun b hb=>m4 b (afG _ hb) _ (k4 b hb)⟩
 rcases k2 with h1|⟨b,w',rows,r,h1,h2,h3,h4,h5⟩
 ·exact .inl h1
 ·exact .inr ⟨b,w',rows,r,h1,by rw[m2 b (k6 b (by rw[h1];simp[Dq]))];exact h2,h3,h4,h5⟩
theorem pS{h:Aa}{p:Nat}{fl w:Bool}{v:AV}(hp:h[p]?=some (.live 1 fl w [[v]]))(G:Aa)(g1:∃f row,G[p]?=some (.live 1 f true row)):∀b∈[p],b<h.length∧∀c0 c,h[b]?=some c0→G[b]?=some c→c0.isLive=true∧c0.quiet c=false:=fun b hb1=>by
 simp at hb1;subst hb1
 obtain⟨f,row,g1⟩:=g1
 refine⟨Ac hp,fun c0 c k1 k2=>?_⟩
 rw[hp]at k1;rw[g1]at k2;cases k1;cases k2;exact⟨rfl,rfl⟩
theorem anG{h:Aa}(hq:An h=true){p:Nat}{fl w:Bool}{v:AV}{q:List Nat}(x:Nat)(hp:h[p]?=some (.live 1 fl w [[v]]))(hQ:QS v q h p)(hl:q.length≤100000000):
 ∃es M,cl Fq h (some (.func (.func 60) [] [])) (some [.ptr p 0 0,.int .i64 (x:Int)])=some (.ret (.tup []),es)∧Ax h es=M∧h.length≤M.length∧An M=true∧(∃v' fl',M[p]?=some (.live 1 fl' true [[v']])∧QS v' (x::q) M p∧∀b∈Dq v',h.length≤b)∧∀b c,b≠p→h[b]?=some c→M[b]?=some c:=by
 obtain⟨o,G,es,e1,e2,rfl,v',fl',k1,k2,K,k5,k6⟩:=gZ rfl rfl (adB x (Bj hp) hQ.cln hl) (fun o G hQ=>by
  obtain⟨_,v',fl',k1,k2,K,_⟩:=hQ
  exact(Ho hq K (pS hp G ⟨_,_,k1⟩)).1)
 have X:=pS hp G ⟨_,_,k1⟩
 obtain⟨_,m1,m2,m3,m4⟩:=Ho hq K X
 rw[As]at k6
 have hle:h.length≤G.length:=by have:=K.len;rwa[As]at this
 refine⟨es,_,e1,e2,by rw[m1];exact hle,Sr hq K X (k5 (Fh hq)),⟨v',fl',m4 p (abR ..) _ k1,?_,k6⟩,fun b c hn hc=>by rw[m3 b (Ac hc) (by simpa using hn)];exact hc⟩
 rcases k2 with h1|⟨b,w',rows,r,h1,h2,h3,h4,h5⟩
 ·exact .inl h1
 ·exact .inr ⟨b,w',rows,r,h1,by rw[m2 b (k6 b (by rw[h1];simp[Dq]))];exact h2,h3,h4,h5⟩
theorem am5{h:Aa}(hq:An h=true){p:Nat}{fl w:Bool}{v:AV}(hp:h[p]?=some (.live 1 fl w [[v]]))(hQ:QS v [] h p):
 cl Fq h (some (.func (.func 57) [] [])) (some [.ptr p 0 0])=some (.ret (.tup [.int .i64 0,.bool false]),[]):=
 ab3 rfl rfl (afR (Bj hp) hQ.cln) hq
theorem agA{h:Aa}(hq:An h=true){p:Nat}{fl w:Bool}{v:AV}{x:Nat}{q:List Nat}(hp:h[p]?=some (.live 1 fl w [[v]]))(hQ:QS v (x::q) h p)(hl:q.length≤100000000):
 ∃es M,cl Fq h (some (.func (.func 57) [] [])) (some [.ptr p 0 0])=some (.ret (.tup [.int .i64 (x:Int),.bool true]),es)∧Ax h es=M∧h.length≤M.length∧An M=true∧(∃v' fl',M[p]?=some (.live 1 fl' true [[v']])∧QS v' q M p∧Dq v'=Dq v)∧∀b c,b≠p→h[b]?=some c→M[b]?=some c:=by
 obtain⟨o,G,es,e1,e2,rfl,v',fl',k1,k2,K,k4,k5⟩:=gZ rfl rfl (adX (Bj hp) hQ.cln hl) (fun o G hQ=>by
  obtain⟨_,v',fl',k1,k2,K,_⟩:=hQ
  exact(Ho hq K (pS hp G ⟨_,_,k1⟩)).1)
 have X:=pS hp G ⟨_,_,k1⟩
 obtain⟨_,m1,m2,m3,m4⟩:=Ho hq K X
 have hle:h.length≤G.length:=by have:=K.len;rwa[As]at this
 have same:∀b c,b≠p→h[b]?=some c→(Gg h G)[b]?=some c:=fun b c hn hc=>by rw[m3 b (Ac hc) (by simpa using hn)];exact hc
 refine⟨es,_,e1,e2,by rw[m1];exact hle,Sr hq K X (k5 (Fh hq)),⟨v',fl',m4 p (abR ..) _ k1,?_,k4⟩,same⟩
 rcases k2 with h1|⟨b,w',rows,r,h1,h2,h3,h4,h5⟩
 ·exact .inl h1
 ·have hbv:b∈Dq v:=by rw[←k4,h1];simp[Dq]
  obtain⟨_,w0,rows0,hh⟩:=hQ.lt b hbv
  have hr:(hf (Gg h G) b).bind Aw=(hf G b).bind Aw:=uQ hq K X b
  have hM:=same b _ h3 hh
  have e3:rows0=rows:=by
   have a1:((Gg h G)[b]?).bind Aw=(G[b]?).bind Aw:=hr
   rw[hM,h2]at a1
   simp[Aw]at a1;exact a1
  subst e3
  exact .inr ⟨b,w0,rows0,r,h1,hM,h3,h4,h5⟩
theorem lN{vs:List AV}{b:Nat}{h:Aa}{ps:List Nat}{asg body:Code}{tm:List AV}{st:Hl}{Q:Cj→Aa→Prop}(hb:h[b]?=some (.lp ps asg body tm st))(hl:ps.length=vs.length)
 (he:RnE b Q (zT Fq Tryd.prog b body (Bm Fq Tryd.prog 5000 asg [] ⟨Kv tm ps vs,h⟩))):RnQ Fq (vs++[.yl b]) h Q:=RnQ.start (pr:=pr) hb hl he
theorem qG{O:Do}{H:Aa}{b:Nat}{vs:List AV}{Q:Cj→Aa→Prop}(K:RnQ O (vs++[.yl b]) (Eb H) Q)(ok:∀o G,Q o G→cT H G):
 ∃o G es,cl O H (some (.yl b)) (some vs)=some (o,es)∧Ax H es=Gg H G∧Q o G:=by
 obtain⟨o,G,hc,hq⟩:=K
 obtain⟨es,e1,e2⟩:=Nk H G [] (ok o G hq)
 refine⟨o,G,es,?_,by simpa using e2,hq⟩
 rw[ao9,hc,Us]
 have e1':Bv 0 H G=some es:=e1
 rw[e1'];rfl
def Dj:Nat:=1048576
def DiH(LK:CB)(e:Bool)(ps:List AV)(N:Nat)(h:Aa)(dd q K:List Nat):Prop:=∃f v fl w,
 h[0]?=some LK∧h[1]?=some (.live 24 true false [ps])∧h[2]?=some (.live 1 true f (dd.map Ez))∧h[3]?=some (.live 1 false e [[.slr 1 2 0 N]])∧h[5]?=some (.live 1 false e [[.ptr 4 0 0]])∧h[4]?=some (.live 1 fl w [[v]])∧QS v q h 4∧(∀b∈Dq v,6≤b∧b∉K)∧An h=true
theorem DiH.app{LK:CB}{e:Bool}{ps:List AV}{N:Nat}{h:Aa}{dd q K:List Nat}(D:DiH LK e ps N h dd q K){L:Aa}(hL:An L=true):DiH LK e ps N (h++L) dd q K:=by
 obtain⟨f,v,fl,w',i0,i1,i2,i3,i5,i4,iQ,iB,iq⟩:=D
 refine⟨f,v,fl,w',Ak i0 L,Ak i1 L,Ak i2 L,Ak i3 L,Ak i5 L,Ak i4 L,?_,iB,Bg iq hL⟩
 rcases iQ with h|⟨b,w',rows,r,h1,h2,h3⟩
 ·exact .inl h
 ·exact .inr ⟨b,w',rows,r,h1,Ak h2 _,h3⟩
def Kq(H G:Aa):Prop:=H.length≤G.length∧∀(b:Nat) (c0 c:CB),H[b]?=some c0→G[b]?=some c→(c0.quiet c=true∧c0.clean=c.clean)∨(c0.isLive=true∧((∃st fl rows,c=.live st fl true rows)∨c=.dead))
theorem Pe{c0 c:CB}(h:c0.isLive=true)(hc:(∃st fl rows,c=.live st fl true rows)∨c=.dead):c0.quiet c=false:=by
 rcases hc with⟨_,_,_,rfl⟩|rfl<;>cases c0<;>first|rfl|(simp[CB.isLive]at h;done)|(simp[CB.quiet,CB.same];done)
theorem Kq.sh{H G:Aa}(k:Kq H G):cT H G:=⟨k.1,fun b c0 c h0 h1=>(k.2 b c0 c h0 h1).imp (fun h=>h.1) (fun h=>h.1)⟩
theorem nG{c0 c1:CB}(h:c0.clean=c1.clean)(h1:c1.isLive=true):c0.isLive=true:=by cases c0<;>cases c1<;>first|rfl|(simp[CB.clean]at h;done)|cases h1
theorem Jb(c:CB):c.clean.clean=c.clean:=by cases c<;>rfl
theorem Kq.app{H G:Aa}(k:Kq H G)(l:Aa):Kq H (G++l):=⟨by simp;have:=k.1;omega,fun b c0 c h0 h1=>k.2 b c0 c h0 (by
 have:=Ac h0
 have:=k.1
 rw[af8 (by omega)]at h1;exact h1)⟩
theorem Kq.cl{H:Aa}(h:An H=true):Kq H (Eb H):=⟨by rw[As];exact abU _,fun b c0 c h0 h1=>by
 rw[Bj h0]at h1;cases h1
 exact .inl ⟨Bl h h0,(Jb c0).symm⟩⟩
theorem Kq.keep{H G:Aa}{X:List Nat}(h:An H=true)(K:Qk X (Eb H) G)(hX:∀b∈X,∃c0 c,H[b]?=some c0∧G[b]?=some c∧c0.isLive=true∧((∃st fl rows,c=.live st fl true rows)∨c=.dead)):Kq H G:=⟨by have:=K.len;rwa[As]at this,fun b c0 c h0 h1=>by
 by_cases hb:b∈X
 ·obtain⟨d0,d,e0,e1,e2⟩:=hX b hb
  rw[h0]at e0;rw[h1]at e1;cases e0;cases e1
  exact .inr e2
 ·rw[K.same b (by rw[As];exact Ac h0) hb,Bj h0]at h1;cases h1
  exact .inl ⟨Bl h h0,(Jb c0).symm⟩⟩
theorem Kq.mrg_clean{H G:Aa}(k:Kq H G){b:Nat}{c:CB}(hc:G[b]?=some c):∃c',(Gg H G)[b]?=some c'∧c'.clean=c.clean:=by
 by_cases hb:b<H.length
 ·have h0:H[b]?=some H[b]:=abQ hb
  rcases k.2 b _ c h0 hc with⟨h1,h2⟩|⟨h1,h2⟩
  ·exact⟨_,Gh h0 hc h1,h2⟩
  ·refine⟨_,Le h0 hc (Pe h1 h2),?_⟩
   rcases h2 with⟨_,_,_,rfl⟩|rfl<;>rfl
 ·exact⟨c,by rw[Zw k.1 (by omega)];exact hc,rfl⟩
theorem Kq.trans{H h' G:Aa}(k:Kq H h')(k':Kq h' G):Kq H (Gg h' G):=by
 refine⟨by rw[Ji k'.1];exact Nat.le_trans k.1 k'.1,fun b c0 c h0 h1=>?_⟩
 have hb:=Ac h0
 have e1:h'[b]?=some (h'[b]'(by have:=k.1;omega)):=abQ _
 have e2:G[b]?=some (G[b]'(by have:=k.1;have:=k'.1;omega)):=abQ _
 generalize h'[b]'(by have:=k.1;omega)=c1 at *
 generalize G[b]'(by have:=k.1;have:=k'.1;omega)=c2 at *
 rcases k'.2 b _ _ e1 e2 with⟨g1,g2⟩|⟨g1,g2⟩
 ·rw[Gh e1 e2 g1]at h1;cases h1
  exact k.2 b _ _ h0 e1
 ·rw[Le e1 e2 (Pe g1 g2)]at h1
  have:c2.mark=c2:=by rcases g2 with⟨_,_,_,rfl⟩|rfl<;>rfl
  rw[this]at h1;cases h1
  refine .inr ⟨?_,g2⟩
  rcases k.2 b _ _ h0 e1 with⟨_,h⟩|⟨h,_⟩
  ·exact nG h g1
  ·exact h
theorem Kq.old{H G:Aa}{b:Nat}{c0 c:CB}(h0:H[b]?=some c0)(h1:G[b]?=some c)(hq:c0.quiet c=true):(Gg H G)[b]?=some c0:=Gh h0 h1 hq
theorem xG{c:CB}{st:Nat}{fl w:Bool}{rows:List (List AV)}(h:c.clean=(CB.live st fl w rows).clean):∃w',c=.live st fl w' rows:=by
 cases c<;>simp[CB.clean]at h
 obtain⟨rfl,rfl,rfl⟩:=h
 exact⟨_,rfl⟩
theorem Kq.live{H G:Aa}(k:Kq H G){b st:Nat}{fl w:Bool}{rows:List (List AV)}(hc:G[b]?=some (.live st fl w rows)):∃w',(Gg H G)[b]?=some (.live st fl w' rows):=by
 obtain⟨c',h1,h2⟩:=k.mrg_clean hc
 obtain⟨w',rfl⟩:=xG h2
 exact⟨w',h1⟩
theorem QS.okw{H G:Aa}(k:Kq H G){v:AV}{q:List Nat}{p:Nat}(h:QS v q G p):QS v q (Gg H G) p:=by
 rcases h with h|⟨b,w,rows,r,h1,h2,h3,h4,h5⟩
 ·exact .inl h
 ·obtain⟨w',h6⟩:=k.live h2
  exact .inr ⟨b,w',rows,r,h1,h6,h3,h4,h5⟩
theorem Kq.quiet{H G:Aa}(k:Kq H G)(h:An H=true)(h':An G=true):An (Gg H G)=true:=by
 refine Ut fun c hc=>?_
 obtain⟨b,hb⟩:=List.getElem?_of_mem hc
 have hbl:=Ac hb
 rw[Ji k.1]at hbl
 have e2:G[b]?=some G[b]:=abQ hbl
 generalize G[b]=c2 at *
 by_cases hl:b<H.length
 ·have e1:H[b]?=some H[b]:=abQ hl
  generalize H[b]=c1 at *
  rcases k.2 b _ _ e1 e2 with⟨g1,g2⟩|⟨g1,g2⟩
  ·rw[Gh e1 e2 g1]at hb;cases hb;exact Bl h e1
  ·rw[Le e1 e2 (Pe g1 g2)]at hb;cases hb;exact bB (Bl h' e2)
 ·rw[Zw k.1 (by omega),e2]at hb;cases hb;exact Bl h' e2
theorem zM{LK:CB}{e:Bool}{ps:List AV}{N:Nat}{h':Aa}{dd q K:List Nat}{f:Bool}{v:AV}{fl w:Bool}(i0:h'[0]?=some LK)(i1:h'[1]?=some (.live 24 true false [ps]))(i2:h'[2]?=some (.live 1 true f (dd.map Ez)))(i3:h'[3]?=some (.live 1 false e [[.slr 1 2 0 N]]))(i5:h'[5]?=some (.live 1 false e [[.ptr 4 0 0]]))(i4:h'[4]?=some (.live 1 fl w [[v]]))(iQ:QS v q h' 4)(iB:∀b∈Dq v,6≤b∧b∉K)(iq:An h'=true)
 {B:Nat} {LP LB:CB} (hB:h'[B]?=some LP) (hBK:B∈K) (hK:∀b∈K,6≤b∧b<h'.length) (hLPc:LP.clean=LP) (hLPq:LP.quiet LP=true) {M:Aa} {Y dd2 q2:List Nat} {v2:AV} {fl2:Bool} (m1:h'.length≤M.length) (m2:An M=true) (m3:M[4]?=some (.live 1 fl2 true [[v2]])) (m4:QS v2 q2 M 4) (m5:∀b∈Dq v2,h'.length≤b)
 (m6:∀b c,b∉Y→(((Eb h').set B LB).set 2 (.live 1 true true (dd2.map Ez)))[b]?=some c→M[b]?=some c) (hY:4∈Y) (hY':∀b∈Y,b=4∨(b∈Dq v∧M[b]?=some .dead)):
 Kq h' (M.set B LP)∧DiH LK e ps N (Gg h' (M.set B LP)) dd2 q2 K∧(∀b∈K,(Gg h' (M.set B LP))[b]?=h'[b]?)∧h'.length≤(Gg h' (M.set B LP)).length:=by
 have hBl:=Ac hB
 have hB6:=(hK B hBK).1
 have h4l:=Ac i4
 have hY6:∀b∈Y,b=4∨(6≤b∧b∉K):=fun b hb1=>(hY' b hb1).imp id (fun h=>iB b h.1)
 have h2Y:2∉Y:=fun h=>by rcases hY6 2 h with h|h<;>omega
 have hKY:∀b∈K,b∉2::Y:=fun b hb1 h=>by
  have:=(hK b hb1).1
  rcases abO.1 h with h|h
  ·omega
  ·rcases hY6 b h with h|h
   ·omega
   ·exact h.2 hb1
 have hg2:M[2]?=some (.live 1 true true (dd2.map Ez)):=m6 2 _ h2Y (abV (by simp[As];omega))
 have hK2:Qk (2::Y) (Eb h') (M.set B LP):=⟨by simpa [As]using m1,fun b hb1 hn=>by
  rw[As]at hb1
  obtain⟨c,hc⟩:∃c,h'[b]?=some c:=⟨_,abQ hb1⟩
  by_cases e:b=B
  ·subst e
   rw[abV (by omega),Bj hB,hLPc]
  ·rw[abN (fun h=>e h.symm)]
   have:=m6 b c.clean (fun h=>hn (afG _ h)) (by
    rw[abN (fun h=>hn (by rw[←h];exact abR ..)),abN (fun h=>e h.symm)];exact Bj hc)
   rw[this,Bj hc]⟩
 have hne:∀b,b≠B→(M.set B LP)[b]?=M[b]?:=fun b h=>abN (fun e=>h e.symm)
 have X:∀b∈2::Y,∃c0 c,h'[b]?=some c0∧(M.set B LP)[b]?=some c∧c0.isLive=true∧((∃st fl rows,c=.live st fl true rows)∨c=.dead):=fun b hb1=>by
  rcases abO.1 hb1 with rfl|hb1
  ·exact⟨_,_,i2,by rw[hne 2 (by omega)];exact hg2,rfl,.inl ⟨_,_,_,rfl⟩⟩
  ·rcases hY' b hb1 with rfl|⟨h1,h2⟩
   ·exact⟨_,_,i4,by rw[hne 4 (by omega)];exact m3,rfl,.inl ⟨_,_,_,rfl⟩⟩
   ·obtain⟨h3,w',rows,h5⟩:=iQ.lt b h1
    exact⟨_,_,h5,by rw[hne b (fun e=>(iB b h1).2 (e▸hBK))];exact h2,rfl,.inr rfl⟩
 have ok:=Kq.keep iq hK2 X
 have X':∀b∈2::Y,b<h'.length∧∀c0 c,h'[b]?=some c0→(M.set B LP)[b]?=some c→c0.isLive=true∧c0.quiet c=false:=fun b hb1=>by
  obtain⟨c0,c,h1,h2,h3,h4⟩:=X b hb1
  refine⟨Ac h1,fun d0 d k1 k2=>?_⟩
  rw[h1]at k1;rw[h2]at k2;cases k1;cases k2
  exact⟨h3,Pe h3 h4⟩
 obtain⟨g1,g2,g3,g4,g5⟩:=Ho iq hK2 X'
 have low:∀b,b<6→b≠2→b≠4→(Gg h' (M.set B LP))[b]?=h'[b]?:=fun b h1 h2 h3=>g4 b (by have:=Ac i5;omega) fun h=>by
  rcases abO.1 h with h|h
  ·exact h2 h
  ·rcases hY6 b h with h|h<;>omega
 refine⟨ok,⟨true,v2,fl2,true,by rw[low 0 (by omega) (by omega) (by omega)];exact i0,by rw[low 1 (by omega) (by omega) (by omega)];exact i1,?_,by rw[low 3 (by omega) (by omega) (by omega)];exact i3,by rw[low 5 (by omega) (by omega) (by omega)];exact i5,?_,?_,fun b hb1=>?_,?_⟩,fun b hb1=>g4 b (hK b hb1).2 (hKY b hb1),by rw[g2];simpa using m1⟩
 ·exact g5 2 (abR ..) _ (by rw[hne 2 (by omega)];exact hg2)
 ·exact g5 4 (afG _ hY) _ (by rw[hne 4 (by omega)];exact m3)
 ·rcases m4 with h|⟨b,w',rows,r,h1,h2,h3⟩
  ·exact .inl h
  ·have hb1:=m5 b (by rw[h1];simp[Dq])
   exact .inr ⟨b,w',rows,r,h1,by rw[g3 b hb1,hne b (by omega)];exact h2,h3⟩
 ·have h1:=m5 b hb1
  exact⟨by omega,fun h=>by have:=(hK b h).2;omega⟩
 ·exact Sr iq hK2 X' (Ar m2 B (by rw[hLPc];exact hLPq))
theorem pL{h' l:Aa}(hq:An h'=true):Kq h' (Eb h'++l)∧Gg h' (Eb h'++l)=h'++l:=by
 have K:Qk [] (Eb h') (Eb h'++l):=Qk.app _ _
 have X:∀b∈([]:List Nat),b<h'.length∧∀c0 c,h'[b]?=some c0→(Eb h'++l)[b]?=some c→c0.isLive=true∧c0.quiet c=false:=fun b hb1=>by cases hb1
 obtain⟨g1,g2,g3,g4,_⟩:=Ho hq K X
 refine⟨(Kq.cl hq).app l,aj9 fun b=>?_⟩
 by_cases hb1:b<h'.length
 ·rw[g4 b hb1 (by simp),af8 hb1]
 ·rw[g3 b (by omega),abS (by simp[As];omega),abS (by omega),As]
theorem abX:Af .nilp=[.nilp]:=Eq.trans rfl rfl
theorem aeB(n x:Nat):(aaI n x).sum=n*x:=by
 induction n with
 |zero=>simp
 |succ n ih=>rw[akA,List.sum_cons,ih,Nat.succ_mul];omega
theorem kX:∀(l:List Nat) (s:Nat),(l.set s 0).sum≤l.sum
 | [],s=>by simp
 |a::l,0=>by simp
 |a::l,s+1=>by have:=kX l s;simp;omega
theorem vY{N s far:Nat}(h:N≤8):(Jn N s far).sum≤8*far:=by
 unfold Jn
 refine Nat.le_trans (kX _ _) ?_
 rw[aeB]
 exact Nat.mul_le_mul_right _ h
def pG(x:Int × Bool):Bool:=x.1==0&& !x.2
def Vq(L:List (Int × Bool)):List Bool:=L.map pG
theorem gU{w:Au}{L:List (Int × Bool)}{i:Nat}{p:Ag}{x:Int × Bool}(hp:w.parts[i]?=some p)(hx:L[i]?=some x):(Gj w (Vq L))[i]?=some (p.one.toNat,p.other.toNat,if pG x=true then 1 else 0):=by
 unfold Gj Vq
 rw[List.getElem?_zipWith,ab7,hp,hx];rfl
theorem cJ{w:Au}{d:Int}:Gj w (Vq (Be w d))=Gj w (Az w d):=by
 have e:∀(l:List Ag) (r:List Bool) (f:Ag→Bool→Net.Edge),List.zipWith f l (l.map (fun p=>Nu p d)++r)=List.zipWith f l (l.map fun p=>Nu p d):=by
  intro l;induction l with
  |nil=>intro r f;simp
  |cons a l ih=>intro r f;simp[ih]
 unfold Gj Vq Be Az
 rw[af9,List.map_map]
 exact e _ _ _
theorem QS.app{v:AV}{q:List Nat}{H:Aa}{p:Nat}(h:QS v q H p)(l:Aa):QS v q (H++l) p:=by
 rcases h with h|⟨b,w,rows,r,h1,h2,h3⟩
 ·exact .inl h
 ·exact .inr ⟨b,w,rows,r,h1,Ak h2 l,h3⟩
theorem jH{h:Aa}{b:Nat}{c:CB}(hc:h[b]?=some c):h.set b c=h:=by
 refine aj9 fun i=>?_
 by_cases e:b=i
 ·subst e;rw[abV (Ac hc),hc]
 ·rw[abN e]
theorem fR:∀(L:List (Int × Bool)) (i:Nat) (a:Int) (b:Bool),L[i]?=some (a,b)→agB 2 (List.drop (i*2) (Gz L))=[.int .i64 a,.bool b]
 | [],i,a,b,h=>by simp at h
 |x::L,0,a,b,h=>by simp at h;subst h;simp[Gz]
 |x::L,i+1,a,b,h=>by
  have ih:=fR L i a b (by simpa using h)
  rw[show(i+1)*2=(i*2)+1+1 by omega]
  simpa only[Gz,List.flatMap_cons,List.cons_append,agF,List.drop_succ_cons]using ih
theorem uB{w:Au}{d:Int}{i:Nat}{p:Ag}(hx:w.parts[i]?=some p):(Be w d)[i]?=some (Iw p d,p.opn):=by
 unfold Be
 rw[af8 (by rw[abP];exact(agG.1 hx).1),ab7,hx];rfl
def no3:Nat→Nat→Nat→Prop:=fun _ _ _=>False
theorem Rk{w:Au}{N:Nat}(hw:tO w N)(h12:w.parts.length≤12){d:Int}{s:Nat}(hs:s<N){ps:List AV}{L:List (Int × Bool)}(hL12:L.length=12)(hps:ps=Gz L){wf:Bool}:
 ClQ Fq 36 [.ptr 0 0 0,.int .i64 (s:Int),.agg ps] [.live 4 false wf [[.int .i64 w.rooms,.int .i64 w.need,Dh 9 true w.nn (w.parts.map Ag.cells),.int .i64 d]]] fun o h'=>
  ∃(f:Bool) (ds:List Nat),o=.ret (.slr 1 1 0 N)∧h'=[.live 4 false wf [[.int .i64 w.rooms,.int .i64 w.need,Dh 9 true w.nn (w.parts.map Ag.cells),.int .i64 d]],.live 1 true f (ds.map Ez)]∧ds.length=N∧Jr (Gj w (Vq L)) s N Dj (fun v=>ds.getD v 0):=by
 have hr:=hw.rooms
 have n2:=hw.n2
 have n8:=hw.n8
 have hpl:ps.length=24:=by rw[hps,Ld];omega
 have hflat:ps.all AV.flat=true∧ps.all AV.isCell=true:=by
  subst hps
  have hform:∀x∈Gz L,(∃n,x=.int .i64 n)∨∃b,x=.bool b:=fun x hx=>by
   simp only[Gz,akP,abO,abT,or_false]at hx
   obtain⟨y,_,rfl|rfl⟩:=hx
   ·exact .inl ⟨_,rfl⟩
   ·exact .inr ⟨_,rfl⟩
  exact⟨abY.2 fun x hx=>by rcases hform x hx with⟨n,rfl⟩|⟨b,rfl⟩<;>rfl,abY.2 fun x hx=>by rcases hform x hx with⟨n,rfl⟩|⟨b,rfl⟩<;>rfl⟩
 obtain⟨hf1,hf2⟩:=hflat
 refine adR rfl Tryd.func36 rfl rfl ?_
 simp only[Tryd.f36]
 simp only[hr]
 have h39:(N≤549755813888)=True:=eq_true (by omega)
 have m1:((N:Int)≤(N:Int))=True:=eq_true (Int.le_refl _)
 have m2:((N:Int)≤1099511627776)=True:=eq_true (by omega)
 (have hb:=trivial;with_reducible repeat' (first|simp only[hb,Vc.down,seval,Qj.down,hpl,hf1,hf2,h39,m1,m2,akQ]|refine Br ?_ ?_<;>intro hb|refine fd ?_|fail))
 generalize hLK:(CB.live 4 false wf [[.int .i64 (N:Int),.int .i64 w.need,Dh 9 true w.nn (w.parts.map Ag.cells),.int .i64 d]])=LK
 refine Ls (eI 85 (aaI N ()) (fun i (_:Unit) t h=>t 0=.ptr 0 0 0∧t 1=.int .i64 (s:Int)∧t 5=.ptr 1 0 0∧t 7=.ptr 3 0 0∧t 23=.int .i64 (N:Int)∧t 24=.int .i64 (i:Int)∧∃f,h=[LK,.live 24 true false [ps],.live 1 true f ((aaI i Dj++aaI (N-i) 0).map Ez),.live 1 false true [[.slr 1 2 0 N]]]) (fun _ _=>())
  (fun _ e t h=>e=.exit 0∧t 0=.ptr 0 0 0∧t 1=.int .i64 (s:Int)∧t 5=.ptr 1 0 0∧t 7=.ptr 3 0 0∧∃f,h=[LK,.live 24 true false [ps],.live 1 true f ((aaI N Dj).map Ez),.live 1 false true [[.slr 1 2 0 N]]]) ?_ ?_ () _ _ ?_) (fun e t h hk=>?_)
 ·rintro _ t h Q' kQ ⟨g0,g1,g5,g7,g23,g24,f,rfl⟩
  rw[aeJ]at g24
  (have hb:=trivial;with_reducible repeat' (first|simp only[hb,Vc.down,seval,Qj.down,g23,g24,agQ,decide_false]|refine Br ?_ ?_<;>intro hb|refine fd ?_|fail))
  exact kQ _ _ _ ⟨rfl,by simp[up,g0],by simp[up,g1],by simp[up,g5],by simp[up,g7],f,by simp⟩
 ·rintro x rest i _ t h J Q' kJ kQ hx hi ⟨g0,g1,g5,g7,g23,g24,f,rfl⟩
  rw[aeJ]at hi
  have hdd:decide ((i:Int)<(N:Int))=true:=decide_eq_true (by omega)
  have hdi:((i:Int)<(N:Int))=True:=eq_true (by omega)
  have hww:=Em (n:=N) hi (by unfold maxLen;omega)
  have hrow:((aaI i Dj++aaI (N-i) 0).map Ez)[i]?=some [.int .i64 0]:=by
   rw[ab7,abS (by simp),aeJ,agS,akR,if_pos (by omega)]
   rfl
  have hnx:((aaI i Dj++aaI (N-i) 0).map Ez).set i [.int .i64 1048576]=(aaI (i+1) Dj++aaI (N-(i+1)) 0).map Ez:=by
   have e:N-i=(N-(i+1))+1:=by omega
   rw[show([.int .i64 1048576]:List AV)=Ez Dj from rfl,←agX,List.set_append_right _ _ (by simp),aeJ,agS,e,akA,List.set_cons_zero,List.replicate_succ',List.append_assoc]
   rfl
  generalize(aaI i Dj++aaI (N-i) 0).map Ez=rows at *
  (have hb:=trivial;with_reducible repeat' (first|simp only[hb,Vc.down,seval,Qj.down,g0,g1,g5,g7,g23,g24,hdd,hdi,hww,hrow,hnx]|refine Br ?_ ?_<;>intro hb|refine fd ?_|fail))
  exact Db (kJ _ _ () ⟨by simp[up,g0],by simp[up,g1],by simp[up,g5],by simp[up,g7],by simp[up,g23],by simp[up],true,rfl⟩ rfl)
 ·exact⟨by simp[up,Qo],by simp[up,Qo],by simp[up],by simp[up],by simp[up],by simp[up],false,by simp[Ez]⟩
 obtain⟨rfl,g0,g1,g5,g7,f,rfl⟩:=hk
 have hrow:s<((aaI N Dj).map Ez).length:=by simpa using hs
 have hz:((aaI N Dj).map Ez)[s]?=some [.int .i64 1048576]:=by rw[ab7,akR,if_pos hs];rfl
 have hin:((aaI N Dj).map Ez).set s [.int .i64 0]=(Jn N s Dj).map Ez:=by rw[Jn,agX];rfl
 have o1:((s:Int)<(N:Int))=True:=eq_true (by omega)
 generalize hrw:(aaI N Dj).map Ez=rows at *
 obtain⟨q1,hq1⟩:∃q,Fn.func 56=q:=⟨_,rfl⟩
 obtain⟨q2,hq2⟩:∃q,Fn.func 57=q:=⟨_,rfl⟩
 have hLq:LK.quiet LK.clean=true:=by rw[←hLK];rfl
 obtain⟨es,M,b1,b2,b3,b4,⟨v',fl',b5,b6,b7⟩,b8,_⟩:=agC (h:=[LK,.live 24 true false [ps],.live 1 true true ((Jn N s Dj).map Ez),.live 1 false true [[.slr 1 2 0 N]],.live 1 false false [[.nils]],.live 1 false true [[.ptr 4 0 0]]]) (Ut fun c hc=>by
  simp only[abO,abT,or_false]at hc
  rcases hc with rfl|rfl|rfl|rfl|rfl|rfl
  ·exact hLq
  all_goals rfl) (p:=4) s rfl (.inl ⟨rfl,rfl⟩) (by simp)
 rw[hq1]at b1
 simp only[agF]at b6
 obtain⟨es2,M2,c1,c2,c3,c4,⟨v2,fl2,c5,c6,c7⟩,c8⟩:=agA b4 b5 b6 (by simp)
 rw[hq2]at c1
 have k3:=b8 3 _ (by simp[Dq]) rfl
 have k5:=b8 5 _ (by simp[Dq]) rfl
 have j3:=c8 3 _ (by omega) k3
 have j5:=c8 5 _ (by omega) k5
 have j0:=c8 0 _ (by omega) (b8 0 _ (by simp[Dq]) rfl)
 have j1:=c8 1 _ (by omega) (b8 1 _ (by simp[Dq]) rfl)
 have j2:=c8 2 _ (by omega) (b8 2 _ (by simp[Dq]) rfl)
 (have hb:=trivial;with_reducible repeat' (first|simp only[hb,Vc.down,seval,Qj.down,g0,g1,g5,g7,hz,hin,o1,hq1,hq2,b1,b2,c1,c2,k3,k5,j3,j5,abX,akQ]|refine Br ?_ ?_<;>intro hb|refine fd ?_|fail))
 generalize hE:Gj w (Vq L)=E at *
 have hEo:Zp E N:=by rw[←hE];exact Um hw _
 have I0:=acW (E:=E) (far:=Dj) hs hEo
 have hsum:(Jn N s Dj).sum≤8*1048576:=vY n8
 refine Ls (cnt 85 (fun n (_:Unit) t h=>t 0=.ptr 0 0 0∧t 1=.int .i64 (s:Int)∧t 5=.ptr 1 0 0∧t 7=.ptr 3 0 0∧t 9=.ptr 5 0 0∧∃dd q k,DiH LK true ps N h dd q [k]∧2*dd.sum+q.length≤20000000∧
  ((t 11=.bool true∧∃room w,t 10=.ptr k 0 0∧6≤k∧h[k]?=some (.live 1 true w [[.int .i64 (room:Nat)]])∧Xa E s N Dj dd (room::q) no3∧2*dd.sum+q.length+1≤n)∨(t 11=.bool false∧q=[]∧Xa E s N Dj dd [] no3))) (fun _ _=>())
  (fun _ e t h=>e=.exit 2∧t 7=.ptr 3 0 0∧∃dd k,DiH LK true ps N h dd [] [k]∧Xa E s N Dj dd [] no3) ?_ ?_ (2*(Jn N s Dj).sum+1) () _ _ ?_) (fun e t h hk=>?_)
 ·rintro _ t h Q' kQ ⟨g0,g1,g5,g7,g9,dd,q,k,hD,hql,⟨g11,room,w5,g10,_,_,_,hm⟩|⟨g11,rfl,hI⟩⟩
  ·omega
  ·(have hb:=trivial;with_reducible repeat' (first|simp only[hb,Vc.down,seval,Qj.down,g11]|refine Br ?_ ?_<;>intro hb|refine fd ?_|fail))
   exact kQ _ _ _ ⟨rfl,by simp[up,g7],dd,k,hD,hI⟩
 ·rintro n _ t h J Q' kJ kQ ⟨g0,g1,g5,g7,g9,dd,q,k,hD,hql,⟨g11,room,w5,g10,hk6,hkb,hI,hm⟩|⟨g11,rfl,hI⟩⟩
  ·obtain⟨f,v,fl,w',i0,i1,i2,i3,i5,i4,iQ,iB,iq⟩:=hD
   have hat:=amJ w d (room:Int) false
   rw[hr]at hat
   subst hLK
   (have hb:=trivial;with_reducible repeat' (first|simp only[hb,Vc.down,seval,Qj.down,g0,g1,g5,g7,g9,g10,g11,i0,i1,i2,i3,i5,hkb,hat]|refine Br ?_ ?_<;>intro hb|refine fd ?_|fail))
   obtain⟨rN,rI⟩:=Xa.take hI
   have hkl:=Ac hkb
   generalize hLP:CB.lp _ _ _ _ _=LP
   obtain⟨LK,hLK⟩:∃c:CB,c=CB.live 4 false wf [[.int .i64 (N:Int),.int .i64 w.need,Dh 9 true w.nn (w.parts.map Ag.cells),.int .i64 d]]:=⟨_,rfl⟩
   refine yD (aRB hw (d:=d) (r:=(room:Int)) (lb:=h.length) (rb:=h.length+1) (kb:=0) (fun i h'=>∃dd' q',DiH LK.clean false ps N h' dd' q' [k,h.length,h.length+1,h.length+2]∧Xa E s N Dj dd' q' (Oq E room i)∧2*dd'.sum+q'.length≤2*dd.sum+q.length∧(∃w1,h'[k]?=some (.live 1 true w1 [[.int .i64 (room:Nat)]]))∧(∃w1,h'[h.length]?=some (.live 1 false w1 [[.ptr 0 0 0]]))∧(∃w1,h'[h.length+1]?=some (.live 1 true w1 [[.int .i64 (room:Nat)]]))∧h'[h.length+2]?=some LP∧h.length+3≤h'.length∧Kq (h++[.live 1 false false [[.ptr 0 0 0]],.live 1 true false [[.int .i64 (room:Nat)]],LP]) h') ?_ ?_ ?_ ?_ ?_ ?_ ?_) ?_
   ·rintro i h' ⟨dd',q',_,_,_,_,hb1,_⟩
    exact hb1
   ·rintro i h' ⟨dd',q',⟨f,v,fl,w',i0,_⟩,_⟩
    rw[hr]
    exact⟨false,by rw[i0,hLK];rfl⟩
   ·rintro i h' ⟨dd',q',_,_,_,_,_,hb2,_⟩
    exact hb2
   ·rintro i h' fl wf rows ⟨dd',q',k1,k3,k4,⟨a0,k5⟩,⟨a1,k6⟩,⟨a2,k7⟩,k8,k9,kO⟩
    exact⟨dd',q',k1.app rfl,k3,k4,⟨a0,Ak k5 _⟩,⟨a1,Ak k6 _⟩,⟨a2,Ak k7 _⟩,Ak k8 _,by simp;omega,kO.app _⟩
   ·rintro i p u h' hpx hu ⟨dd',q',⟨f',v',fl',w2,j0,j1,j2,j3,j5,j4,jQ,jB,jq⟩,k3,k4,⟨a0,k5⟩,⟨a1,k6⟩,⟨a2,k7⟩,k8,k9,kO⟩
    have round:RnQ Fq ([.int .i64 i,.int .i64 u]++[.yl (h.length+2)]) (Eb h') fun o G=>o=.ret (.bool true)∧Kq h' G∧∃dd2 q2,DiH LK.clean false ps N (Gg h' G) dd2 q2 [k,h.length,h.length+1,h.length+2]∧Xa E s N Dj dd2 q2 (Oq E room (i+1))∧2*dd2.sum+q2.length≤2*dd.sum+q.length∧(∀b∈[k,h.length,h.length+1,h.length+2],(Gg h' G)[b]?=h'[b]?)∧h'.length≤(Gg h' G).length:=by
     have hir:room<N:=rN
     have hpo:=hw.part p (ah1 hpx)
     have hil:i<w.parts.length:=(agG.1 hpx).1
     obtain⟨pc,hpc⟩:∃x,L[i]?=some x:=⟨_,abQ (by omega)⟩
     have he:=gU hpx hpc
     rw[hE]at he
     obtain⟨to,rfl,htN,hrt,hto⟩:∃to:Nat,u=(to:Int)∧to<N∧room≠to∧(E[i]?=some (room,to,if pG pc=true then 1 else 0)∨E[i]?=some (to,room,if pG pc=true then 1 else 0)):=by
      rcases hu with⟨h1,h2⟩|⟨h1,h2,h3⟩
      ·exact⟨p.other.toNat,by omega,by omega,by omega,.inl (by rw[he,h1];rfl)⟩
      ·exact⟨p.one.toNat,by omega,by omega,by omega,.inr (by rw[he,h2];rfl)⟩
     have hi12:((i:Int)<12)=True:=eq_true (by omega)
     have hp24:(i*2+2≤24)=True:=eq_true (by omega)
     have htk:agB 2 (List.drop (i*2) ps)=[.int .i64 pc.1,.bool pc.2]:=by
      rw[hps];exact fR _ _ _ _ hpc
     have htt:=hU pc.1 pc.2
     rw[show(pc.1==0&& !pc.2)=pG pc from rfl]at htt
     have hdl:=k3.i.len
     have hrm:=Zt (d:=dd') (a:=room) (by omega)
     have htm:=Zt (d:=dd') (a:=to) (by omega)
     have hst:∀n:Nat,(dd'.map Ez).set to [.int .i64 (n:Int)]=(dd'.set to n).map Ez:=fun n=>by rw[agX];rfl
     have hrf:=k3.i.le room rN
     have hrf2:dd'.getD room 0≤1048576:=hrf
     have I0:=k3.same hto
     have I1:=fun q'=>k3.less (q':=q') rN htN hrt hto
     have hrN:((room:Int)<(N:Int))=True:=eq_true (by omega)
     have htN':((to:Int)<(N:Int))=True:=eq_true (by omega)
     have hbit:=agJ (pG pc)
     have hsum:∀x,x<dd'.getD to 0→(dd'.set to x).sum<dd'.sum:=fun x hx=>wK (by omega) hx
     generalize dd'.getD room 0=xr at *
     generalize dd'.getD to 0=xt at *
     generalize hrows:dd'.map Ez=rows at *
     have hbc:=Bj k8
     have hb0:LP.clean=LP:=by rw[←hLP];rfl
     rw[hb0]at hbc
     have hne2:∀(b:Nat) (c X:CB),b≠h.length+2→h'[b]?=some c→((Eb h').set (h.length+2) X)[b]?=some c.clean:=fun b c X hn hc=>by rw[abN (fun e=>hn e.symm),Bj hc]
     have h6:=Ac i5
     have g0':=fun X=>hne2 0 _ X (by omega) j0
     have g1':=fun X=>hne2 1 _ X (by omega) j1
     have g2':=fun X=>hne2 2 _ X (by omega) j2
     have g3':=fun X=>hne2 3 _ X (by omega) j3
     have g5':=fun X=>hne2 5 _ X (by omega) j5
     have gk':=fun X=>hne2 k _ X (by omega) k5
     simp only[CB.clean]at g1' g2' g3' g5' gk'
     have hlw:∀n,n≤1048577→IntKind.i64.wrap (n:Nat)=(n:Int):=fun n hn=>Fz (by omega) (by omega)
     have hself:∀X:CB,((Eb h').set (h.length+2) X)[h.length+2]?=some X:=fun X=>abV (Ac hbc)
     have hback:∀X:CB,(((Eb h').set (h.length+2) X).set (h.length+2) LP)=Eb h':=fun X=>by
      rw[List.set_set];exact jH hbc
     have sm:=pL (l:=[]) jq
     simp only[List.append_nil]at sm
     have fin0:∀(dx:Xa E s N Dj dd' q' (Oq E room (i+1))),(Cj.ret (AV.bool true)=.ret (.bool true))∧Kq h' (Eb h')∧∃dd2 q2,DiH LK.clean false ps N (Gg h' (Eb h')) dd2 q2 [k,h.length,h.length+1,h.length+2]∧Xa E s N Dj dd2 q2 (Oq E room (i+1))∧2*dd2.sum+q2.length≤2*dd.sum+q.length∧(∀b∈[k,h.length,h.length+1,h.length+2],(Gg h' (Eb h'))[b]?=h'[b]?)∧h'.length≤(Gg h' (Eb h')).length:=fun dx=>by
      rw[sm.2]
      exact⟨rfl,sm.1,dd',q',⟨f',v',fl',w2,j0,j1,by rw[hrows];exact j2,j3,j5,j4,jQ,jB,jq⟩,dx,k4,fun b _=>rfl,abU _⟩
     have hq':q'.length≤100000000:=by omega
     have hK6:∀b∈[k,h.length,h.length+1,h.length+2],6≤b∧b<h'.length:=fun b hb1=>by
      simp only[abO,abT,or_false]at hb1
      omega
     have hnx:∀(b:Nat) (c X Y:CB),b≠h.length+2→b≠2→h'[b]?=some c→(((Eb h').set (h.length+2) X).set 2 Y)[b]?=some c.clean:=fun b c X Y n1 n2 hc=>by rw[abN (fun e=>n2 e.symm)];exact hne2 b c X n1 hc
     have n5:=fun X Y=>hnx 5 _ X Y (by omega) (by omega) j5
     have n4:=fun X Y=>hnx 4 _ X Y (by omega) (by omega) j4
     have nB:∀X Y:CB,(((Eb h').set (h.length+2) X).set 2 Y)[h.length+2]?=some X:=fun X Y=>by rw[abN (by omega)];exact hself X
     simp only[CB.clean]at n5 n4
     have nQ:∀X Y,QS v' q' (((Eb h').set (h.length+2) X).set 2 Y) 4:=fun X Y=>by
      rcases QS.cln jQ with h1|⟨b,w0,rows0,r0,h1,h2,h3⟩
      ·exact .inl h1
      ·have hbb:=jB b (by rw[h1];simp[Dq])
       simp only[abO,abT,or_false,not_or]at hbb
       exact .inr ⟨b,w0,rows0,r0,h1,by rw[abN (by omega),abN (by omega)];exact h2,h3⟩
     have hlen2:∀X Y:CB,(((Eb h').set (h.length+2) X).set 2 Y).length=h'.length:=fun X Y=>by simp[As]
     have nqt:∀(X:CB) (Y:List (List AV)),X.quiet X.clean=true→An (((Eb h').set (h.length+2) X).set 2 (.live 1 true true Y))=true:=fun X Y hX=>Ar (Ar (Fh jq) _ hX) _ rfl
     have fin1:∀{n:Nat} {q2:List Nat} {M:Aa} {Y:List Nat} {LB:CB} {v2:AV} {fl2:Bool},Xa E s N Dj (dd'.set to n) q2 (Oq E room (i+1))→n<xt→q2.length=q'.length+1→h'.length≤M.length→An M=true→M[4]?=some (.live 1 fl2 true [[v2]])→QS v2 q2 M 4→(∀b∈Dq v2,h'.length≤b)→
      (∀b c,b∉Y→(((Eb h').set (h.length+2) LB).set 2 (.live 1 true true ((dd'.set to n).map Ez)))[b]?=some c→M[b]?=some c)→4∈Y→(∀b∈Y,b=4∨(b∈Dq v'∧M[b]?=some .dead))→
      (Cj.ret (AV.bool true)=.ret (.bool true))∧Kq h' (M.set (h.length+2) LP)∧∃dd2 q2,DiH LK.clean false ps N (Gg h' (M.set (h.length+2) LP)) dd2 q2 [k,h.length,h.length+1,h.length+2]∧Xa E s N Dj dd2 q2 (Oq E room (i+1))∧2*dd2.sum+q2.length≤2*dd.sum+q.length∧(∀b∈[k,h.length,h.length+1,h.length+2],(Gg h' (M.set (h.length+2) LP))[b]?=h'[b]?)∧h'.length≤(Gg h' (M.set (h.length+2) LP)).length:=fun {n q2 M Y LB v2 fl2} dx hn hq2 m1 m2 m3 m4 m5 m6 hY hY'=>by
      have hr:=zM (K:=[k,h.length,h.length+1,h.length+2]) j0 j1 (by rw[hrows];exact j2) j3 j5 j4 jQ jB jq k8 (by simp) hK6 hb0 (by rw[←hLP];rfl) m1 m2 m3 m4 m5 m6 hY hY'
      exact⟨rfl,hr.1,dd'.set to n,q2,hr.2.1,dx,by have:=hsum n hn;omega,hr.2.2.1,hr.2.2.2⟩
     have nbv:h.length+2∉4::Dq v':=fun hx=>by
      rcases abO.1 hx with hx|hx
      ·omega
      ·have:=(jB _ hx).2;simp at this
     have mq:∀x,x∈q'++[to]↔x=to∨x∈q':=fun x=>by simp;exact Or.comm
     have mq2:∀x,x∈to::q'↔x=to∨x∈q':=fun x=>by simp
     cases htb:pG pc with
     |true=>
      have hw1:IntKind.i64.wrap ((xr:Int)+1)=((xr+1:Nat):Int):=by have:=hlw (xr+1) (by omega);simpa using this
      rw[htb]at htt hbit I0 I1
      simp only[if_true]at I0 I1 hbit
      by_cases hle:xt≤xr+1
      ·have hle':(((xr+1:Nat):Int)≥(xt:Int))=True:=eq_true (by omega)
       have fz:=fin0 (I0 hle)
       subst hLP
       refine lN hbc rfl ?_
       (have hb:=trivial;with_reducible repeat' (first|simp only[hb,Vc.down,seval,Qj.down,k8,g0,g1,g5,g7,g9,g10,g0',g1',g2',g3',g5',gk',Im,hi12,hp24,hpl,htk,htt,hbit,hrm,htm,hrN,htN',hw1,hle',hself,hback]|refine Br ?_ ?_<;>intro hb|refine fd ?_|fail))
       exact⟨_,_,rfl,fz⟩
      ·have hle':(((xr+1:Nat):Int)≥(xt:Int))=False:=eq_false (by omega)
       subst hLP
       refine lN hbc rfl ?_
       (have hb:=trivial;with_reducible repeat' (first|simp only[hb,Vc.down,seval,Qj.down,k8,g0,g1,g5,g7,g9,g10,g0',g1',g2',g3',g5',gk',Im,hi12,hp24,hpl,htk,htt,hbit,hrm,htm,hrN,htN',hw1,hle',hst]|refine Br ?_ ?_<;>intro hb|refine fd ?_|fail))
       generalize hLB:CB.lp _ _ _ _ Hl.busy=LB
       obtain⟨q1,hq1⟩:∃q,Fn.func 56=q:=⟨_,rfl⟩
       obtain⟨es,M,b1,b2,b3,b4,⟨v2,fl2,b5,b6,b7⟩,b8,b9⟩:=agC (nqt LB ((dd'.set to (xr+1)).map Ez) (by rw[←hLB];rfl)) to (n4 LB _) (nQ LB _) hq'
       rw[hq1]at b1
       have n5':=n5 LB
       have mB:=b8 _ _ nbv (nB LB _)
       have fz:=fin1 (I1 (q'++[to]) (by omega) mq) (by omega) (by simp) (by rw[hlen2]at b3;exact b3) b4 b5 b6 (by rw[hlen2]at b7;exact b7) b8 (abR ..) (fun b hb1=>(abO.1 hb1).imp id fun hb1=>⟨hb1,b9 b hb1⟩)
       subst hLB
       (have hb:=trivial;with_reducible repeat' (first|simp only[hb,Vc.down,seval,Qj.down,n5',hq1,b1,b2,mB]|refine Br ?_ ?_<;>intro hb|refine fd ?_|fail))
       exact⟨_,_,rfl,fz⟩
     |false=>
      have hw1:IntKind.i64.wrap ((xr:Int)+0)=((xr:Nat):Int):=by have:=hlw xr (by omega);simpa using this
      rw[htb]at htt hbit I0 I1
      simp only[Bool.false_eq_true,if_false,Nat.add_zero]at I0 I1 hbit
      by_cases hle:xt≤xr
      ·have hle':((xr:Int)≥(xt:Int))=True:=eq_true (by omega)
       have fz:=fin0 (I0 hle)
       subst hLP
       refine lN hbc rfl ?_
       (have hb:=trivial;with_reducible repeat' (first|simp only[hb,Vc.down,seval,Qj.down,k8,g0,g1,g5,g7,g9,g10,g0',g1',g2',g3',g5',gk',Im,hi12,hp24,hpl,htk,htt,hbit,hrm,htm,hrN,htN',hw1,hle',hself,hback]|refine Br ?_ ?_<;>intro hb|refine fd ?_|fail))
       exact⟨_,_,rfl,fz⟩
      ·have hle':((xr:Int)≥(xt:Int))=False:=eq_false (by omega)
       subst hLP
       refine lN hbc rfl ?_
       (have hb:=trivial;with_reducible repeat' (first|simp only[hb,Vc.down,seval,Qj.down,k8,g0,g1,g5,g7,g9,g10,g0',g1',g2',g3',g5',gk',Im,hi12,hp24,hpl,htk,htt,hbit,hrm,htm,hrN,htN',hw1,hle',hst]|refine Br ?_ ?_<;>intro hb|refine fd ?_|fail))
       generalize hLB:CB.lp _ _ _ _ Hl.busy=LB
       obtain⟨q1,hq1⟩:∃q,Fn.func 60=q:=⟨_,rfl⟩
       obtain⟨es,M,b1,b2,b3,b4,⟨v2,fl2,b5,b6,b7⟩,b8⟩:=anG (nqt LB ((dd'.set to xr).map Ez) (by rw[←hLB];rfl)) to (n4 LB _) (nQ LB _) hq'
       rw[hq1]at b1
       have n5':=n5 LB
       have mB:=b8 _ _ (by omega) (nB LB _)
       have fz:=fin1 (Y:=[4]) (I1 (to::q') (by omega) mq2) (by omega) (by simp) (by rw[hlen2]at b3;exact b3) b4 b5 b6 (by rw[hlen2]at b7;exact b7) (fun b c hn=>b8 b c (by simpa using hn)) (abR ..) (fun b hb1=>.inl (by simpa using hb1))
       subst hLB
       (have hb:=trivial;with_reducible repeat' (first|simp only[hb,Vc.down,seval,Qj.down,n5',hq1,b1,b2,mB]|refine Br ?_ ?_<;>intro hb|refine fd ?_|fail))
       exact⟨_,_,rfl,fz⟩
    obtain⟨o,G,es,e1,e2,rfl,z0,dd2,q2,z1,z2,z3,z4,z5⟩:=qG round (fun o G h=>h.2.1.sh)
    refine⟨es,e1,?_⟩
    rw[e2]
    exact⟨dd2,q2,z1,z2,z3,⟨a0,by rw[z4 k (by simp)];exact k5⟩,⟨a1,by rw[z4 _ (by simp)];exact k6⟩,⟨a2,by rw[z4 _ (by simp)];exact k7⟩,by rw[z4 _ (by simp)];exact k8,by omega,kO.trans z0⟩
   ·rintro i p h' hpx n1 n2 ⟨dd',q',k1,k3,k4,k5,k6,k7,k8,k9⟩
    have hpo:=hw.part p (ah1 hpx)
    obtain⟨pc,hpc⟩:∃x,L[i]?=some x:=⟨_,abQ (by have:=(agG.1 hpx).1;omega)⟩
    have he:=gU hpx hpc
    rw[hE]at he
    exact⟨dd',q',k1,k3.skip he (by omega) (by omega),k4,k5,k6,k7,k8,k9⟩
   ·have cl:∀(b:Nat) (c:CB),h[b]?=some c→(Eb h++[CB.live 1 false false [[.ptr 0 0 0]],.live 1 true false [[.int .i64 (room:Nat)]],LP])[b]?=some c.clean:=fun b c hc=>Ak (Bj hc) _
    have ca:∀j,(Eb h++[CB.live 1 false false [[.ptr 0 0 0]],.live 1 true false [[.int .i64 (room:Nat)]],LP])[h.length+j]?=[CB.live 1 false false [[.ptr 0 0 0]],.live 1 true false [[.int .i64 (room:Nat)]],LP][j]?:=fun j=>by
     rw[abS (by rw[As];omega),As,akS]
    have hLc:LP.clean=LP:=by rw[←hLP];rfl
    have hLq:LP.quiet LP=true:=by rw[←hLP];rfl
    have hok:Kq (h++[.live 1 false false [[.ptr 0 0 0]],.live 1 true false [[.int .i64 (room:Nat)]],LP]) (Eb h++[.live 1 false false [[.ptr 0 0 0]],.live 1 true false [[.int .i64 (room:Nat)]],LP]):=by
     have:=Kq.cl (H:=h++[.live 1 false false [[.ptr 0 0 0]],.live 1 true false [[.int .i64 (room:Nat)]],LP]) (Bg iq (by simp only[An,aiN,hLc,hLq];rfl))
     rw[show Eb (h++[CB.live 1 false false [[.ptr 0 0 0]],.live 1 true false [[.int .i64 (room:Nat)]],LP])=Eb h++[CB.live 1 false false [[.ptr 0 0 0]],.live 1 true false [[.int .i64 (room:Nat)]],LP] by simp only[Eb,af9,List.map_cons,List.map_nil,hLc];rfl]at this
     exact this
    refine⟨dd,q,⟨false,v,fl,false,by rw[hLK];exact cl 0 _ i0,cl 1 _ i1,cl 2 _ i2,cl 3 _ i3,cl 5 _ i5,cl 4 _ i4,?_,fun b hb1=>?_,Bg (Fh iq) (by simp only[An,aiN,hLc,hLq];rfl)⟩,rI,abU _,⟨_,cl k _ hkb⟩,⟨false,ca 0⟩,⟨false,ca 1⟩,ca 2,by simp[As],hok⟩
    ·rcases QS.cln iQ with h|⟨b,w',rows,r,h1,h2,h3⟩
     ·exact .inl h
     ·exact .inr ⟨b,w',rows,r,h1,Ak h2 _,h3⟩
    ·have:=(iQ.lt b hb1).1
     have:=iB b hb1
     simp at this ⊢
     omega
   ·rintro o h' ⟨rfl,dd',q',⟨f',v',fl',w2,j0,j1,j2,j3,j5,j4,jQ,jB,jq⟩,k3,k4,⟨a0,k5⟩,⟨a1,k6⟩,⟨a2,k7⟩,k8,k9,kO⟩
    have hl5:=Ac i5
    have hLc:LP.clean=LP:=by rw[←hLP];rfl
    have hLq:LP.quiet LP=true:=by rw[←hLP];rfl
    obtain⟨h1,hh1⟩:∃H:Aa,h++[.live 1 false false [[.ptr 0 0 0]],.live 1 true false [[.int .i64 (room:Nat)]],LP]=H:=⟨_,rfl⟩
    have hB1:h1[h.length+2]?=some LP:=by rw[←hh1,abS (by omega),akS];rfl
    have hq1:An h1=true:=by rw[←hh1];exact Bg iq (by simp only[An,aiN,hLc,hLq];rfl)
    have hO:∀(b:Nat) (c:CB),h[b]?=some c→h1[b]?=some c:=fun b c hc=>by rw[←hh1];exact Ak hc _
    simp only[hh1]at kO ⊢
    obtain⟨es,e1,e2⟩:=Nk h1 h' [] kO.sh
    have e1':Bv 0 h1 h'=some es:=e1
    simp only[agF]at e2
    have m0:=Kq.old (hO 0 _ i0) j0 (by rw[hLK];rfl)
    have m1:=Kq.old (hO 1 _ i1) j1 rfl
    obtain⟨x2,m2⟩:=kO.live j2
    have m3:=Kq.old (hO 3 _ i3) j3 rfl
    have m5:=Kq.old (hO 5 _ i5) j5 rfl
    obtain⟨x4,m4⟩:=kO.live j4
    obtain⟨xk,mk_⟩:=kO.live k5
    have mQ:=jQ.okw kO
    have mB:=Kq.old hB1 k8 hLq
    have mqt:=kO.quiet hq1 jq
    have mln:h'.length≤(Gg h1 h').length:=by rw[Ji kO.1];exact abU _
    generalize hM:Gg h1 h'=M at *
    rw[Us,e1']
    have dne:∀(b:Nat) (c:CB),b≠h.length+2→M[b]?=some c→(M.set (h.length+2) .dead)[b]?=some c:=fun b c hn hc=>by rw[abN (fun e=>hn e.symm)];exact hc
    have hkn:k≠h.length+2:=by omega
    have d0:=dne 0 _ (by omega) m0
    have d1:=dne 1 _ (by omega) m1
    have d2:=dne 2 _ (by omega) m2
    have d3:=dne 3 _ (by omega) m3
    have d5:=dne 5 _ (by omega) m5
    have d4:=dne 4 _ (by omega) m4
    have dk:=dne k _ hkn mk_
    have dq:An (M.set (h.length+2) .dead)=true:=Ar mqt _ rfl
    have dl:(M.set (h.length+2) .dead).length=M.length:=by simp
    have dQ:QS v' q' (M.set (h.length+2) .dead) 4:=by
     rcases mQ with h1|⟨b,w0,rows0,r0,h1,h2,h3⟩
     ·exact .inl h1
     ·have hbb:=jB b (by rw[h1];simp[Dq])
      simp only[abO,abT,or_false,not_or]at hbb
      exact .inr ⟨b,w0,rows0,r0,h1,dne b _ (by omega) h2,h3⟩
    subst hLP
    (have hb:=trivial;with_reducible repeat' (first|simp only[hb,Vc.down,seval,Qj.down,e2,mB]|refine Br ?_ ?_<;>intro hb|refine fd ?_|fail))
    generalize hD:M.set (h.length+2) CB.dead=D at *
    (have hb:=trivial;with_reducible repeat' (first|simp only[hb,Vc.down,seval,Qj.down,g0,g1,g5,g7,g9,g10,dk,d5]|refine Br ?_ ?_<;>intro hb|refine fd ?_|fail))
    have p5:=Ak d5 [CB.live 1 true true [[.int .i64 (room:Int)]]]
    have p4:=Ak d4 [CB.live 1 true true [[.int .i64 (room:Int)]]]
    have pq:An (D++[CB.live 1 true true [[.int .i64 (room:Int)]]])=true:=Bg dq rfl
    have pQ:=dQ.app [CB.live 1 true true [[.int .i64 (room:Int)]]]
    have pk:(D++[CB.live 1 true true [[.int .i64 (room:Int)]]])[D.length]?=some (.live 1 true true [[.int .i64 (room:Int)]]):=by simp
    have hEl:E.length≤w.parts.length:=by rw[←hE];simp[Gj,Vq];omega
    have k3':=k3.done hEl
    have hD6:6≤D.length:=by omega
    have hvD:∀b∈Dq v',6≤b∧b∉[D.length]:=fun b hb1=>by
     have h1:=(dQ.lt b hb1).1
     have h2:=(jB b hb1).1
     exact⟨h2,by simp;omega⟩
    obtain⟨q1,hq1⟩:∃q,Fn.func 57=q:=⟨_,rfl⟩
    cases q' with
    |nil=>
     have b1:=am5 pq p4 pQ
     rw[hq1]at b1
     (have hb:=trivial;with_reducible repeat' (first|simp only[hb,Vc.down,seval,Qj.down,p5,hq1,b1]|refine Br ?_ ?_<;>intro hb|refine fd ?_|fail))
     refine Db (kJ _ _ () ⟨by simp[up,g0],by simp[up,g1],by simp[up,g5],by simp[up,g7],by simp[up,g9],dd',[],D.length,?_,?_,.inr ⟨by simp[up],rfl,k3'⟩⟩ rfl)
     ·exact⟨_,_,_,_,Ak d0 _,Ak d1 _,Ak d2 _,Ak d3 _,Ak d5 _,Ak d4 _,dQ.app _,hvD,Bg dq rfl⟩
     ·omega
    |cons x q'=>
     simp only[List.length_cons]at k4
     obtain⟨es,M4,b1,b2,b3,b4,⟨v2,fl2,b5,b6,b7⟩,b8⟩:=agA pq p4 pQ (by omega)
     rw[hq1]at b1
     have r5:=b8 _ _ (by omega) p5
     have rk:=b8 _ _ (by omega) pk
     (have hb:=trivial;with_reducible repeat' (first|simp only[hb,Vc.down,seval,Qj.down,p5,hq1,b1,b2,rk,r5]|refine Br ?_ ?_<;>intro hb|refine fd ?_|fail))
     have sne:∀(b:Nat) (c:CB),b<D.length→b≠4→D[b]?=some c→(M4.set D.length (.live 1 true true [[.int .i64 (x:Int)]]))[b]?=some c:=fun b c h1 h2 hc=>by
      rw[abN (by omega)];exact b8 b c h2 (Ak hc _)
     have hl4:=Ac rk
     refine Db (kJ _ _ () ⟨by simp[up,g0],by simp[up,g1],by simp[up,g5],by simp[up,g7],by simp[up,g9],dd',q',D.length,?_,by omega,.inl ⟨by simp[up],x,true,by simp[up],hD6,abV hl4,k3',by omega⟩⟩ rfl)
     refine⟨_,v2,fl2,true,sne 0 _ (by omega) (by omega) d0,sne 1 _ (by omega) (by omega) d1,sne 2 _ (by omega) (by omega) d2,sne 3 _ (by omega) (by omega) d3,sne 5 _ (by omega) (by omega) d5,by rw[abN (by omega)];exact b5,?_,fun b hb1=>hvD b (by rw[←b7];exact hb1),Ar b4 _ rfl⟩
     rcases b6 with h1|⟨b,w0,rows0,r0,h1,h2,h3⟩
     ·exact .inl h1
     ·have hbb:=hvD b (by rw[←b7,h1];simp[Dq])
      simp only[abO,abT,or_false]at hbb
      exact .inr ⟨b,w0,rows0,r0,h1,by rw[abN (fun e=>hbb.2 e.symm)];exact h2,h3⟩
  ·(have hb:=trivial;with_reducible repeat' (first|simp only[hb,Vc.down,seval,Qj.down,g11]|refine Br ?_ ?_<;>intro hb|refine fd ?_|fail))
   exact kQ _ _ _ ⟨rfl,by simp[up,g7],dd,k,hD,hI⟩
 ·refine⟨by simp[up,g0],by simp[up,g1],by simp[up,g5],by simp[up,g7],by simp[up],Jn N s Dj,[],M2.length,?_,by simp only[List.length_nil];omega,.inl ⟨by simp[up],s,true,by simp[up],by simp at b3;omega,by rw[abS (abU _),agS];rfl,I0,by simp⟩⟩
  refine⟨true,v2,fl2,true,Ak j0 _,Ak j1 _,Ak j2 _,Ak j3 _,Ak j5 _,Ak c5 _,?_,?_,Bg c4 rfl⟩
  ·rcases c6 with h|⟨b,w',rows,r,h1,h2,h3⟩
   ·exact .inl h
   ·exact .inr ⟨b,w',rows,r,h1,Ak h2 _,h3⟩
  ·intro b hb1
   have:=c6.lt b hb1
   rw[c7]at hb1
   have h6:=b7 b hb1
   simp at h6
   exact⟨h6,by simp;omega⟩
 obtain⟨rfl,g7,dd,k,⟨f,v,fl,w',i0,i1,i2,i3,i5,i4,iQ,iB,iq⟩,hI⟩:=hk
 have hR:=hI.right hs hEo (by unfold Dj;omega)
 have hdl:=hI.i.len
 have hln:(dd.map Ez).length=N:=by simp[hdl]
 subst hLK
 (have hb:=trivial;with_reducible repeat' (first|simp only[hb,Vc.down,seval,Qj.down,g7,i3,i2,i0,hln]|refine Br ?_ ?_<;>intro hb|refine fd ?_|fail))
 exact⟨f,dd,rfl,hdl,hR⟩
theorem Jp(L:List (Int × Bool)):∀x∈Gz L,(∃n,x=.int .i64 n)∨∃b,x=.bool b:=fun x hx=>by
 simp only[Gz,akP,abO,abT,or_false]at hx
 obtain⟨y,_,rfl|rfl⟩:=hx
 ·exact .inl ⟨_,rfl⟩
 ·exact .inr ⟨_,rfl⟩
theorem Wj(L:List (Int × Bool)):(Gz L).all AV.flat=true:=abY.2 fun x hx=>by rcases Jp L x hx with⟨n,rfl⟩|⟨b,rfl⟩<;>rfl
theorem Vh(L:List (Int × Bool)):(Gz L).all AV.isCell=true:=abY.2 fun x hx=>by rcases Jp L x hx with⟨n,rfl⟩|⟨b,rfl⟩<;>rfl
theorem iF(L:List (Int × Bool))(d:Nat)(g:HF):Ao (Fg (d+1) g) (Gz L)=some (Gz L):=fW fun x hx=>by rcases Jp L x hx with⟨n,rfl⟩|⟨b,rfl⟩<;>rfl
theorem fH(L:List (Int × Bool))(d:Nat)(g:HF):(Gz L).flatMap (Ap (d+1) g)=[]:=List.flatMap_eq_nil_iff.2 fun x hx=>by rcases Jp L x hx with⟨n,rfl⟩|⟨b,rfl⟩<;>rfl
theorem fL(L:List (Int × Bool))(d:Nat)(m:List Nat):Bt.refL (Bt (d+1)) m (Gz L)=some (Gz L,m):=Gk fun x hx=>by rcases Jp L x hx with⟨n,rfl⟩|⟨b,rfl⟩<;>rfl
theorem vZ(L:List (Int × Bool))(d:Nat)(f:Nat→Nat):Ao (Bc (d+1) f) (Gz L)=some (Gz L):=fW fun x hx=>by rcases Jp L x hx with⟨n,rfl⟩|⟨b,rfl⟩<;>rfl
theorem wY(L:List (Int × Bool))(d:Nat):(Gz L).any (hasImm (d+1))=false:=List.any_eq_false.2 fun x hx=>by rcases Jp L x hx with⟨n,rfl⟩|⟨b,rfl⟩<;>simp[hasImm]
def nmB(w:Au)(N:Nat)(L:List (Int × Bool)):Nat:=uZ (Gj w (Vq L)) N w.parts.length
theorem kE{w:Au}{N:Nat}(hw:tO w N)(h12:w.parts.length≤12)(d:Int){L:List (Int × Bool)}(hL12:L.length=12)(wf:Bool):
 Fq.call (.fn 43) [.ptr 0 0 0,.agg (Gz L)] [.live 4 false wf [[.int .i64 w.rooms,.int .i64 w.need,Dh 9 true w.nn (w.parts.map Ag.cells),.int .i64 d]]]=some (.ret (.int .i64 (nmB w N L:Nat)),[.live 4 false wf [[.int .i64 w.rooms,.int .i64 w.need,Dh 9 true w.nn (w.parts.map Ag.cells),.int .i64 d]]]):=by
 have n2:=hw.n2
 have n8:=hw.n8
 obtain⟨o,h',hc,f,ds,rfl,rfl,hdl,hR⟩:=Rk hw h12 (d:=d) (s:=0) (by omega) hL12 rfl (wf:=false)
 have hne:=yL (len:=w.parts.length) n2 (by omega) (by unfold Dj;omega) (Um hw (Vq L)) hR
 have hf1:=Wj L
 have hf2:=Vh L
 have hpl:(Gz L).length=24:=by rw[Ld];omega
 have hd1:=Zt (d:=ds) (a:=1) (by omega)
 have h1N:((1:Int)<(N:Int))=True:=eq_true (by omega)
 have hle:ds.getD 1 0≤1048576:=by
  by_cases e:ds.getD 1 0=Dj
  ·rw[e];exact abU _
  ·have:=(Jr.num hR hR (by unfold Dj;omega) (by unfold Dj;omega) (by omega) (Um hw (Vq L)) (v:=1) (by omega)).2.2 e
   have:ds.getD 1 0<N:=this
   omega
 have hN1:nmB w N L=if ds.getD 1 0=Dj then w.parts.length+1 else ds.getD 1 0:=hne.symm
 rw[hN1]
 have hav:=iF L
 have hlv:=fH L
 have hrf:=fL L
 simp only[Int.natCast_zero]at hc
 generalize Gz L=ps at *
 have htk:agB 24 ps=ps:=List.take_of_length_le (by omega)
 generalize ds.getD 1 0=x at *
 generalize ds.map Ez=rows at *
 have hwr:IntKind.i64.wrap ((w.parts.length:Int)+1)=((w.parts.length+1:Nat):Int):=by have:=Fz (n:=((w.parts.length+1:Nat):Int)) (by omega) (by omega);simpa using this
 by_cases e:x=Dj
 ·have e1:((x:Int)==1048576)=true:=by rw[e];rfl
  rw[if_pos e]
  refine ce Tryd.func43 ?_
  simp only[Tryd.f43]
  (have hb:=trivial;with_reducible repeat' (first|simp only[hb,Vc.down,seval,an0.down,hpl,hf1,hf2,htk,hav,hlv,hrf,hc,hd1,h1N,e1,hwr,abP]|refine Br ?_ ?_<;>intro hb|refine fd ?_|fail))
 ·have e1:((x:Int)==1048576)=false:=by simp;exact fun h=>e (by unfold Dj;omega)
  rw[if_neg e]
  refine ce Tryd.func43 ?_
  simp only[Tryd.f43]
  (have hb:=trivial;with_reducible repeat' (first|simp only[hb,Vc.down,seval,an0.down,hpl,hf1,hf2,htk,hav,hlv,hrf,hc,hd1,h1N,e1,abP]|refine Br ?_ ?_<;>intro hb|refine fd ?_|fail))
theorem bT{w:Au}{d:Int}(h12:w.parts.length≤12):(Be w d).length=12:=by simp[Be];omega
theorem nX{w:Au}{N:Nat}{d:Int}:nmB w N (Be w d)=kV w N d:=by unfold nmB kV;rw[cJ]
theorem uL{w:Au}{N:Nat}(hw:tO w N)(h12:w.parts.length≤12)(hs:w.small)(d:Int)(hb0:(Oo w&&Vr d)=true):Fq.call (.fn 17) [.agg [.int .i64 w.rooms,.int .i64 w.need,Dh 9 true w.nn (w.parts.map Ag.cells)],.int .i64 d] []=some (.ret (.tup [.int .i64 (kV w N d:Nat),.int .i64 0]),[]):=by
 have h:=pT w hs d
 rw[hb0]at h
 have hp:=iK w d false h12
 have hn:=kE hw h12 d (bT (d:=d) h12) false
 rw[nX]at hn
 have hf1:=Wj (Be w d)
 have hf2:=Vh (Be w d)
 have hav:=iF (Be w d)
 have hlv:=fH (Be w d)
 have hrf:=fL (Be w d)
 have hrn:=vZ (Be w d)
 have hhi:=wY (Be w d)
 generalize Gz (Be w d)=ps at *
 (refine ce Tryd.func17 ?_;simp only[Tryd.f17];(have hb:=trivial;with_reducible repeat' (first|simp only[hb,Vc.down,seval,aK0.down,h,hp,hn,hf1,hf2,hav,hlv,hrf,hrn,hhi]|refine Br ?_ ?_<;>intro hb|refine fd ?_|fail)))
theorem jX{α:Type}{d:List AV→Option α}{f:α→List AV}(hd:∀cs x,d cs=some x→cs=f x):∀{rows:List (List AV)} {l:List α},Ao d rows=some l→rows=l.map f
 | [],l,h=>by simp[Ao]at h;subst h;rfl
 |r::rows,l,h=>by
  simp only[Ao,akT,ajA]at h
  obtain⟨x,h1,l',h2,rfl⟩:=h
  rw[hd r x h1,jX hd h2];rfl
def dSl{α:Type}(n:Nat)(fl:Bool)(d:List AV→Option α):AV→Option (Bool × List α)
 | .nils=>some (false,[])
 | .imm n' fl' rows=>if n'=n∧fl'=fl then(Ao d rows).map fun l=>(true,l)else none
 |_=>none
theorem aiV{α:Type}{n:Nat}{fl:Bool}{d:List AV→Option α}{f:α→List AV}(hd:∀cs x,d cs=some x→cs=f x){v:AV}{x:Bool × List α}(h:dSl n fl d v=some x):v=Dh n fl x.1 (x.2.map f):=by
 unfold dSl at h
 split at h
 ·cases h;rfl
 ·split at h
  ·rename_i hq
   obtain⟨rfl,rfl⟩:=hq
   obtain⟨l,h1,rfl⟩:=ajA.1 h
   rw[jX hd h1]
   cases l<;>rfl
  ·cases h
 ·cases h
def zL:List AV→Option Ag
 | [.int .i64 a,.int .i64 b,.bool c,.bool d,.int .i64 e,.int .i64 f,.bool g,.int .i64 h,.int .i64 i]=>some ⟨a,b,c,d,e,f,g,h,i⟩
 |_=>none
theorem wO(cs:List AV)(x:Ag)(h:zL cs=some x):cs=x.cells:=by
 unfold zL at h
 split at h
 ·cases h;rfl
 ·cases h
def aaS:List AV→Option (List (Int × Bool))
 | []=>some []
 | .int .i64 a::.bool b::l=>(aaS l).map fun r=>(a,b)::r
 |_=>none
theorem oZ:∀(cs:List AV) (x:List (Int × Bool)),aaS cs=some x→cs=Gz x
 | [],x,h=>by simp[aaS]at h;subst h;rfl
 | .int .i64 a::.bool b::l,x,h=>by
   simp only[aaS,ajA]at h
   obtain⟨r,h1,rfl⟩:=h
   rw[oZ l r h1];rfl
def alQ:List AV→Aa→Option (Cj × Aa)
 | [.ptr 0 0 0,.agg ps],[.live 4 false wf [[.int .i64 rooms,.int .i64 need,sl,.int .i64 d]]]=>
   (dSl 9 true zL sl).bind fun x=>(aaS ps).bind fun L=>if(Oo ⟨rooms,need,x.1,x.2⟩&&decide (L.length=12))=true then
     some (.ret (.int .i64 (nmB ⟨rooms,need,x.1,x.2⟩ rooms.toNat L:Nat)),[.live 4 false wf [[.int .i64 rooms,.int .i64 need,sl,.int .i64 d]]])else none
 |_,_=>none
def pr2:Jq:={ pr with at_:=fun f=>if f=43 then some alQ else pr f }
theorem aoC(f:Nat)(h:pr2 f=none):pr f=none:=by
 simp only[pr2]at h
 split at h
 ·cases h
 ·exact h
theorem ai3:∀f p,pr2 f=some p→∀a h r,p a h=some r→Fq.call (.fn f) a h=some r:=by
 intro f p hp a h r hr
 simp only[pr2]at hp
 split at hp
 ·rename_i hf
  subst hf
  cases hp
  unfold alQ at hr
  split at hr
  ·rename_i ps wf rooms need sl d
   simp only[akT]at hr
   obtain⟨x,h1,L,h2,h3⟩:=hr
   split at h3
   ·rename_i hs
    simp only[Bool.and_eq_true,decide_eq_true_eq]at hs
    cases h3
    obtain⟨N,hw,h12⟩:=pK hs.1
    have hN:rooms.toNat=N:=by have:=hw.rooms;simp only at this;omega
    rw[aiV wO h1,oZ _ _ h2,hN]
    exact kE hw h12 d hs.2 wf
   ·cases h3
  ·cases hr
 ·exact ac9 hp hr
theorem rB:(Ns Tryd.prog pr2 100).call (.fn 10) [] []=some (.ret (.bool true),[]):=by kernel_rfl
theorem aaO:Fq.call (.fn 10) [] []=some (.ret (.bool true),[]):=aaY (pr:=pr) (pr2:=pr2) rfl aoC ai3 rB
def mJ(w:Au):Bool:=decide ((w.parts.length:Int)≤15)
theorem ac2(w:Au):Fq.call (.fn 9) [.agg [.int .i64 w.rooms,.int .i64 w.need,Dh 9 true w.nn (w.parts.map Ag.cells)]] []=some (.ret (.bool (mJ w)),[]):=by
 cases c:mJ w
 ·have h:decide ((w.parts.length:Int)≤15)=false:=c
  (refine ce Tryd.func9 ?_;simp only[Tryd.f9];(have hb:=trivial;with_reducible repeat' (first|simp only[hb,Va.down,seval,TY9.down,h,abP]|refine Br ?_ ?_<;>intro hb|refine fd ?_|fail)))
 ·have h:decide ((w.parts.length:Int)≤15)=true:=c
  (refine ce Tryd.func9 ?_;simp only[Tryd.f9];(have hb:=trivial;with_reducible repeat' (first|simp only[hb,Va.down,seval,TY9.down,h,abP]|refine Br ?_ ?_<;>intro hb|refine fd ?_|fail)))
theorem aiM(L:List (Int × Bool))(d:Nat):(Gz L).all (Aq (d+1))=true:=abY.2 fun x hx=>by rcases Jp L x hx with⟨n,rfl⟩|⟨b,rfl⟩<;>rfl
theorem xC(w:Au)(i:Int):Fq.call (.fn 20) [.agg [.int .i64 w.rooms,.int .i64 w.need,Dh 9 true w.nn (w.parts.map Ag.cells)],.int .i64 i] []=some (.ret (.bool (Jz i 0 (IntKind.i64.wrap ((w.parts.length:Int)-1)))),[]):=by
 have h:=fZ i 0 (IntKind.i64.wrap ((w.parts.length:Int)-1))
 (refine ce Tryd.func20 ?_;simp only[Tryd.f20];(have hb:=trivial;with_reducible repeat' (first|simp only[hb,Vc.down,seval,aJY.down,h,abP]|refine Br ?_ ?_<;>intro hb|refine fd ?_|fail)))
def Ya(v:AV)(l:List Nat)(h:Aa)(lo:Nat):Prop:=(l=[]∧v=.nils)∨(l≠[]∧∃b,lo≤b∧v=.slr 1 b 0 l.length∧h[b]?=some (.live 1 true false (l.map Ez)))
theorem Ya.app{v:AV}{l:List Nat}{h:Aa}{lo:Nat}(B:Ya v l h lo)(x:Aa):Ya v l (h++x) lo:=by
 rcases B with h1|⟨h1,b,h2,h3,h4⟩
 ·exact .inl h1
 ·exact .inr ⟨h1,b,h2,h3,Ak h4 x⟩
def toI(p:Ag)(r:Int):Int:=if p.one=r then p.other else if p.other=r then p.one else -1
theorem aMH(p:Ag)(r:Int):Fq.call (.fn 44) [.agg p.cells,.int .i64 r] []=some (.ret (.int .i64 (toI p r)),[]):=by
 unfold toI
 by_cases e1:p.one=r
 ·have q1:(p.one==r)=true:=by simp[e1]
  rw[if_pos e1]
  (refine ce Tryd.func44 ?_;simp only[Tryd.f44];(have hb:=trivial;with_reducible repeat' (first|simp only[hb,Va.down,seval,ahX.down,q1,Ag.cells]|refine Br ?_ ?_<;>intro hb|refine fd ?_|fail)))
 ·have q1:(p.one==r)=false:=by simp[e1]
  rw[if_neg e1]
  by_cases e2:p.other=r
  ·have q2:(p.other==r)=true:=by simp[e2]
   rw[if_pos e2]
   (refine ce Tryd.func44 ?_;simp only[Tryd.f44];(have hb:=trivial;with_reducible repeat' (first|simp only[hb,Va.down,seval,ahX.down,q1,q2,Ag.cells]|refine Br ?_ ?_<;>intro hb|refine fd ?_|fail)))
  ·have q2:(p.other==r)=false:=by simp[e2]
   rw[if_neg e2]
   (refine ce Tryd.func44 ?_;simp only[Tryd.f44];(have hb:=trivial;with_reducible repeat' (first|simp only[hb,Va.down,seval,ahX.down,q1,q2,Ag.cells]|refine Br ?_ ?_<;>intro hb|refine fd ?_|fail)))
theorem agE(l:List Int)(nn:Bool)(n:Int)(hl:l.length≤maxLen):Fq.call (.fn 21) [Dh 1 true nn (l.map iv),.int .i64 n] []=some (.ret (.bool (l.any (· ==n))),[]):=by
 (refine ce Tryd.func21 ?_;simp only[Tryd.f21];(have hb:=trivial;with_reducible repeat' (first|simp only[hb,Vc.down,seval,tN.down,abP]|refine Br ?_ ?_<;>intro hb|refine fd ?_|fail)))
 refine Ls (eI 18 l (fun i (zz:Unit) t h=>t 0=Dh 1 true nn (l.map iv)∧t 1=.int .i64 n∧t 5=.int .i64 i∧(h=[])) (fun rest zz=>rest.any (· ==n)) (fun r e t h=>h=[]∧((e=.exit 0∧r=false)∨(e=.ret∧t 4=.bool true∧r=true))) ?_ ?_ () _ _ ?_) (fun e t h hk=>?_)
 ·rintro _ t h Q' kQ ⟨h0,h1,h5,rfl⟩
  (have hb:=trivial;with_reducible repeat' (first|simp only[hb,Vc.down,seval,tN.down,h0,h1,h5,agQ,decide_false,abP]|refine Br ?_ ?_<;>intro hb|refine fd ?_|fail))
  exact kQ _ _ _ ⟨rfl,.inl ⟨rfl,rfl⟩⟩
 ·rintro x rest i _ t h J Q' kJ kQ hx hi ⟨h0,h1,h5,rfl⟩
  have hd:decide ((i:Int)<(l.length:Int))=true:=decide_eq_true (by omega)
  have hw:=Em hi hl
  cases q:(x==n)
  ·(have hb:=trivial;with_reducible repeat' (first|simp only[hb,Vc.down,seval,tN.down,h0,h1,h5,hd,hw,hx,iv,q,abP]|refine Br ?_ ?_<;>intro hb|refine fd ?_|fail))
   (refine Db (kJ _ _ () ⟨?_,?_,?_,rfl⟩ ?_);(simp[up,h0]);(simp[up,h1]);(simp[up]);(simp[q]))
  ·(have hb:=trivial;with_reducible repeat' (first|simp only[hb,Vc.down,seval,tN.down,h0,h1,h5,hd,hw,hx,iv,q,abP]|refine Br ?_ ?_<;>intro hb|refine fd ?_|fail))
   exact kQ _ _ _ ⟨rfl,.inr ⟨rfl,by simp[up],by simp[q]⟩⟩
 ·exact⟨by simp[up,Qo],by simp[up,Qo],by simp[up],rfl⟩
 obtain⟨rfl,⟨rfl,hr⟩|⟨rfl,h4,hr⟩⟩:=hk
 ·rw[hr]
  (have hb:=trivial;with_reducible repeat' (first|simp only[hb,Vc.down,seval,tN.down]|refine Br ?_ ?_<;>intro hb|refine fd ?_|fail))
 ·rw[hr]
  (have hb:=trivial;with_reducible repeat' (first|simp only[hb,Vc.down,seval,tN.down,h4]|refine Br ?_ ?_<;>intro hb|refine fd ?_|fail))
theorem ah6(l:List Nat)(nn:Bool)(n:Nat)(hl:l.length≤maxLen):Fq.call (.fn 21) [Dh 1 true nn (l.map Ez),.int .i64 (n:Int)] []=some (.ret (.bool (l.contains n)),[]):=by
 have h:=agE (l.map ajK) nn n (by simpa using hl)
 have e:(l.map ajK).map iv=l.map Ez:=by rw[List.map_map];rfl
 have e2:(l.map ajK).any (· ==(n:Int))=l.contains n:=by
  clear h e hl
  induction l with
  |nil=>rfl
  |cons a l ih=>
   rw[List.map_cons,List.any_cons,ih,List.contains_cons]
   congr 1
   rw[Bool.eq_iff_iff];simp
   omega
 rw[e,e2]at h
 exact h
theorem amZ{p:Ag}{r c:Nat}(h1:0≤p.one)(h2:0≤p.other):toI p (r:Int)=match bW (p.one.toNat,p.other.toNat,c) r with
 |none=> -1
 |some v=>(v:Int):=by
 unfold toI bW
 by_cases e1:p.one=(r:Int)
 ·rw[if_pos e1,if_pos (show p.one.toNat=r by omega)];simp only;omega
 ·rw[if_neg e1,if_neg (show ¬p.one.toNat=r by omega)]
  by_cases e2:p.other=(r:Int)
  ·rw[if_pos e2,if_pos (show p.other.toNat=r by omega)];simp only;omega
  ·rw[if_neg e2,if_neg (show ¬p.other.toNat=r by omega)]
structure LLH(lo:Nat)(ov:AV)(h:Aa)(rows Q:List (List AV))(Ro:List Nat):Prop where
 own:adS 0 1 false rows ov h
 nil:rows=[]→ov=.nils
 q:Bq (rd 5 (hf h)) rows=some (Q,Ro)
 dx:∀b∈Ro,lo≤b
 dov:∀st b r n,ov=.slr st b r n→lo≤b∧b∉Ro∧b<h.length
theorem LLH.keep{lo:Nat}{ov:AV}{h h':Aa}{rows Q:List (List AV)}{Ro:List Nat}(I:LLH lo ov h rows Q Ro)(hl:h.length≤h'.length)(k:∀b,b<h.length→h'[b]?=h[b]?):LLH lo ov h' rows Q Ro:=by
 refine⟨?_,I.nil,?_,I.dx,fun st b r n e=>?_⟩
 ·rcases I.own with h1|⟨b,w,h1,h2⟩
  ·exact .inl h1
  ·exact .inr ⟨b,w,h1,by rw[k b (Ac h2)];exact h2⟩
 ·refine cE I.q fun j hj z hz=>?_
  show(h'[j]?).bind Aw=_
  rw[k j (eC (by omega) I.q j hj)];exact hz
 ·obtain⟨a,b,c⟩:=I.dov st b r n e
  exact⟨a,b,by omega⟩
theorem LLH.snoc{lo:Nat}{ov:AV}{h h':Aa}{rows Q:List (List AV)}{Ro:List Nat}(I:LLH lo ov h rows Q Ro)(hl:h.length≤h'.length)(k:∀b,b<h.length→h'[b]?=h[b]?){v:AV}{x:List Nat}(B:Ya v x h' h.length)(hlo:lo≤h.length)(a:CB){m n:Nat}(hm:m=h'.length+1)(hn:n=rows.length+1):
 ∃R',R'.length≤1∧LLH lo (.slr 1 m 0 n) (kl 0 ov h'++[a,.live 1 false false (rows++[[v]])]) (rows++[[v]]) (Q++[[Dh 1 true false (x.map Ez)]]) (Ro++R'):=by
 subst hm hn
 have I':=I.keep hl k
 have lR:=eC (by omega) I.q
 have get:∀j,j<h'.length→(∀st m r n,ov=.slr st m r n→m≠j)→(kl 0 ov h'++[a,.live 1 false false (rows++[[v]])])[j]?=h'[j]?:=fun j hj ho=>jS _ hj ho
 have hlen:(kl 0 ov h').length=h'.length:=eS ..
 have hnew:(kl 0 ov h'++[a,.live 1 false false (rows++[[v]])])[h'.length+1]?=some (.live 1 false false (rows++[[v]])):=by
  rw[abS (by omega),hlen,show h'.length+1-h'.length=1 by omega];rfl
 have q1:Bq (rd 5 (hf (kl 0 ov h'++[a,.live 1 false false (rows++[[v]])]))) rows=some (Q,Ro):=cE I'.q fun j hj z hz=>by
  show((kl 0 ov h'++_)[j]?).bind Aw=_
  rw[get j (by have:=lR j hj;omega) fun st m r n e e2=>(I.dov st m r n e).2.1 (e2▸hj)];exact hz
 have rv:∃R',R'.length≤1∧(∀b∈R',h.length≤b∧b<h'.length)∧rd 5 (hf (kl 0 ov h'++[a,.live 1 false false (rows++[[v]])])) v=some (Dh 1 true false (x.map Ez),R'):=by
  rcases B with⟨rfl,rfl⟩|⟨hx,b,hb,rfl,hg⟩
  ·exact⟨[],by simp,by simp,rfl⟩
  ·refine⟨[b],by simp,fun c hc=>?_,?_⟩
   ·simp at hc;subst hc;exact⟨hb,Ac hg⟩
   ·rw[ajT (by simpa using hx)]
    refine ao6 ?_ (by simp)
    show((kl 0 ov h'++_)[b]?).bind Aw=_
    rw[get b (Ac hg) fun st m r n e e2=>by have:=(I.dov st m r n e).2.2;omega,hg];rfl
 obtain⟨R',r1,r2,r3⟩:=rv
 refine⟨R',r1,.inr ⟨h'.length+1,false,by simp,hnew⟩,fun e=>by simp at e,?_,fun b hb=>?_,fun st b r n e=>?_⟩
 ·have:=Ys q1 (fO r3 oY)
  simpa using this
 ·rcases akZ.1 hb with hb|hb
  ·exact I.dx b hb
  ·have:=r2 b hb;omega
 ·cases e
  refine⟨by omega,fun hb=>?_,by simp[hlen]⟩
  rcases akZ.1 hb with hb|hb
  ·have:=lR _ hb;omega
  ·have:=r2 _ hb;omega
def Lr(E:List Net.Edge)(d:List Nat)(k i:Nat):Bool:=match E[i]? with
 |some e=>e.2.2==1&&min (d.getD e.1 0) (d.getD e.2.1 0)==k&&max (d.getD e.1 0) (d.getD e.2.1 0)==k+1
 |none=>false
def Zh(E:List Net.Edge)(d:List Nat)(n k:Nat):List Nat:=(afE n).filter (Lr E d k)
def Nr(E:List Net.Edge)(d:List Nat)(n c:Nat):List (List AV):=(afE c).map fun k=>[Dh 1 true false ((Zh E d n k).map Ez)]
theorem sY(p:Nat→Bool)(i:Nat):(afE (i+1)).filter p=(afE i).filter p++if p i=true then [i]else []:=by
 rw[ak3,List.filter_append,List.filter_cons,List.filter_nil]
theorem nU(E:List Net.Edge)(d:List Nat)(n c:Nat):Nr E d n (c+1)=Nr E d n c++[[Dh 1 true false ((Zh E d n c).map Ez)]]:=by
 unfold Nr;rw[ak3,af9];rfl
theorem alZ{w:Au}{N:Nat}(hw:tO w N){d r:Int}{y:AV}{lb rb kb:Nat}(Is:Nat→Aa→Prop)(Stop:Aa→Prop)
 (hL:∀i h,Is i h→∃w1,h[lb]?=some (.live 1 false w1 [[.ptr kb 0 0]])) (hK:∀i h,Is i h→∃w2,h[kb]?=some (.live 4 false w2 [[.int .i64 w.rooms,.int .i64 w.need,Dh 9 true w.nn (w.parts.map Ag.cells),.int .i64 d]])) (hR:∀i h,Is i h→∃w3,h[rb]?=some (.live 1 true w3 [[.int .i64 r]]))
 (hA:∀i h fl wf (rows:List (List AV)),Is i h→Is i (h++[.live 9 fl wf rows]))
 (hS:∀(i:Nat) (p:Ag) (u:Int) h,w.parts[i]?=some p→((p.one=r∧u=p.other)∨(p.one≠r∧p.other=r∧u=p.one))→Is i h→(∃es,cl Fq h (some y) (some [.int .i64 i,.int .i64 u])=some (.ret (.bool true),es)∧Is (i+1) (Ax h es))∨∃es,cl Fq h (some y) (some [.int .i64 i,.int .i64 u])=some (.ret (.bool false),es)∧Stop (Ax h es))
 (hN:∀(i:Nat) (p:Ag) h,w.parts[i]?=some p→p.one≠r→p.other≠r→Is i h→Is (i+1) h)
 {h0:Aa} (h0I:Is 0 h0):mU Fq 71 [y,.ptr lb 0 0,.ptr rb 0 0] h0 fun o h'=>o=.ret (.tup [])∧(Is w.parts.length h'∨Stop h'):=by
 obtain⟨w1,hl⟩:=hL _ _ h0I
 obtain⟨w2,hk0⟩:=hK _ _ h0I
 have hlen:=hw.len
 refine mT rfl Tryd.func71 rfl rfl ?_
 simp only[Tryd.f71]
 (have hb:=trivial;with_reducible repeat' (first|simp only[hb,Vc.down,seval,Uy.down,hl,hk0,abP]|refine Br ?_ ?_<;>intro hb|refine fd ?_|fail))
 refine Ls (eI 41 w.parts (fun i (_:Unit) t h=>t 0=y∧t 1=.ptr lb 0 0∧t 2=.ptr rb 0 0∧t 11=Dh 9 true w.nn (w.parts.map Ag.cells)∧t 12=.int .i64 (w.parts.length:Nat)∧t 13=.int .i64 (i:Int)∧Is i h) (fun _ _=>()) (fun _ e t h=>(e=.exit 0∧Is w.parts.length h)∨(e=.ret∧Stop h)) ?_ ?_ () _ _ ?_) (fun e t h hk=>?_)
 ·rintro _ t h Q' kQ ⟨g0,g1,g2,g11,g12,g13,hI⟩
  (have hb:=trivial;with_reducible repeat' (first|simp only[hb,Vc.down,seval,Uy.down,g12,g13,agQ,decide_false]|refine Br ?_ ?_<;>intro hb|refine fd ?_|fail))
  exact kQ _ _ _ (.inl ⟨rfl,hI⟩)
 ·rintro p rest i _ t h J Q' kJ kQ hx hi ⟨g0,g1,g2,g11,g12,g13,hI⟩
  have hdd:decide ((i:Int)<(w.parts.length:Int))=true:=decide_eq_true (by omega)
  have hww:=Em hi (by unfold maxLen;omega)
  have hpo:=hw.part p (ah1 hx)
  obtain⟨w3,hr⟩:=hR _ _ hI
  have hr1:=Ak hr
  have hv1:=hA _ _ true true [p.cells] hI
  have c1:decide ((0:Int)≤p.other)=true:=decide_eq_true hpo.2.1.1
  have c2:decide ((0:Int)≤p.one)=true:=decide_eq_true hpo.1.1
  have c3:decide ((0:Int)≤ -1)=false:=rfl
  by_cases e1:p.one=r
  ·have q1:(r==p.one)=true:=by simp[e1]
   rcases hS i p p.other _ hx (.inl ⟨e1,rfl⟩) hv1 with⟨es,hes,hv2⟩|⟨es,hes,hv2⟩
   ·simp only[Ag.cells]at hes hv2
    (have hb:=trivial;with_reducible repeat' (first|simp only[hb,Vc.down,seval,Uy.down,g0,g1,g2,g11,g12,g13,hdd,hww,hx,hr,hr1,q1,c1,hes,Ag.cells]|refine Br ?_ ?_<;>intro hb|refine fd ?_|fail))
    exact Db (kJ _ _ () ⟨by simp[up,g0],by simp[up,g1],by simp[up,g2],by simp[up,g11],by simp[up,g12],by simp[up],hv2⟩ rfl)
   ·simp only[Ag.cells]at hes hv2
    (have hb:=trivial;with_reducible repeat' (first|simp only[hb,Vc.down,seval,Uy.down,g0,g1,g2,g11,g12,g13,hdd,hww,hx,hr,hr1,q1,c1,hes,Ag.cells]|refine Br ?_ ?_<;>intro hb|refine fd ?_|fail))
    exact kQ _ _ _ (.inr ⟨rfl,hv2⟩)
  ·have q1:(r==p.one)=false:=by simp;exact fun e=>e1 e.symm
   by_cases e2:p.other=r
   ·have q2:(r==p.other)=true:=by simp[e2]
    rcases hS i p p.one _ hx (.inr ⟨e1,e2,rfl⟩) hv1 with⟨es,hes,hv2⟩|⟨es,hes,hv2⟩
    ·simp only[Ag.cells]at hes hv2
     (have hb:=trivial;with_reducible repeat' (first|simp only[hb,Vc.down,seval,Uy.down,g0,g1,g2,g11,g12,g13,hdd,hww,hx,hr,hr1,q1,q2,c2,hes,Ag.cells]|refine Br ?_ ?_<;>intro hb|refine fd ?_|fail))
     exact Db (kJ _ _ () ⟨by simp[up,g0],by simp[up,g1],by simp[up,g2],by simp[up,g11],by simp[up,g12],by simp[up],hv2⟩ rfl)
    ·simp only[Ag.cells]at hes hv2
     (have hb:=trivial;with_reducible repeat' (first|simp only[hb,Vc.down,seval,Uy.down,g0,g1,g2,g11,g12,g13,hdd,hww,hx,hr,hr1,q1,q2,c2,hes,Ag.cells]|refine Br ?_ ?_<;>intro hb|refine fd ?_|fail))
     exact kQ _ _ _ (.inr ⟨rfl,hv2⟩)
   ·have q2:(r==p.other)=false:=by simp;exact fun e=>e2 e.symm
    have hv2:=hN i p _ hx e1 e2 hv1
    simp only[Ag.cells]at hv2
    (have hb:=trivial;with_reducible repeat' (first|simp only[hb,Vc.down,seval,Uy.down,g0,g1,g2,g11,g12,g13,hdd,hww,hx,hr,hr1,q1,q2,c3,Ag.cells]|refine Br ?_ ?_<;>intro hb|refine fd ?_|fail))
    exact Db (kJ _ _ () ⟨by simp[up,g0],by simp[up,g1],by simp[up,g2],by simp[up,g11],by simp[up,g12],by simp[up],hv2⟩ rfl)
 ·exact⟨by simp[up,Qo],by simp[up,Qo],by simp[up,Qo],by simp[up],by simp[up],by simp[up],h0I⟩
 rcases hk with⟨rfl,hI⟩|⟨rfl,hI⟩
 ·(have hb:=trivial;with_reducible repeat' (first|simp only[hb,Vc.down,seval,Uy.down]|refine Br ?_ ?_<;>intro hb|refine fd ?_|fail))
  exact .inl hI
 ·(have hb:=trivial;with_reducible repeat' (first|simp only[hb,Vc.down,seval,Uy.down]|refine Br ?_ ?_<;>intro hb|refine fd ?_|fail))
  exact .inr hI
end Go.Proofs.YtckfcfcmfjfchaaDoor
