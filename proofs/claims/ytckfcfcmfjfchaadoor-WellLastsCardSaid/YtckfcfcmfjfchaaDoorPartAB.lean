/- The functions of the layer, walked. -/
import Derived.Test.YtckfcfcmfjfchaaDoorLibE
import Derived.Test.YtckfcfcmfjfchaaDoorPartAA
import Derived.Test.YtckfcfcmfjfchaaDoorLibD
open List renaming replicate→acD,length_map→akZ,getElem?_set_ne→ak3,mem_cons→alE,getElem?_eq_getElem→amE,getElem?_append_right→am5,not_mem_nil→anO,length_cons→an2,range→an3,getElem?_set_self→aoC,nil_append→aoD,all_eq_true→aoU,range'→ao2,mem_cons_self→ao5,getElem?_map→apG,take→apH,length_replicate→aqD,take_of_length_le→arT,getElem?_append_left→arY,map_append→arZ,getElem?_eq_some_iff→ar1,map_set→asY,mem_of_getElem?→asZ,all_cons→atM,filter_cons→au4,mem_cons_of_mem→awA,ext_getElem?→axG,replicate_succ→ayF,cons_append→ayG,mem_flatMap→ayH,getElem?_replicate→aAF,range'_succ→aB8,mem_append→aCX,range_succ→aDB
open Nat renaming le_refl→am7,sub_self→asB,add_sub_cancel_left→as0,le_succ_of_le→au5
open Int renaming lt_irrefl→aq4,ofNat→au9,toNat_natCast→ayW
open Option renaming map_eq_some_iff→au2,bind_eq_some_iff→aAI
set_option linter.unusedSimpArgs false
set_option linter.unusedVariables false
namespace Go.Proofs.YtckfcfcmfjfchaaDoor
open Go.Ev Go Go.Ev.Net
set_option maxRecDepth 100000
set_option maxHeartbeats 16000000
theorem aGH{vs:List AV}{b:Nat}{h:qR}{ps:List Nat}{asg body:Code}{tm:List AV}{st:LSt}{Q:Out→qR→Prop}(hb:h[b]?=some (.lp ps asg body tm st))(hl:ps.length=vs.length)
 (he:RnE b Q (aQQ om' Tryd.prog b body (evM om' Tryd.prog 5000 asg [] ⟨ar2 tm ps vs,h⟩))):RnQ om' (vs++[.yl b]) h Q:=RnQ.start (pr:=pr) hb hl he
theorem aI0{O:Orc}{H:qR}{b:Nat}{vs:List AV}{Q:Out→qR→Prop}(K:RnQ O (vs++[.yl b]) (clH H) Q)(ok:∀o G,Q o G→aCU H G):
 ∃o G es,cl O H (some (.yl b)) (some vs)=some (o,es)∧ag5 H es=mrg H G∧Q o G:=by
 obtain⟨o,G,hc,hq⟩:=K
 obtain⟨es,e1,e2⟩:=as5 H G [] (ok o G hq)
 refine⟨o,G,es,?_,by simpa using e2,hq⟩
 rw[a0U,hc,aw1]
 have e1':ak2 0 H G=some es:=e1
 rw[e1'];rfl
def al0:Nat:=1048576
def DiH(LK:CB)(e:Bool)(ps:List AV)(N:Nat)(h:qR)(dd q K:List Nat):Prop:=∃f v fl w,
 h[0]?=some LK∧h[1]?=some (.live 24 true false [ps])∧h[2]?=some (.live 1 true f (dd.map nvv))∧h[3]?=some (.live 1 false e [[.slr 1 2 0 N]])∧h[5]?=some (.live 1 false e [[.ptr 4 0 0]])∧h[4]?=some (.live 1 fl w [[v]])∧QS v q h 4∧(∀b∈scB v,6≤b∧b∉K)∧acI h=true
theorem DiH.app{LK:CB}{e:Bool}{ps:List AV}{N:Nat}{h:qR}{dd q K:List Nat}(D:DiH LK e ps N h dd q K){L:qR}(hL:acI L=true):DiH LK e ps N (h++L) dd q K:=by
 obtain⟨f,v,fl,w',i0,i1,i2,i3,i5,i4,iQ,iB,iq⟩:=D
 refine⟨f,v,fl,w',acG i0 L,acG i1 L,acG i2 L,acG i3 L,acG i5 L,acG i4 L,?_,iB,ahG iq hL⟩
 rcases iQ with h|⟨b,w',rows,r,h1,h2,h3⟩
 ·exact .inl h
 ·exact .inr ⟨b,w',rows,r,h1,acG h2 _,h3⟩
def Okw(H G:qR):Prop:=H.length≤G.length∧∀(b:Nat) (c0 c:CB),H[b]?=some c0→G[b]?=some c→(c0.quiet c=true∧c0.clean=c.clean)∨(c0.isLive=true∧((∃st fl rows,c=.live st fl true rows)∨c=.dead))
theorem auL{c0 c:CB}(h:c0.isLive=true)(hc:(∃st fl rows,c=.live st fl true rows)∨c=.dead):c0.quiet c=false:=by
 rcases hc with⟨_,_,_,rfl⟩|rfl<;>cases c0<;>first|rfl|(simp[CB.isLive]at h;done)|(simp[CB.quiet,CB.same];done)
theorem Okw.sh{H G:qR}(k:Okw H G):aCU H G:=⟨k.1,fun b c0 c h0 h1=>(k.2 b c0 c h0 h1).imp (fun h=>h.1) (fun h=>h.1)⟩
theorem aHO{c0 c1:CB}(h:c0.clean=c1.clean)(h1:c1.isLive=true):c0.isLive=true:=by cases c0<;>cases c1<;>first|rfl|(simp[CB.clean]at h;done)|cases h1
theorem arG(c:CB):c.clean.clean=c.clean:=by cases c<;>rfl
theorem Okw.app{H G:qR}(k:Okw H G)(l:qR):Okw H (G++l):=⟨by simp;have:=k.1;omega,fun b c0 c h0 h1=>k.2 b c0 c h0 (by
 have:=qS h0
 have:=k.1
 rw[arY (by omega)]at h1;exact h1)⟩
theorem Okw.cl{H:qR}(h:acI H=true):Okw H (clH H):=⟨by rw[af4];exact am7 _,fun b c0 c h0 h1=>by
 rw[ajX h0]at h1;cases h1
 exact .inl ⟨akY h h0,(arG c0).symm⟩⟩
theorem Okw.keep{H G:qR}{X:List Nat}(h:acI H=true)(K:auV X (clH H) G)(hX:∀b∈X,∃c0 c,H[b]?=some c0∧G[b]?=some c∧c0.isLive=true∧((∃st fl rows,c=.live st fl true rows)∨c=.dead)):Okw H G:=⟨by have:=K.len;rwa[af4]at this,fun b c0 c h0 h1=>by
 by_cases hb:b∈X
 ·obtain⟨d0,d,e0,e1,e2⟩:=hX b hb
  rw[h0]at e0;rw[h1]at e1;cases e0;cases e1
  exact .inr e2
 ·rw[K.same b (by rw[af4];exact qS h0) hb,ajX h0]at h1;cases h1
  exact .inl ⟨akY h h0,(arG c0).symm⟩⟩
theorem Okw.mrg_clean{H G:qR}(k:Okw H G){b:Nat}{c:CB}(hc:G[b]?=some c):∃c',(mrg H G)[b]?=some c'∧c'.clean=c.clean:=by
 by_cases hb:b<H.length
 ·have h0:H[b]?=some H[b]:=amE hb
  rcases k.2 b _ c h0 hc with⟨h1,h2⟩|⟨h1,h2⟩
  ·exact⟨_,apL h0 hc h1,h2⟩
  ·refine⟨_,asC h0 hc (auL h1 h2),?_⟩
   rcases h2 with⟨_,_,_,rfl⟩|rfl<;>rfl
 ·exact⟨c,by rw[aAB k.1 (by omega)];exact hc,rfl⟩
theorem Okw.trans{H h' G:qR}(k:Okw H h')(k':Okw h' G):Okw H (mrg h' G):=by
 refine⟨by rw[arI k'.1];exact Nat.le_trans k.1 k'.1,fun b c0 c h0 h1=>?_⟩
 have hb:=qS h0
 have e1:h'[b]?=some (h'[b]'(by have:=k.1;omega)):=amE _
 have e2:G[b]?=some (G[b]'(by have:=k.1;have:=k'.1;omega)):=amE _
 generalize h'[b]'(by have:=k.1;omega)=c1 at *
 generalize G[b]'(by have:=k.1;have:=k'.1;omega)=c2 at *
 rcases k'.2 b _ _ e1 e2 with⟨g1,g2⟩|⟨g1,g2⟩
 ·rw[apL e1 e2 g1]at h1;cases h1
  exact k.2 b _ _ h0 e1
 ·rw[asC e1 e2 (auL g1 g2)]at h1
  have:c2.mark=c2:=by rcases g2 with⟨_,_,_,rfl⟩|rfl<;>rfl
  rw[this]at h1;cases h1
  refine .inr ⟨?_,g2⟩
  rcases k.2 b _ _ h0 e1 with⟨_,h⟩|⟨h,_⟩
  ·exact aHO h g1
  ·exact h
theorem Okw.old{H G:qR}{b:Nat}{c0 c:CB}(h0:H[b]?=some c0)(h1:G[b]?=some c)(hq:c0.quiet c=true):(mrg H G)[b]?=some c0:=apL h0 h1 hq
theorem aQN{c:CB}{st:Nat}{fl w:Bool}{rows:List (List AV)}(h:c.clean=(CB.live st fl w rows).clean):∃w',c=.live st fl w' rows:=by
 cases c<;>simp[CB.clean]at h
 obtain⟨rfl,rfl,rfl⟩:=h
 exact⟨_,rfl⟩
theorem Okw.live{H G:qR}(k:Okw H G){b st:Nat}{fl w:Bool}{rows:List (List AV)}(hc:G[b]?=some (.live st fl w rows)):∃w',(mrg H G)[b]?=some (.live st fl w' rows):=by
 obtain⟨c',h1,h2⟩:=k.mrg_clean hc
 obtain⟨w',rfl⟩:=aQN h2
 exact⟨w',h1⟩
theorem QS.okw{H G:qR}(k:Okw H G){v:AV}{q:List Nat}{p:Nat}(h:QS v q G p):QS v q (mrg H G) p:=by
 rcases h with h|⟨b,w,rows,r,h1,h2,h3,h4,h5⟩
 ·exact .inl h
 ·obtain⟨w',h6⟩:=k.live h2
  exact .inr ⟨b,w',rows,r,h1,h6,h3,h4,h5⟩
theorem Okw.quiet{H G:qR}(k:Okw H G)(h:acI H=true)(h':acI G=true):acI (mrg H G)=true:=by
 refine axE fun c hc=>?_
 obtain⟨b,hb⟩:=List.getElem?_of_mem hc
 have hbl:=qS hb
 rw[arI k.1]at hbl
 have e2:G[b]?=some G[b]:=amE hbl
 generalize G[b]=c2 at *
 by_cases hl:b<H.length
 ·have e1:H[b]?=some H[b]:=amE hl
  generalize H[b]=c1 at *
  rcases k.2 b _ _ e1 e2 with⟨g1,g2⟩|⟨g1,g2⟩
  ·rw[apL e1 e2 g1]at hb;cases hb;exact akY h e1
  ·rw[asC e1 e2 (auL g1 g2)]at hb;cases hb;exact aAT (akY h' e2)
 ·rw[aAB k.1 (by omega),e2]at hb;cases hb;exact akY h' e2
theorem aON{LK:CB}{e:Bool}{ps:List AV}{N:Nat}{h':qR}{dd q K:List Nat}{f:Bool}{v:AV}{fl w:Bool}(i0:h'[0]?=some LK)(i1:h'[1]?=some (.live 24 true false [ps]))(i2:h'[2]?=some (.live 1 true f (dd.map nvv)))(i3:h'[3]?=some (.live 1 false e [[.slr 1 2 0 N]]))(i5:h'[5]?=some (.live 1 false e [[.ptr 4 0 0]]))(i4:h'[4]?=some (.live 1 fl w [[v]]))(iQ:QS v q h' 4)(iB:∀b∈scB v,6≤b∧b∉K)(iq:acI h'=true)
 {B:Nat} {LP LB:CB} (hB:h'[B]?=some LP) (hBK:B∈K) (hK:∀b∈K,6≤b∧b<h'.length) (hLPc:LP.clean=LP) (hLPq:LP.quiet LP=true) {M:qR} {Y dd2 q2:List Nat} {v2:AV} {fl2:Bool} (m1:h'.length≤M.length) (m2:acI M=true) (m3:M[4]?=some (.live 1 fl2 true [[v2]])) (m4:QS v2 q2 M 4) (m5:∀b∈scB v2,h'.length≤b)
 (m6:∀b c,b∉Y→(((clH h').set B LB).set 2 (.live 1 true true (dd2.map nvv)))[b]?=some c→M[b]?=some c) (hY:4∈Y) (hY':∀b∈Y,b=4∨(b∈scB v∧M[b]?=some .dead)):
 Okw h' (M.set B LP)∧DiH LK e ps N (mrg h' (M.set B LP)) dd2 q2 K∧(∀b∈K,(mrg h' (M.set B LP))[b]?=h'[b]?)∧h'.length≤(mrg h' (M.set B LP)).length:=by
 have hBl:=qS hB
 have hB6:=(hK B hBK).1
 have h4l:=qS i4
 have hY6:∀b∈Y,b=4∨(6≤b∧b∉K):=fun b hb1=>(hY' b hb1).imp id (fun h=>iB b h.1)
 have h2Y:2∉Y:=fun h=>by rcases hY6 2 h with h|h<;>omega
 have hKY:∀b∈K,b∉2::Y:=fun b hb1 h=>by
  have:=(hK b hb1).1
  rcases alE.1 h with h|h
  ·omega
  ·rcases hY6 b h with h|h
   ·omega
   ·exact h.2 hb1
 have hg2:M[2]?=some (.live 1 true true (dd2.map nvv)):=m6 2 _ h2Y (aoC (by simp[af4];omega))
 have hK2:auV (2::Y) (clH h') (M.set B LP):=⟨by simpa [af4]using m1,fun b hb1 hn=>by
  rw[af4]at hb1
  obtain⟨c,hc⟩:∃c,h'[b]?=some c:=⟨_,amE hb1⟩
  by_cases e:b=B
  ·subst e
   rw[aoC (by omega),ajX hB,hLPc]
  ·rw[ak3 (fun h=>e h.symm)]
   have:=m6 b c.clean (fun h=>hn (awA _ h)) (by
    rw[ak3 (fun h=>hn (by rw[←h];exact ao5 ..)),ak3 (fun h=>e h.symm)];exact ajX hc)
   rw[this,ajX hc]⟩
 have hne:∀b,b≠B→(M.set B LP)[b]?=M[b]?:=fun b h=>ak3 (fun e=>h e.symm)
 have X:∀b∈2::Y,∃c0 c,h'[b]?=some c0∧(M.set B LP)[b]?=some c∧c0.isLive=true∧((∃st fl rows,c=.live st fl true rows)∨c=.dead):=fun b hb1=>by
  rcases alE.1 hb1 with rfl|hb1
  ·exact⟨_,_,i2,by rw[hne 2 (by omega)];exact hg2,rfl,.inl ⟨_,_,_,rfl⟩⟩
  ·rcases hY' b hb1 with rfl|⟨h1,h2⟩
   ·exact⟨_,_,i4,by rw[hne 4 (by omega)];exact m3,rfl,.inl ⟨_,_,_,rfl⟩⟩
   ·obtain⟨h3,w',rows,h5⟩:=iQ.lt b h1
    exact⟨_,_,h5,by rw[hne b (fun e=>(iB b h1).2 (e▸hBK))];exact h2,rfl,.inr rfl⟩
 have ok:=Okw.keep iq hK2 X
 have X':∀b∈2::Y,b<h'.length∧∀c0 c,h'[b]?=some c0→(M.set B LP)[b]?=some c→c0.isLive=true∧c0.quiet c=false:=fun b hb1=>by
  obtain⟨c0,c,h1,h2,h3,h4⟩:=X b hb1
  refine⟨qS h1,fun d0 d k1 k2=>?_⟩
  rw[h1]at k1;rw[h2]at k2;cases k1;cases k2
  exact⟨h3,auL h3 h4⟩
 obtain⟨g1,g2,g3,g4,g5⟩:=apY iq hK2 X'
 have low:∀b,b<6→b≠2→b≠4→(mrg h' (M.set B LP))[b]?=h'[b]?:=fun b h1 h2 h3=>g4 b (by have:=qS i5;omega) fun h=>by
  rcases alE.1 h with h|h
  ·exact h2 h
  ·rcases hY6 b h with h|h<;>omega
 refine⟨ok,⟨true,v2,fl2,true,by rw[low 0 (by omega) (by omega) (by omega)];exact i0,by rw[low 1 (by omega) (by omega) (by omega)];exact i1,?_,by rw[low 3 (by omega) (by omega) (by omega)];exact i3,by rw[low 5 (by omega) (by omega) (by omega)];exact i5,?_,?_,fun b hb1=>?_,?_⟩,fun b hb1=>g4 b (hK b hb1).2 (hKY b hb1),by rw[g2];simpa using m1⟩
 ·exact g5 2 (ao5 ..) _ (by rw[hne 2 (by omega)];exact hg2)
 ·exact g5 4 (awA _ hY) _ (by rw[hne 4 (by omega)];exact m3)
 ·rcases m4 with h|⟨b,w',rows,r,h1,h2,h3⟩
  ·exact .inl h
  ·have hb1:=m5 b (by rw[h1];simp[scB])
   exact .inr ⟨b,w',rows,r,h1,by rw[g3 b hb1,hne b (by omega)];exact h2,h3⟩
 ·have h1:=m5 b hb1
  exact⟨by omega,fun h=>by have:=(hK b h).2;omega⟩
 ·exact av7 iq hK2 X' (agD m2 B (by rw[hLPc];exact hLPq))
theorem aJ6{h' l:qR}(hq:acI h'=true):Okw h' (clH h'++l)∧mrg h' (clH h'++l)=h'++l:=by
 have K:auV [] (clH h') (clH h'++l):=auV.app _ _
 have X:∀b∈([]:List Nat),b<h'.length∧∀c0 c,h'[b]?=some c0→(clH h'++l)[b]?=some c→c0.isLive=true∧c0.quiet c=false:=fun b hb1=>by cases hb1
 obtain⟨g1,g2,g3,g4,_⟩:=apY hq K X
 refine⟨(Okw.cl hq).app l,axG fun b=>?_⟩
 by_cases hb1:b<h'.length
 ·rw[g4 b hb1 (by simp),arY hb1]
 ·rw[g3 b (by omega),am5 (by simp[af4];omega),am5 (by omega),af4]
theorem aTU:acB .nilp=[.nilp]:=Eq.trans rfl rfl
theorem aSC(n x:Nat):(acD n x).sum=n*x:=by
 induction n with
 |zero=>simp
 |succ n ih=>rw[ayF,List.sum_cons,ih,Nat.succ_mul];omega
theorem aFI:∀(l:List Nat) (s:Nat),(l.set s 0).sum≤l.sum
 | [],s=>by simp
 |a::l,0=>by simp
 |a::l,s+1=>by have:=aFI l s;simp;omega
theorem aQT{N s far:Nat}(h:N≤8):(arQ N s far).sum≤8*far:=by
 unfold arQ
 refine Nat.le_trans (aFI _ _) ?_
 rw[aSC]
 exact Nat.mul_le_mul_right _ h
def tgB(x:Int × Bool):Bool:=x.1==0&& !x.2
def tgt(L:List (Int × Bool)):List Bool:=L.map tgB
theorem ay1{w:agR}{L:List (Int × Bool)}{i:Nat}{p:acC}{x:Int × Bool}(hp:w.parts[i]?=some p)(hx:L[i]?=some x):(edg w (tgt L))[i]?=some (p.one.toNat,p.other.toNat,if tgB x=true then 1 else 0):=by
 unfold edg tgt
 rw[List.getElem?_zipWith,apG,hp,hx];rfl
theorem auN{w:agR}{d:Int}:edg w (tgt (acE w d))=edg w (anZ w d):=by
 have e:∀(l:List acC) (r:List Bool) (f:acC→Bool→Net.Edge),List.zipWith f l (l.map (fun p=>awW p d)++r)=List.zipWith f l (l.map fun p=>awW p d):=by
  intro l;induction l with
  |nil=>intro r f;simp
  |cons a l ih=>intro r f;simp[ih]
 unfold edg tgt acE anZ
 rw[arZ,List.map_map]
 exact e _ _ _
theorem QS.app{v:AV}{q:List Nat}{H:qR}{p:Nat}(h:QS v q H p)(l:qR):QS v q (H++l) p:=by
 rcases h with h|⟨b,w,rows,r,h1,h2,h3⟩
 ·exact .inl h
 ·exact .inr ⟨b,w,rows,r,h1,acG h2 l,h3⟩
theorem aGB{h:qR}{b:Nat}{c:CB}(hc:h[b]?=some c):h.set b c=h:=by
 refine axG fun i=>?_
 by_cases e:b=i
 ·subst e;rw[aoC (qS hc),hc]
 ·rw[ak3 e]
theorem aBV:∀(L:List (Int × Bool)) (i:Nat) (a:Int) (b:Bool),L[i]?=some (a,b)→apH 2 (List.drop (i*2) (pcs L))=[.int .i64 a,.bool b]
 | [],i,a,b,h=>by simp at h
 |x::L,0,a,b,h=>by simp at h;subst h;simp[pcs]
 |x::L,i+1,a,b,h=>by
  have ih:=aBV L i a b (by simpa using h)
  rw[show(i+1)*2=(i*2)+1+1 by omega]
  simpa only[pcs,List.flatMap_cons,ayG,aoD,List.drop_succ_cons]using ih
theorem aDH{w:agR}{d:Int}{i:Nat}{p:acC}(hx:w.parts[i]?=some p):(acE w d)[i]?=some (aq6 p d,p.opn):=by
 unfold acE
 rw[arY (by rw[akZ];exact(ar1.1 hx).1),apG,hx];rfl
def no3:Nat→Nat→Nat→Prop:=fun _ _ _=>False
theorem avX{w:agR}{N:Nat}(hw:WOk w N)(h12:w.parts.length≤12){d:Int}{s:Nat}(hs:s<N){ps:List AV}{L:List (Int × Bool)}(hL12:L.length=12)(hps:ps=pcs L){wf:Bool}:
 ClQ om' 36 [.ptr 0 0 0,.int .i64 (s:Int),.agg ps] [.live 4 false wf [[.int .i64 w.rooms,.int .i64 w.need,slv 9 true w.nn (w.parts.map acC.cells),.int .i64 d]]] fun o h'=>
  ∃(f:Bool) (ds:List Nat),o=.ret (.slr 1 1 0 N)∧h'=[.live 4 false wf [[.int .i64 w.rooms,.int .i64 w.need,slv 9 true w.nn (w.parts.map acC.cells),.int .i64 d]],.live 1 true f (ds.map nvv)]∧ds.length=N∧aqV (edg w (tgt L)) s N al0 (fun v=>ds.getD v 0):=by
 have hr:=hw.rooms
 have n2:=hw.n2
 have n8:=hw.n8
 have hpl:ps.length=24:=by rw[hps,aq3];omega
 have hflat:ps.all AV.flat=true∧ps.all AV.isCell=true:=by
  subst hps
  have hform:∀x∈pcs L,(∃n,x=.int .i64 n)∨∃b,x=.bool b:=fun x hx=>by
   simp only[pcs,ayH,alE,anO,or_false]at hx
   obtain⟨y,_,rfl|rfl⟩:=hx
   ·exact .inl ⟨_,rfl⟩
   ·exact .inr ⟨_,rfl⟩
  exact⟨aoU.2 fun x hx=>by rcases hform x hx with⟨n,rfl⟩|⟨b,rfl⟩<;>rfl,aoU.2 fun x hx=>by rcases hform x hx with⟨n,rfl⟩|⟨b,rfl⟩<;>rfl⟩
 obtain⟨hf1,hf2⟩:=hflat
 refine aRX rfl Tryd.func36 rfl rfl ?_
 simp only[Tryd.f36]
 simp only[hr]
 have h39:(N≤549755813888)=True:=eq_true (by omega)
 have m1:((N:Int)≤(N:Int))=True:=eq_true (Int.le_refl _)
 have m2:((N:Int)≤1099511627776)=True:=eq_true (by omega)
 (have hb:=trivial;with_reducible repeat' (first|simp only[hb,Vc.down,seval,au3.down,hpl,hf1,hf2,h39,m1,m2,ayW]|refine fsp ?_ ?_<;>intro hb|refine fd ?_|fail))
 generalize hLK:(CB.live 4 false wf [[.int .i64 (N:Int),.int .i64 w.need,slv 9 true w.nn (w.parts.map acC.cells),.int .i64 d]])=LK
 refine atG (lst 85 (acD N ()) (fun i (_:Unit) t h=>t 0=.ptr 0 0 0∧t 1=.int .i64 (s:Int)∧t 5=.ptr 1 0 0∧t 7=.ptr 3 0 0∧t 23=.int .i64 (N:Int)∧t 24=.int .i64 (i:Int)∧∃f,h=[LK,.live 24 true false [ps],.live 1 true f ((acD i al0++acD (N-i) 0).map nvv),.live 1 false true [[.slr 1 2 0 N]]]) (fun _ _=>())
  (fun _ e t h=>e=.exit 0∧t 0=.ptr 0 0 0∧t 1=.int .i64 (s:Int)∧t 5=.ptr 1 0 0∧t 7=.ptr 3 0 0∧∃f,h=[LK,.live 24 true false [ps],.live 1 true f ((acD N al0).map nvv),.live 1 false true [[.slr 1 2 0 N]]]) ?_ ?_ () _ _ ?_) (fun e t h hk=>?_)
 ·rintro _ t h Q' kQ ⟨g0,g1,g5,g7,g23,g24,f,rfl⟩
  rw[aqD]at g24
  (have hb:=trivial;with_reducible repeat' (first|simp only[hb,Vc.down,seval,au3.down,g23,g24,aq4,decide_false]|refine fsp ?_ ?_<;>intro hb|refine fd ?_|fail))
  exact kQ _ _ _ ⟨rfl,by simp[up,g0],by simp[up,g1],by simp[up,g5],by simp[up,g7],f,by simp⟩
 ·rintro x rest i _ t h J Q' kJ kQ hx hi ⟨g0,g1,g5,g7,g23,g24,f,rfl⟩
  rw[aqD]at hi
  have hdd:decide ((i:Int)<(N:Int))=true:=decide_eq_true (by omega)
  have hdi:((i:Int)<(N:Int))=True:=eq_true (by omega)
  have hww:=aoH (n:=N) hi (by unfold maxLen;omega)
  have hrow:((acD i al0++acD (N-i) 0).map nvv)[i]?=some [.int .i64 0]:=by
   rw[apG,am5 (by simp),aqD,asB,aAF,if_pos (by omega)]
   rfl
  have hnx:((acD i al0++acD (N-i) 0).map nvv).set i [.int .i64 1048576]=(acD (i+1) al0++acD (N-(i+1)) 0).map nvv:=by
   have e:N-i=(N-(i+1))+1:=by omega
   rw[show([.int .i64 1048576]:List AV)=nvv al0 from rfl,←asY,List.set_append_right _ _ (by simp),aqD,asB,e,ayF,List.set_cons_zero,List.replicate_succ',List.append_assoc]
   rfl
  generalize(acD i al0++acD (N-i) 0).map nvv=rows at *
  (have hb:=trivial;with_reducible repeat' (first|simp only[hb,Vc.down,seval,au3.down,g0,g1,g5,g7,g23,g24,hdd,hdi,hww,hrow,hnx]|refine fsp ?_ ?_<;>intro hb|refine fd ?_|fail))
  exact alD (kJ _ _ () ⟨by simp[up,g0],by simp[up,g1],by simp[up,g5],by simp[up,g7],by simp[up,g23],by simp[up],true,rfl⟩ rfl)
 ·exact⟨by simp[up,ent],by simp[up,ent],by simp[up],by simp[up],by simp[up],by simp[up],false,by simp[nvv]⟩
 obtain⟨rfl,g0,g1,g5,g7,f,rfl⟩:=hk
 have hrow:s<((acD N al0).map nvv).length:=by simpa using hs
 have hz:((acD N al0).map nvv)[s]?=some [.int .i64 1048576]:=by rw[apG,aAF,if_pos hs];rfl
 have hin:((acD N al0).map nvv).set s [.int .i64 0]=(arQ N s al0).map nvv:=by rw[arQ,asY];rfl
 have o1:((s:Int)<(N:Int))=True:=eq_true (by omega)
 generalize hrw:(acD N al0).map nvv=rows at *
 obtain⟨q1,hq1⟩:∃q,Fn.func 56=q:=⟨_,rfl⟩
 obtain⟨q2,hq2⟩:∃q,Fn.func 57=q:=⟨_,rfl⟩
 have hLq:LK.quiet LK.clean=true:=by rw[←hLK];rfl
 obtain⟨es,M,b1,b2,b3,b4,⟨v',fl',b5,b6,b7⟩,b8,_⟩:=aU7 (h:=[LK,.live 24 true false [ps],.live 1 true true ((arQ N s al0).map nvv),.live 1 false true [[.slr 1 2 0 N]],.live 1 false false [[.nils]],.live 1 false true [[.ptr 4 0 0]]]) (axE fun c hc=>by
  simp only[alE,anO,or_false]at hc
  rcases hc with rfl|rfl|rfl|rfl|rfl|rfl
  ·exact hLq
  all_goals rfl) (p:=4) s rfl (.inl ⟨rfl,rfl⟩) (by simp)
 rw[hq1]at b1
 simp only[aoD]at b6
 obtain⟨es2,M2,c1,c2,c3,c4,⟨v2,fl2,c5,c6,c7⟩,c8⟩:=aVH b4 b5 b6 (by simp)
 rw[hq2]at c1
 have k3:=b8 3 _ (by simp[scB]) rfl
 have k5:=b8 5 _ (by simp[scB]) rfl
 have j3:=c8 3 _ (by omega) k3
 have j5:=c8 5 _ (by omega) k5
 have j0:=c8 0 _ (by omega) (b8 0 _ (by simp[scB]) rfl)
 have j1:=c8 1 _ (by omega) (b8 1 _ (by simp[scB]) rfl)
 have j2:=c8 2 _ (by omega) (b8 2 _ (by simp[scB]) rfl)
 (have hb:=trivial;with_reducible repeat' (first|simp only[hb,Vc.down,seval,au3.down,g0,g1,g5,g7,hz,hin,o1,hq1,hq2,b1,b2,c1,c2,k3,k5,j3,j5,aTU,ayW]|refine fsp ?_ ?_<;>intro hb|refine fd ?_|fail))
 generalize hE:edg w (tgt L)=E at *
 have hEo:EOk E N:=by rw[←hE];exact avV hw _
 have I0:=aUY (E:=E) (far:=al0) hs hEo
 have hsum:(arQ N s al0).sum≤8*1048576:=aQT n8
 refine atG (cnt 85 (fun n (_:Unit) t h=>t 0=.ptr 0 0 0∧t 1=.int .i64 (s:Int)∧t 5=.ptr 1 0 0∧t 7=.ptr 3 0 0∧t 9=.ptr 5 0 0∧∃dd q k,DiH LK true ps N h dd q [k]∧2*dd.sum+q.length≤20000000∧
  ((t 11=.bool true∧∃room w,t 10=.ptr k 0 0∧6≤k∧h[k]?=some (.live 1 true w [[.int .i64 (room:Nat)]])∧DqI E s N al0 dd (room::q) no3∧2*dd.sum+q.length+1≤n)∨(t 11=.bool false∧q=[]∧DqI E s N al0 dd [] no3))) (fun _ _=>())
  (fun _ e t h=>e=.exit 2∧t 7=.ptr 3 0 0∧∃dd k,DiH LK true ps N h dd [] [k]∧DqI E s N al0 dd [] no3) ?_ ?_ (2*(arQ N s al0).sum+1) () _ _ ?_) (fun e t h hk=>?_)
 ·rintro _ t h Q' kQ ⟨g0,g1,g5,g7,g9,dd,q,k,hD,hql,⟨g11,room,w5,g10,_,_,_,hm⟩|⟨g11,rfl,hI⟩⟩
  ·omega
  ·(have hb:=trivial;with_reducible repeat' (first|simp only[hb,Vc.down,seval,au3.down,g11]|refine fsp ?_ ?_<;>intro hb|refine fd ?_|fail))
   exact kQ _ _ _ ⟨rfl,by simp[up,g7],dd,k,hD,hI⟩
 ·rintro n _ t h J Q' kJ kQ ⟨g0,g1,g5,g7,g9,dd,q,k,hD,hql,⟨g11,room,w5,g10,hk6,hkb,hI,hm⟩|⟨g11,rfl,hI⟩⟩
  ·obtain⟨f,v,fl,w',i0,i1,i2,i3,i5,i4,iQ,iB,iq⟩:=hD
   have hat:=a1C w d (room:Int) false
   rw[hr]at hat
   subst hLK
   (have hb:=trivial;with_reducible repeat' (first|simp only[hb,Vc.down,seval,au3.down,g0,g1,g5,g7,g9,g10,g11,i0,i1,i2,i3,i5,hkb,hat]|refine fsp ?_ ?_<;>intro hb|refine fd ?_|fail))
   obtain⟨rN,rI⟩:=DqI.take hI
   have hkl:=qS hkb
   generalize hLP:CB.lp _ _ _ _ _=LP
   obtain⟨LK,hLK⟩:∃c:CB,c=CB.live 4 false wf [[.int .i64 (N:Int),.int .i64 w.need,slv 9 true w.nn (w.parts.map acC.cells),.int .i64 d]]:=⟨_,rfl⟩
   refine aO5 (a2S hw (d:=d) (r:=(room:Int)) (lb:=h.length) (rb:=h.length+1) (kb:=0) (fun i h'=>∃dd' q',DiH LK.clean false ps N h' dd' q' [k,h.length,h.length+1,h.length+2]∧DqI E s N al0 dd' q' (atU E room i)∧2*dd'.sum+q'.length≤2*dd.sum+q.length∧(∃w1,h'[k]?=some (.live 1 true w1 [[.int .i64 (room:Nat)]]))∧(∃w1,h'[h.length]?=some (.live 1 false w1 [[.ptr 0 0 0]]))∧(∃w1,h'[h.length+1]?=some (.live 1 true w1 [[.int .i64 (room:Nat)]]))∧h'[h.length+2]?=some LP∧h.length+3≤h'.length∧Okw (h++[.live 1 false false [[.ptr 0 0 0]],.live 1 true false [[.int .i64 (room:Nat)]],LP]) h') ?_ ?_ ?_ ?_ ?_ ?_ ?_) ?_
   ·rintro i h' ⟨dd',q',_,_,_,_,hb1,_⟩
    exact hb1
   ·rintro i h' ⟨dd',q',⟨f,v,fl,w',i0,_⟩,_⟩
    rw[hr]
    exact⟨false,by rw[i0,hLK];rfl⟩
   ·rintro i h' ⟨dd',q',_,_,_,_,_,hb2,_⟩
    exact hb2
   ·rintro i h' fl wf rows ⟨dd',q',k1,k3,k4,⟨a0,k5⟩,⟨a1,k6⟩,⟨a2,k7⟩,k8,k9,kO⟩
    exact⟨dd',q',k1.app rfl,k3,k4,⟨a0,acG k5 _⟩,⟨a1,acG k6 _⟩,⟨a2,acG k7 _⟩,acG k8 _,by simp;omega,kO.app _⟩
   ·rintro i p u h' hpx hu ⟨dd',q',⟨f',v',fl',w2,j0,j1,j2,j3,j5,j4,jQ,jB,jq⟩,k3,k4,⟨a0,k5⟩,⟨a1,k6⟩,⟨a2,k7⟩,k8,k9,kO⟩
    have round:RnQ om' ([.int .i64 i,.int .i64 u]++[.yl (h.length+2)]) (clH h') fun o G=>o=.ret (.bool true)∧Okw h' G∧∃dd2 q2,DiH LK.clean false ps N (mrg h' G) dd2 q2 [k,h.length,h.length+1,h.length+2]∧DqI E s N al0 dd2 q2 (atU E room (i+1))∧2*dd2.sum+q2.length≤2*dd.sum+q.length∧(∀b∈[k,h.length,h.length+1,h.length+2],(mrg h' G)[b]?=h'[b]?)∧h'.length≤(mrg h' G).length:=by
     have hir:room<N:=rN
     have hpo:=hw.part p (asZ hpx)
     have hil:i<w.parts.length:=(ar1.1 hpx).1
     obtain⟨pc,hpc⟩:∃x,L[i]?=some x:=⟨_,amE (by omega)⟩
     have he:=ay1 hpx hpc
     rw[hE]at he
     obtain⟨to,rfl,htN,hrt,hto⟩:∃to:Nat,u=(to:Int)∧to<N∧room≠to∧(E[i]?=some (room,to,if tgB pc=true then 1 else 0)∨E[i]?=some (to,room,if tgB pc=true then 1 else 0)):=by
      rcases hu with⟨h1,h2⟩|⟨h1,h2,h3⟩
      ·exact⟨p.other.toNat,by omega,by omega,by omega,.inl (by rw[he,h1];rfl)⟩
      ·exact⟨p.one.toNat,by omega,by omega,by omega,.inr (by rw[he,h2];rfl)⟩
     have hi12:((i:Int)<12)=True:=eq_true (by omega)
     have hp24:(i*2+2≤24)=True:=eq_true (by omega)
     have htk:apH 2 (List.drop (i*2) ps)=[.int .i64 pc.1,.bool pc.2]:=by
      rw[hps];exact aBV _ _ _ _ hpc
     have htt:=aAH pc.1 pc.2
     rw[show(pc.1==0&& !pc.2)=tgB pc from rfl]at htt
     have hdl:=k3.i.len
     have hrm:=az9 (d:=dd') (a:=room) (by omega)
     have htm:=az9 (d:=dd') (a:=to) (by omega)
     have hst:∀n:Nat,(dd'.map nvv).set to [.int .i64 (n:Int)]=(dd'.set to n).map nvv:=fun n=>by rw[asY];rfl
     have hrf:=k3.i.le room rN
     have hrf2:dd'.getD room 0≤1048576:=hrf
     have I0:=k3.same hto
     have I1:=fun q'=>k3.less (q':=q') rN htN hrt hto
     have hrN:((room:Int)<(N:Int))=True:=eq_true (by omega)
     have htN':((to:Int)<(N:Int))=True:=eq_true (by omega)
     have hbit:=aVM (tgB pc)
     have hsum:∀x,x<dd'.getD to 0→(dd'.set to x).sum<dd'.sum:=fun x hx=>aM1 (by omega) hx
     generalize dd'.getD room 0=xr at *
     generalize dd'.getD to 0=xt at *
     generalize hrows:dd'.map nvv=rows at *
     have hbc:=ajX k8
     have hb0:LP.clean=LP:=by rw[←hLP];rfl
     rw[hb0]at hbc
     have hne2:∀(b:Nat) (c X:CB),b≠h.length+2→h'[b]?=some c→((clH h').set (h.length+2) X)[b]?=some c.clean:=fun b c X hn hc=>by rw[ak3 (fun e=>hn e.symm),ajX hc]
     have h6:=qS i5
     have g0':=fun X=>hne2 0 _ X (by omega) j0
     have g1':=fun X=>hne2 1 _ X (by omega) j1
     have g2':=fun X=>hne2 2 _ X (by omega) j2
     have g3':=fun X=>hne2 3 _ X (by omega) j3
     have g5':=fun X=>hne2 5 _ X (by omega) j5
     have gk':=fun X=>hne2 k _ X (by omega) k5
     simp only[CB.clean]at g1' g2' g3' g5' gk'
     have hlw:∀n,n≤1048577→IntKind.i64.wrap (n:Nat)=(n:Int):=fun n hn=>aqH (by omega) (by omega)
     have hself:∀X:CB,((clH h').set (h.length+2) X)[h.length+2]?=some X:=fun X=>aoC (qS hbc)
     have hback:∀X:CB,(((clH h').set (h.length+2) X).set (h.length+2) LP)=clH h':=fun X=>by
      rw[List.set_set];exact aGB hbc
     have sm:=aJ6 (l:=[]) jq
     simp only[List.append_nil]at sm
     have fin0:∀(dx:DqI E s N al0 dd' q' (atU E room (i+1))),(Out.ret (AV.bool true)=.ret (.bool true))∧Okw h' (clH h')∧∃dd2 q2,DiH LK.clean false ps N (mrg h' (clH h')) dd2 q2 [k,h.length,h.length+1,h.length+2]∧DqI E s N al0 dd2 q2 (atU E room (i+1))∧2*dd2.sum+q2.length≤2*dd.sum+q.length∧(∀b∈[k,h.length,h.length+1,h.length+2],(mrg h' (clH h'))[b]?=h'[b]?)∧h'.length≤(mrg h' (clH h')).length:=fun dx=>by
      rw[sm.2]
      exact⟨rfl,sm.1,dd',q',⟨f',v',fl',w2,j0,j1,by rw[hrows];exact j2,j3,j5,j4,jQ,jB,jq⟩,dx,k4,fun b _=>rfl,am7 _⟩
     have hq':q'.length≤100000000:=by omega
     have hK6:∀b∈[k,h.length,h.length+1,h.length+2],6≤b∧b<h'.length:=fun b hb1=>by
      simp only[alE,anO,or_false]at hb1
      omega
     have hnx:∀(b:Nat) (c X Y:CB),b≠h.length+2→b≠2→h'[b]?=some c→(((clH h').set (h.length+2) X).set 2 Y)[b]?=some c.clean:=fun b c X Y n1 n2 hc=>by rw[ak3 (fun e=>n2 e.symm)];exact hne2 b c X n1 hc
     have n5:=fun X Y=>hnx 5 _ X Y (by omega) (by omega) j5
     have n4:=fun X Y=>hnx 4 _ X Y (by omega) (by omega) j4
     have nB:∀X Y:CB,(((clH h').set (h.length+2) X).set 2 Y)[h.length+2]?=some X:=fun X Y=>by rw[ak3 (by omega)];exact hself X
     simp only[CB.clean]at n5 n4
     have nQ:∀X Y,QS v' q' (((clH h').set (h.length+2) X).set 2 Y) 4:=fun X Y=>by
      rcases QS.cln jQ with h1|⟨b,w0,rows0,r0,h1,h2,h3⟩
      ·exact .inl h1
      ·have hbb:=jB b (by rw[h1];simp[scB])
       simp only[alE,anO,or_false,not_or]at hbb
       exact .inr ⟨b,w0,rows0,r0,h1,by rw[ak3 (by omega),ak3 (by omega)];exact h2,h3⟩
     have hlen2:∀X Y:CB,(((clH h').set (h.length+2) X).set 2 Y).length=h'.length:=fun X Y=>by simp[af4]
     have nqt:∀(X:CB) (Y:List (List AV)),X.quiet X.clean=true→acI (((clH h').set (h.length+2) X).set 2 (.live 1 true true Y))=true:=fun X Y hX=>agD (agD (ao0 jq) _ hX) _ rfl
     have fin1:∀{n:Nat} {q2:List Nat} {M:qR} {Y:List Nat} {LB:CB} {v2:AV} {fl2:Bool},DqI E s N al0 (dd'.set to n) q2 (atU E room (i+1))→n<xt→q2.length=q'.length+1→h'.length≤M.length→acI M=true→M[4]?=some (.live 1 fl2 true [[v2]])→QS v2 q2 M 4→(∀b∈scB v2,h'.length≤b)→
      (∀b c,b∉Y→(((clH h').set (h.length+2) LB).set 2 (.live 1 true true ((dd'.set to n).map nvv)))[b]?=some c→M[b]?=some c)→4∈Y→(∀b∈Y,b=4∨(b∈scB v'∧M[b]?=some .dead))→
      (Out.ret (AV.bool true)=.ret (.bool true))∧Okw h' (M.set (h.length+2) LP)∧∃dd2 q2,DiH LK.clean false ps N (mrg h' (M.set (h.length+2) LP)) dd2 q2 [k,h.length,h.length+1,h.length+2]∧DqI E s N al0 dd2 q2 (atU E room (i+1))∧2*dd2.sum+q2.length≤2*dd.sum+q.length∧(∀b∈[k,h.length,h.length+1,h.length+2],(mrg h' (M.set (h.length+2) LP))[b]?=h'[b]?)∧h'.length≤(mrg h' (M.set (h.length+2) LP)).length:=fun {n q2 M Y LB v2 fl2} dx hn hq2 m1 m2 m3 m4 m5 m6 hY hY'=>by
      have hr:=aON (K:=[k,h.length,h.length+1,h.length+2]) j0 j1 (by rw[hrows];exact j2) j3 j5 j4 jQ jB jq k8 (by simp) hK6 hb0 (by rw[←hLP];rfl) m1 m2 m3 m4 m5 m6 hY hY'
      exact⟨rfl,hr.1,dd'.set to n,q2,hr.2.1,dx,by have:=hsum n hn;omega,hr.2.2.1,hr.2.2.2⟩
     have nbv:h.length+2∉4::scB v':=fun hx=>by
      rcases alE.1 hx with hx|hx
      ·omega
      ·have:=(jB _ hx).2;simp at this
     have mq:∀x,x∈q'++[to]↔x=to∨x∈q':=fun x=>by simp;exact Or.comm
     have mq2:∀x,x∈to::q'↔x=to∨x∈q':=fun x=>by simp
     cases htb:tgB pc with
     |true=>
      have hw1:IntKind.i64.wrap ((xr:Int)+1)=((xr+1:Nat):Int):=by have:=hlw (xr+1) (by omega);simpa using this
      rw[htb]at htt hbit I0 I1
      simp only[if_true]at I0 I1 hbit
      by_cases hle:xt≤xr+1
      ·have hle':(((xr+1:Nat):Int)≥(xt:Int))=True:=eq_true (by omega)
       have fz:=fin0 (I0 hle)
       subst hLP
       refine aGH hbc rfl ?_
       (have hb:=trivial;with_reducible repeat' (first|simp only[hb,Vc.down,seval,au3.down,k8,g0,g1,g5,g7,g9,g10,g0',g1',g2',g3',g5',gk',ao8,hi12,hp24,hpl,htk,htt,hbit,hrm,htm,hrN,htN',hw1,hle',hself,hback]|refine fsp ?_ ?_<;>intro hb|refine fd ?_|fail))
       exact⟨_,_,rfl,fz⟩
      ·have hle':(((xr+1:Nat):Int)≥(xt:Int))=False:=eq_false (by omega)
       subst hLP
       refine aGH hbc rfl ?_
       (have hb:=trivial;with_reducible repeat' (first|simp only[hb,Vc.down,seval,au3.down,k8,g0,g1,g5,g7,g9,g10,g0',g1',g2',g3',g5',gk',ao8,hi12,hp24,hpl,htk,htt,hbit,hrm,htm,hrN,htN',hw1,hle',hst]|refine fsp ?_ ?_<;>intro hb|refine fd ?_|fail))
       generalize hLB:CB.lp _ _ _ _ LSt.busy=LB
       obtain⟨q1,hq1⟩:∃q,Fn.func 56=q:=⟨_,rfl⟩
       obtain⟨es,M,b1,b2,b3,b4,⟨v2,fl2,b5,b6,b7⟩,b8,b9⟩:=aU7 (nqt LB ((dd'.set to (xr+1)).map nvv) (by rw[←hLB];rfl)) to (n4 LB _) (nQ LB _) hq'
       rw[hq1]at b1
       have n5':=n5 LB
       have mB:=b8 _ _ nbv (nB LB _)
       have fz:=fin1 (I1 (q'++[to]) (by omega) mq) (by omega) (by simp) (by rw[hlen2]at b3;exact b3) b4 b5 b6 (by rw[hlen2]at b7;exact b7) b8 (ao5 ..) (fun b hb1=>(alE.1 hb1).imp id fun hb1=>⟨hb1,b9 b hb1⟩)
       subst hLB
       (have hb:=trivial;with_reducible repeat' (first|simp only[hb,Vc.down,seval,au3.down,n5',hq1,b1,b2,mB]|refine fsp ?_ ?_<;>intro hb|refine fd ?_|fail))
       exact⟨_,_,rfl,fz⟩
     |false=>
      have hw1:IntKind.i64.wrap ((xr:Int)+0)=((xr:Nat):Int):=by have:=hlw xr (by omega);simpa using this
      rw[htb]at htt hbit I0 I1
      simp only[Bool.false_eq_true,if_false,Nat.add_zero]at I0 I1 hbit
      by_cases hle:xt≤xr
      ·have hle':((xr:Int)≥(xt:Int))=True:=eq_true (by omega)
       have fz:=fin0 (I0 hle)
       subst hLP
       refine aGH hbc rfl ?_
       (have hb:=trivial;with_reducible repeat' (first|simp only[hb,Vc.down,seval,au3.down,k8,g0,g1,g5,g7,g9,g10,g0',g1',g2',g3',g5',gk',ao8,hi12,hp24,hpl,htk,htt,hbit,hrm,htm,hrN,htN',hw1,hle',hself,hback]|refine fsp ?_ ?_<;>intro hb|refine fd ?_|fail))
       exact⟨_,_,rfl,fz⟩
      ·have hle':((xr:Int)≥(xt:Int))=False:=eq_false (by omega)
       subst hLP
       refine aGH hbc rfl ?_
       (have hb:=trivial;with_reducible repeat' (first|simp only[hb,Vc.down,seval,au3.down,k8,g0,g1,g5,g7,g9,g10,g0',g1',g2',g3',g5',gk',ao8,hi12,hp24,hpl,htk,htt,hbit,hrm,htm,hrN,htN',hw1,hle',hst]|refine fsp ?_ ?_<;>intro hb|refine fd ?_|fail))
       generalize hLB:CB.lp _ _ _ _ LSt.busy=LB
       obtain⟨q1,hq1⟩:∃q,Fn.func 60=q:=⟨_,rfl⟩
       obtain⟨es,M,b1,b2,b3,b4,⟨v2,fl2,b5,b6,b7⟩,b8⟩:=a0M (nqt LB ((dd'.set to xr).map nvv) (by rw[←hLB];rfl)) to (n4 LB _) (nQ LB _) hq'
       rw[hq1]at b1
       have n5':=n5 LB
       have mB:=b8 _ _ (by omega) (nB LB _)
       have fz:=fin1 (Y:=[4]) (I1 (to::q') (by omega) mq2) (by omega) (by simp) (by rw[hlen2]at b3;exact b3) b4 b5 b6 (by rw[hlen2]at b7;exact b7) (fun b c hn=>b8 b c (by simpa using hn)) (ao5 ..) (fun b hb1=>.inl (by simpa using hb1))
       subst hLB
       (have hb:=trivial;with_reducible repeat' (first|simp only[hb,Vc.down,seval,au3.down,n5',hq1,b1,b2,mB]|refine fsp ?_ ?_<;>intro hb|refine fd ?_|fail))
       exact⟨_,_,rfl,fz⟩
    obtain⟨o,G,es,e1,e2,rfl,z0,dd2,q2,z1,z2,z3,z4,z5⟩:=aI0 round (fun o G h=>h.2.1.sh)
    refine⟨es,e1,?_⟩
    rw[e2]
    exact⟨dd2,q2,z1,z2,z3,⟨a0,by rw[z4 k (by simp)];exact k5⟩,⟨a1,by rw[z4 _ (by simp)];exact k6⟩,⟨a2,by rw[z4 _ (by simp)];exact k7⟩,by rw[z4 _ (by simp)];exact k8,by omega,kO.trans z0⟩
   ·rintro i p h' hpx n1 n2 ⟨dd',q',k1,k3,k4,k5,k6,k7,k8,k9⟩
    have hpo:=hw.part p (asZ hpx)
    obtain⟨pc,hpc⟩:∃x,L[i]?=some x:=⟨_,amE (by have:=(ar1.1 hpx).1;omega)⟩
    have he:=ay1 hpx hpc
    rw[hE]at he
    exact⟨dd',q',k1,k3.skip he (by omega) (by omega),k4,k5,k6,k7,k8,k9⟩
   ·have cl:∀(b:Nat) (c:CB),h[b]?=some c→(clH h++[CB.live 1 false false [[.ptr 0 0 0]],.live 1 true false [[.int .i64 (room:Nat)]],LP])[b]?=some c.clean:=fun b c hc=>acG (ajX hc) _
    have ca:∀j,(clH h++[CB.live 1 false false [[.ptr 0 0 0]],.live 1 true false [[.int .i64 (room:Nat)]],LP])[h.length+j]?=[CB.live 1 false false [[.ptr 0 0 0]],.live 1 true false [[.int .i64 (room:Nat)]],LP][j]?:=fun j=>by
     rw[am5 (by rw[af4];omega),af4,as0]
    have hLc:LP.clean=LP:=by rw[←hLP];rfl
    have hLq:LP.quiet LP=true:=by rw[←hLP];rfl
    have hok:Okw (h++[.live 1 false false [[.ptr 0 0 0]],.live 1 true false [[.int .i64 (room:Nat)]],LP]) (clH h++[.live 1 false false [[.ptr 0 0 0]],.live 1 true false [[.int .i64 (room:Nat)]],LP]):=by
     have:=Okw.cl (H:=h++[.live 1 false false [[.ptr 0 0 0]],.live 1 true false [[.int .i64 (room:Nat)]],LP]) (ahG iq (by simp only[acI,atM,hLc,hLq];rfl))
     rw[show clH (h++[CB.live 1 false false [[.ptr 0 0 0]],.live 1 true false [[.int .i64 (room:Nat)]],LP])=clH h++[CB.live 1 false false [[.ptr 0 0 0]],.live 1 true false [[.int .i64 (room:Nat)]],LP] by simp only[clH,arZ,List.map_cons,List.map_nil,hLc];rfl]at this
     exact this
    refine⟨dd,q,⟨false,v,fl,false,by rw[hLK];exact cl 0 _ i0,cl 1 _ i1,cl 2 _ i2,cl 3 _ i3,cl 5 _ i5,cl 4 _ i4,?_,fun b hb1=>?_,ahG (ao0 iq) (by simp only[acI,atM,hLc,hLq];rfl)⟩,rI,am7 _,⟨_,cl k _ hkb⟩,⟨false,ca 0⟩,⟨false,ca 1⟩,ca 2,by simp[af4],hok⟩
    ·rcases QS.cln iQ with h|⟨b,w',rows,r,h1,h2,h3⟩
     ·exact .inl h
     ·exact .inr ⟨b,w',rows,r,h1,acG h2 _,h3⟩
    ·have:=(iQ.lt b hb1).1
     have:=iB b hb1
     simp at this ⊢
     omega
   ·rintro o h' ⟨rfl,dd',q',⟨f',v',fl',w2,j0,j1,j2,j3,j5,j4,jQ,jB,jq⟩,k3,k4,⟨a0,k5⟩,⟨a1,k6⟩,⟨a2,k7⟩,k8,k9,kO⟩
    have hl5:=qS i5
    have hLc:LP.clean=LP:=by rw[←hLP];rfl
    have hLq:LP.quiet LP=true:=by rw[←hLP];rfl
    obtain⟨h1,hh1⟩:∃H:qR,h++[.live 1 false false [[.ptr 0 0 0]],.live 1 true false [[.int .i64 (room:Nat)]],LP]=H:=⟨_,rfl⟩
    have hB1:h1[h.length+2]?=some LP:=by rw[←hh1,am5 (by omega),as0];rfl
    have hq1:acI h1=true:=by rw[←hh1];exact ahG iq (by simp only[acI,atM,hLc,hLq];rfl)
    have hO:∀(b:Nat) (c:CB),h[b]?=some c→h1[b]?=some c:=fun b c hc=>by rw[←hh1];exact acG hc _
    simp only[hh1]at kO ⊢
    obtain⟨es,e1,e2⟩:=as5 h1 h' [] kO.sh
    have e1':ak2 0 h1 h'=some es:=e1
    simp only[aoD]at e2
    have m0:=Okw.old (hO 0 _ i0) j0 (by rw[hLK];rfl)
    have m1:=Okw.old (hO 1 _ i1) j1 rfl
    obtain⟨x2,m2⟩:=kO.live j2
    have m3:=Okw.old (hO 3 _ i3) j3 rfl
    have m5:=Okw.old (hO 5 _ i5) j5 rfl
    obtain⟨x4,m4⟩:=kO.live j4
    obtain⟨xk,mk_⟩:=kO.live k5
    have mQ:=jQ.okw kO
    have mB:=Okw.old hB1 k8 hLq
    have mqt:=kO.quiet hq1 jq
    have mln:h'.length≤(mrg h1 h').length:=by rw[arI kO.1];exact am7 _
    generalize hM:mrg h1 h'=M at *
    rw[aw1,e1']
    have dne:∀(b:Nat) (c:CB),b≠h.length+2→M[b]?=some c→(M.set (h.length+2) .dead)[b]?=some c:=fun b c hn hc=>by rw[ak3 (fun e=>hn e.symm)];exact hc
    have hkn:k≠h.length+2:=by omega
    have d0:=dne 0 _ (by omega) m0
    have d1:=dne 1 _ (by omega) m1
    have d2:=dne 2 _ (by omega) m2
    have d3:=dne 3 _ (by omega) m3
    have d5:=dne 5 _ (by omega) m5
    have d4:=dne 4 _ (by omega) m4
    have dk:=dne k _ hkn mk_
    have dq:acI (M.set (h.length+2) .dead)=true:=agD mqt _ rfl
    have dl:(M.set (h.length+2) .dead).length=M.length:=by simp
    have dQ:QS v' q' (M.set (h.length+2) .dead) 4:=by
     rcases mQ with h1|⟨b,w0,rows0,r0,h1,h2,h3⟩
     ·exact .inl h1
     ·have hbb:=jB b (by rw[h1];simp[scB])
      simp only[alE,anO,or_false,not_or]at hbb
      exact .inr ⟨b,w0,rows0,r0,h1,dne b _ (by omega) h2,h3⟩
    subst hLP
    (have hb:=trivial;with_reducible repeat' (first|simp only[hb,Vc.down,seval,au3.down,e2,mB]|refine fsp ?_ ?_<;>intro hb|refine fd ?_|fail))
    generalize hD:M.set (h.length+2) CB.dead=D at *
    (have hb:=trivial;with_reducible repeat' (first|simp only[hb,Vc.down,seval,au3.down,g0,g1,g5,g7,g9,g10,dk,d5]|refine fsp ?_ ?_<;>intro hb|refine fd ?_|fail))
    have p5:=acG d5 [CB.live 1 true true [[.int .i64 (room:Int)]]]
    have p4:=acG d4 [CB.live 1 true true [[.int .i64 (room:Int)]]]
    have pq:acI (D++[CB.live 1 true true [[.int .i64 (room:Int)]]])=true:=ahG dq rfl
    have pQ:=dQ.app [CB.live 1 true true [[.int .i64 (room:Int)]]]
    have pk:(D++[CB.live 1 true true [[.int .i64 (room:Int)]]])[D.length]?=some (.live 1 true true [[.int .i64 (room:Int)]]):=by simp
    have hEl:E.length≤w.parts.length:=by rw[←hE];simp[edg,tgt];omega
    have k3':=k3.done hEl
    have hD6:6≤D.length:=by omega
    have hvD:∀b∈scB v',6≤b∧b∉[D.length]:=fun b hb1=>by
     have h1:=(dQ.lt b hb1).1
     have h2:=(jB b hb1).1
     exact⟨h2,by simp;omega⟩
    obtain⟨q1,hq1⟩:∃q,Fn.func 57=q:=⟨_,rfl⟩
    cases q' with
    |nil=>
     have b1:=a0B pq p4 pQ
     rw[hq1]at b1
     (have hb:=trivial;with_reducible repeat' (first|simp only[hb,Vc.down,seval,au3.down,p5,hq1,b1]|refine fsp ?_ ?_<;>intro hb|refine fd ?_|fail))
     refine alD (kJ _ _ () ⟨by simp[up,g0],by simp[up,g1],by simp[up,g5],by simp[up,g7],by simp[up,g9],dd',[],D.length,?_,?_,.inr ⟨by simp[up],rfl,k3'⟩⟩ rfl)
     ·exact⟨_,_,_,_,acG d0 _,acG d1 _,acG d2 _,acG d3 _,acG d5 _,acG d4 _,dQ.app _,hvD,ahG dq rfl⟩
     ·omega
    |cons x q'=>
     simp only[an2]at k4
     obtain⟨es,M4,b1,b2,b3,b4,⟨v2,fl2,b5,b6,b7⟩,b8⟩:=aVH pq p4 pQ (by omega)
     rw[hq1]at b1
     have r5:=b8 _ _ (by omega) p5
     have rk:=b8 _ _ (by omega) pk
     (have hb:=trivial;with_reducible repeat' (first|simp only[hb,Vc.down,seval,au3.down,p5,hq1,b1,b2,rk,r5]|refine fsp ?_ ?_<;>intro hb|refine fd ?_|fail))
     have sne:∀(b:Nat) (c:CB),b<D.length→b≠4→D[b]?=some c→(M4.set D.length (.live 1 true true [[.int .i64 (x:Int)]]))[b]?=some c:=fun b c h1 h2 hc=>by
      rw[ak3 (by omega)];exact b8 b c h2 (acG hc _)
     have hl4:=qS rk
     refine alD (kJ _ _ () ⟨by simp[up,g0],by simp[up,g1],by simp[up,g5],by simp[up,g7],by simp[up,g9],dd',q',D.length,?_,by omega,.inl ⟨by simp[up],x,true,by simp[up],hD6,aoC hl4,k3',by omega⟩⟩ rfl)
     refine⟨_,v2,fl2,true,sne 0 _ (by omega) (by omega) d0,sne 1 _ (by omega) (by omega) d1,sne 2 _ (by omega) (by omega) d2,sne 3 _ (by omega) (by omega) d3,sne 5 _ (by omega) (by omega) d5,by rw[ak3 (by omega)];exact b5,?_,fun b hb1=>hvD b (by rw[←b7];exact hb1),agD b4 _ rfl⟩
     rcases b6 with h1|⟨b,w0,rows0,r0,h1,h2,h3⟩
     ·exact .inl h1
     ·have hbb:=hvD b (by rw[←b7,h1];simp[scB])
      simp only[alE,anO,or_false]at hbb
      exact .inr ⟨b,w0,rows0,r0,h1,by rw[ak3 (fun e=>hbb.2 e.symm)];exact h2,h3⟩
  ·(have hb:=trivial;with_reducible repeat' (first|simp only[hb,Vc.down,seval,au3.down,g11]|refine fsp ?_ ?_<;>intro hb|refine fd ?_|fail))
   exact kQ _ _ _ ⟨rfl,by simp[up,g7],dd,k,hD,hI⟩
 ·refine⟨by simp[up,g0],by simp[up,g1],by simp[up,g5],by simp[up,g7],by simp[up],arQ N s al0,[],M2.length,?_,by simp only[List.length_nil];omega,.inl ⟨by simp[up],s,true,by simp[up],by simp at b3;omega,by rw[am5 (am7 _),asB];rfl,I0,by simp⟩⟩
  refine⟨true,v2,fl2,true,acG j0 _,acG j1 _,acG j2 _,acG j3 _,acG j5 _,acG c5 _,?_,?_,ahG c4 rfl⟩
  ·rcases c6 with h|⟨b,w',rows,r,h1,h2,h3⟩
   ·exact .inl h
   ·exact .inr ⟨b,w',rows,r,h1,acG h2 _,h3⟩
  ·intro b hb1
   have:=c6.lt b hb1
   rw[c7]at hb1
   have h6:=b7 b hb1
   simp at h6
   exact⟨h6,by simp;omega⟩
 obtain⟨rfl,g7,dd,k,⟨f,v,fl,w',i0,i1,i2,i3,i5,i4,iQ,iB,iq⟩,hI⟩:=hk
 have hR:=hI.right hs hEo (by unfold al0;omega)
 have hdl:=hI.i.len
 have hln:(dd.map nvv).length=N:=by simp[hdl]
 subst hLK
 (have hb:=trivial;with_reducible repeat' (first|simp only[hb,Vc.down,seval,au3.down,g7,i3,i2,i0,hln]|refine fsp ?_ ?_<;>intro hb|refine fd ?_|fail))
 exact⟨f,dd,rfl,hdl,hR⟩
theorem arP(L:List (Int × Bool)):∀x∈pcs L,(∃n,x=.int .i64 n)∨∃b,x=.bool b:=fun x hx=>by
 simp only[pcs,ayH,alE,anO,or_false]at hx
 obtain⟨y,_,rfl|rfl⟩:=hx
 ·exact .inl ⟨_,rfl⟩
 ·exact .inr ⟨_,rfl⟩
theorem asR(L:List (Int × Bool)):(pcs L).all AV.flat=true:=aoU.2 fun x hx=>by rcases arP L x hx with⟨n,rfl⟩|⟨b,rfl⟩<;>rfl
theorem asW(L:List (Int × Bool)):(pcs L).all AV.isCell=true:=aoU.2 fun x hx=>by rcases arP L x hx with⟨n,rfl⟩|⟨b,rfl⟩<;>rfl
theorem aw8(L:List (Int × Bool))(d:Nat)(g:HF):afD (aoK (d+1) g) (pcs L)=some (pcs L):=aEF fun x hx=>by rcases arP L x hx with⟨n,rfl⟩|⟨b,rfl⟩<;>rfl
theorem aw6(L:List (Int × Bool))(d:Nat)(g:HF):(pcs L).flatMap (agU (d+1) g)=[]:=List.flatMap_eq_nil_iff.2 fun x hx=>by rcases arP L x hx with⟨n,rfl⟩|⟨b,rfl⟩<;>rfl
theorem aw7(L:List (Int × Bool))(d:Nat)(m:List Nat):ak1.refL (ak1 (d+1)) m (pcs L)=some (pcs L,m):=apP fun x hx=>by rcases arP L x hx with⟨n,rfl⟩|⟨b,rfl⟩<;>rfl
theorem aD6(L:List (Int × Bool))(d:Nat)(f:Nat→Nat):afD (ajS (d+1) f) (pcs L)=some (pcs L):=aEF fun x hx=>by rcases arP L x hx with⟨n,rfl⟩|⟨b,rfl⟩<;>rfl
theorem aEN(L:List (Int × Bool))(d:Nat):(pcs L).any (hasImm (d+1))=false:=List.any_eq_false.2 fun x hx=>by rcases arP L x hx with⟨n,rfl⟩|⟨b,rfl⟩<;>simp[hasImm]
def nmB(w:agR)(N:Nat)(L:List (Int × Bool)):Nat:=aDX (edg w (tgt L)) N w.parts.length
theorem avA{w:agR}{N:Nat}(hw:WOk w N)(h12:w.parts.length≤12)(d:Int){L:List (Int × Bool)}(hL12:L.length=12)(wf:Bool):
 om'.call (.fn 43) [.ptr 0 0 0,.agg (pcs L)] [.live 4 false wf [[.int .i64 w.rooms,.int .i64 w.need,slv 9 true w.nn (w.parts.map acC.cells),.int .i64 d]]]=some (.ret (.int .i64 (nmB w N L:Nat)),[.live 4 false wf [[.int .i64 w.rooms,.int .i64 w.need,slv 9 true w.nn (w.parts.map acC.cells),.int .i64 d]]]):=by
 have n2:=hw.n2
 have n8:=hw.n8
 obtain⟨o,h',hc,f,ds,rfl,rfl,hdl,hR⟩:=avX hw h12 (d:=d) (s:=0) (by omega) hL12 rfl (wf:=false)
 have hne:=aNY (len:=w.parts.length) n2 (by omega) (by unfold al0;omega) (avV hw (tgt L)) hR
 have hf1:=asR L
 have hf2:=asW L
 have hpl:(pcs L).length=24:=by rw[aq3];omega
 have hd1:=az9 (d:=ds) (a:=1) (by omega)
 have h1N:((1:Int)<(N:Int))=True:=eq_true (by omega)
 have hle:ds.getD 1 0≤1048576:=by
  by_cases e:ds.getD 1 0=al0
  ·rw[e];exact am7 _
  ·have:=(aqV.num hR hR (by unfold al0;omega) (by unfold al0;omega) (by omega) (avV hw (tgt L)) (v:=1) (by omega)).2.2 e
   have:ds.getD 1 0<N:=this
   omega
 have hN1:nmB w N L=if ds.getD 1 0=al0 then w.parts.length+1 else ds.getD 1 0:=hne.symm
 rw[hN1]
 have hav:=aw8 L
 have hlv:=aw6 L
 have hrf:=aw7 L
 simp only[Int.natCast_zero]at hc
 generalize pcs L=ps at *
 have htk:apH 24 ps=ps:=arT (by omega)
 generalize ds.getD 1 0=x at *
 generalize ds.map nvv=rows at *
 have hwr:IntKind.i64.wrap ((w.parts.length:Int)+1)=((w.parts.length+1:Nat):Int):=by have:=aqH (n:=((w.parts.length+1:Nat):Int)) (by omega) (by omega);simpa using this
 by_cases e:x=al0
 ·have e1:((x:Int)==1048576)=true:=by rw[e];rfl
  rw[if_pos e]
  refine ce Tryd.func43 ?_
  simp only[Tryd.f43]
  (have hb:=trivial;with_reducible repeat' (first|simp only[hb,Vc.down,seval,a1I.down,hpl,hf1,hf2,htk,hav,hlv,hrf,hc,hd1,h1N,e1,hwr,akZ]|refine fsp ?_ ?_<;>intro hb|refine fd ?_|fail))
 ·have e1:((x:Int)==1048576)=false:=by simp;exact fun h=>e (by unfold al0;omega)
  rw[if_neg e]
  refine ce Tryd.func43 ?_
  simp only[Tryd.f43]
  (have hb:=trivial;with_reducible repeat' (first|simp only[hb,Vc.down,seval,a1I.down,hpl,hf1,hf2,htk,hav,hlv,hrf,hc,hd1,h1N,e1,akZ]|refine fsp ?_ ?_<;>intro hb|refine fd ?_|fail))
theorem auM{w:agR}{d:Int}(h12:w.parts.length≤12):(acE w d).length=12:=by simp[acE];omega
theorem axF{w:agR}{N:Nat}{d:Int}:nmB w N (acE w d)=awG w N d:=by unfold nmB awG;rw[auN]
theorem ayL{w:agR}{N:Nat}(hw:WOk w N)(h12:w.parts.length≤12)(hs:w.small)(d:Int)(hb0:(aqE w&&asD d)=true):om'.call (.fn 17) [.agg [.int .i64 w.rooms,.int .i64 w.need,slv 9 true w.nn (w.parts.map acC.cells)],.int .i64 d] []=some (.ret (.tup [.int .i64 (awG w N d:Nat),.int .i64 0]),[]):=by
 have h:=aAE w hs d
 rw[hb0]at h
 have hp:=axW w d false h12
 have hn:=avA hw h12 d (auM (d:=d) h12) false
 rw[axF]at hn
 have hf1:=asR (acE w d)
 have hf2:=asW (acE w d)
 have hav:=aw8 (acE w d)
 have hlv:=aw6 (acE w d)
 have hrf:=aw7 (acE w d)
 have hrn:=aD6 (acE w d)
 have hhi:=aEN (acE w d)
 generalize pcs (acE w d)=ps at *
 (refine ce Tryd.func17 ?_;simp only[Tryd.f17];(have hb:=trivial;with_reducible repeat' (first|simp only[hb,Vc.down,seval,a2W.down,h,hp,hn,hf1,hf2,hav,hlv,hrf,hrn,hhi]|refine fsp ?_ ?_<;>intro hb|refine fd ?_|fail)))
theorem aGG{α:Type}{d:List AV→Option α}{f:α→List AV}(hd:∀cs x,d cs=some x→cs=f x):∀{rows:List (List AV)} {l:List α},afD d rows=some l→rows=l.map f
 | [],l,h=>by simp[afD]at h;subst h;rfl
 |r::rows,l,h=>by
  simp only[afD,aAI,au2]at h
  obtain⟨x,h1,l',h2,rfl⟩:=h
  rw[hd r x h1,aGG hd h2];rfl
def dSl{α:Type}(n:Nat)(fl:Bool)(d:List AV→Option α):AV→Option (Bool × List α)
 | .nils=>some (false,[])
 | .imm n' fl' rows=>if n'=n∧fl'=fl then(afD d rows).map fun l=>(true,l)else none
 |_=>none
theorem aYI{α:Type}{n:Nat}{fl:Bool}{d:List AV→Option α}{f:α→List AV}(hd:∀cs x,d cs=some x→cs=f x){v:AV}{x:Bool × List α}(h:dSl n fl d v=some x):v=slv n fl x.1 (x.2.map f):=by
 unfold dSl at h
 split at h
 ·cases h;rfl
 ·split at h
  ·rename_i hq
   obtain⟨rfl,rfl⟩:=hq
   obtain⟨l,h1,rfl⟩:=au2.1 h
   rw[aGG hd h1]
   cases l<;>rfl
  ·cases h
 ·cases h
def aM3:List AV→Option acC
 | [.int .i64 a,.int .i64 b,.bool c,.bool d,.int .i64 e,.int .i64 f,.bool g,.int .i64 h,.int .i64 i]=>some ⟨a,b,c,d,e,f,g,h,i⟩
 |_=>none
theorem aP0(cs:List AV)(x:acC)(h:aM3 cs=some x):cs=x.cells:=by
 unfold aM3 at h
 split at h
 ·cases h;rfl
 ·cases h
def aQS:List AV→Option (List (Int × Bool))
 | []=>some []
 | .int .i64 a::.bool b::l=>(aQS l).map fun r=>(a,b)::r
 |_=>none
theorem aIW:∀(cs:List AV) (x:List (Int × Bool)),aQS cs=some x→cs=pcs x
 | [],x,h=>by simp[aQS]at h;subst h;rfl
 | .int .i64 a::.bool b::l,x,h=>by
   simp only[aQS,au2]at h
   obtain⟨r,h1,rfl⟩:=h
   rw[aIW l r h1];rfl
def aZ0:List AV→qR→Option (Out × qR)
 | [.ptr 0 0 0,.agg ps],[.live 4 false wf [[.int .i64 rooms,.int .i64 need,sl,.int .i64 d]]]=>
   (dSl 9 true aM3 sl).bind fun x=>(aQS ps).bind fun L=>if(aqE ⟨rooms,need,x.1,x.2⟩&&decide (L.length=12))=true then
     some (.ret (.int .i64 (nmB ⟨rooms,need,x.1,x.2⟩ rooms.toNat L:Nat)),[.live 4 false wf [[.int .i64 rooms,.int .i64 need,sl,.int .i64 d]]])else none
 |_,_=>none
def pr2:arK:={ pr with at_:=fun f=>if f=43 then some aZ0 else pr f }
theorem a1X(f:Nat)(h:pr2 f=none):pr f=none:=by
 simp only[pr2]at h
 split at h
 ·cases h
 ·exact h
theorem aXE:∀f p,pr2 f=some p→∀a h r,p a h=some r→om'.call (.fn f) a h=some r:=by
 intro f p hp a h r hr
 simp only[pr2]at hp
 split at hp
 ·rename_i hf
  subst hf
  cases hp
  unfold aZ0 at hr
  split at hr
  ·rename_i ps wf rooms need sl d
   simp only[aAI]at hr
   obtain⟨x,h1,L,h2,h3⟩:=hr
   split at h3
   ·rename_i hs
    simp only[Bool.and_eq_true,decide_eq_true_eq]at hs
    cases h3
    obtain⟨N,hw,h12⟩:=aJ2 hs.1
    have hN:rooms.toNat=N:=by have:=hw.rooms;simp only at this;omega
    rw[aYI aP0 h1,aIW _ _ h2,hN]
    exact avA hw h12 d hs.2 wf
   ·cases h3
  ·cases hr
 ·exact aTA hp hr
theorem aL5:(orc Tryd.prog pr2 100).call (.fn 10) [] []=some (.ret (.bool true),[]):=by kernel_rfl
theorem aM9:om'.call (.fn 10) [] []=some (.ret (.bool true),[]):=aQ3 (pr:=pr) (pr2:=pr2) rfl a1X aXE aL5
def aH1(w:agR):Bool:=decide ((w.parts.length:Int)≤15)
theorem aSL(w:agR):om'.call (.fn 9) [.agg [.int .i64 w.rooms,.int .i64 w.need,slv 9 true w.nn (w.parts.map acC.cells)]] []=some (.ret (.bool (aH1 w)),[]):=by
 cases c:aH1 w
 ·have h:decide ((w.parts.length:Int)≤15)=false:=c
  (refine ce Tryd.func9 ?_;simp only[Tryd.f9];(have hb:=trivial;with_reducible repeat' (first|simp only[hb,Va.down,seval,TY9.down,h,akZ]|refine fsp ?_ ?_<;>intro hb|refine fd ?_|fail)))
 ·have h:decide ((w.parts.length:Int)≤15)=true:=c
  (refine ce Tryd.func9 ?_;simp only[Tryd.f9];(have hb:=trivial;with_reducible repeat' (first|simp only[hb,Va.down,seval,TY9.down,h,akZ]|refine fsp ?_ ?_<;>intro hb|refine fd ?_|fail)))
theorem aQP(L:List (Int × Bool))(d:Nat):(pcs L).all (agT (d+1))=true:=aoU.2 fun x hx=>by rcases arP L x hx with⟨n,rfl⟩|⟨b,rfl⟩<;>rfl
def alB(w:agR)(N:Nat)(L:List (Int × Bool))(i:Nat):Bool:=match L[i]? with
 |some x=>tgB x&& !(nmB w N L==0)&&nmB w N (L.set i (2,x.2))==0
 |none=>false
def alL(w:agR)(N:Nat)(L:List (Int × Bool)):List Nat:=(an3 w.parts.length).filter (alB w N L)
def avE(v:AV)(l:List Nat)(h:qR)(lo:Nat):Prop:=(l=[]∧v=.nils)∨(l≠[]∧∃b,lo≤b∧v=.slr 1 b 0 l.length∧h[b]?=some (.live 1 true false (l.map nvv)))
theorem avE.app{v:AV}{l:List Nat}{h:qR}{lo:Nat}(B:avE v l h lo)(x:qR):avE v l (h++x) lo:=by
 rcases B with h1|⟨h1,b,h2,h3,h4⟩
 ·exact .inl h1
 ·exact .inr ⟨h1,b,h2,h3,acG h4 x⟩
theorem aJH{w:agR}{N:Nat}(hw:WOk w N)(h12:w.parts.length≤12)(hs:w.small)(d:Int)(hb0:(aqE w&&asD d)=true)(o:Out)(h':qR)
 (c0:alL w N (acE w d)=[]→(o,h')=(.ret (.tup [.nils,.int .i64 0]),[])) (c1:alL w N (acE w d)≠[]→(o,h')=(.ret (.tup [.slr 1 0 0 (alL w N (acE w d)).length,.int .i64 0]),[.live 1 true false ((alL w N (acE w d)).map nvv)])):
 om'.call (.fn 22) [.agg [.int .i64 w.rooms,.int .i64 w.need,slv 9 true w.nn (w.parts.map acC.cells)],.int .i64 d] []=some (o,h'):=by
 have h1:=aAE w hs d
 rw[hb0]at h1
 have hpc:=axW w d false h12
 have hL:=auM (d:=d) h12
 have hn0:=avA hw h12 d hL false
 have f0:=asR (acE w d)
 have k0:=asW (acE w d)
 have v0:=aw8 (acE w d)
 have l0:=aw6 (acE w d)
 have r0:=aw7 (acE w d)
 have p0:=aQP (acE w d)
 have n0:=aD6 (acE w d)
 have i0:=aEN (acE w d)
 have hpl:(pcs (acE w d)).length=24:=by rw[aq3];omega
 have htk24:=arT (l:=pcs (acE w d)) (i:=24) (by omega)
 have hen:=fun(L:List (Int × Bool)) (hL:L.length=12)=>avA hw h12 d hL false
 have hel:∀i x,(acE w d)[i]?=some x→alB w N (acE w d) i=(tgB x&& !(nmB w N (acE w d)==0)&&nmB w N ((acE w d).set i (2,x.2))==0):=fun i x hx=>by unfold alB;rw[hx]
 have hpa:∀i p,w.parts[i]?=some p→(acE w d)[i]?=some (aq6 p d,p.opn):=fun i p hp=>aDH hp
 unfold alL at c0 c1
 generalize acE w d=L at *
 (refine ce Tryd.func22 ?_;simp only[Tryd.f22];(have hb:=trivial;with_reducible repeat' (first|simp only[hb,Vc.down,seval,aD2.down,h1,hpc,f0,k0,v0,l0,r0,p0,n0,i0,hpl,htk24,akZ]|refine fsp ?_ ?_<;>intro hb|refine fd ?_|fail)))
 refine atG (lst 57 w.parts (fun i (zz:List Nat × Nat) t h=>t 6=.ptr 1 0 0∧t 8=.ptr 2 0 0∧t 27=.int .i64 (w.parts.length:Nat)∧t 28=.int .i64 i∧(h[1]?=some (.live 4 false false [[.int .i64 w.rooms,.int .i64 w.need,slv 9 true w.nn (w.parts.map acC.cells),.int .i64 d]])∧h[2]?=some (.live 24 true true [pcs L])∧zz.2=i∧zz.1.length≤i∧avE (t 9) zz.1 h 3)) (fun rest zz=>zz.1++(ao2 zz.2 rest.length).filter (alB w N L)) (fun r e t h=>e=.exit 0∧avE (t 9) r h 3) ?_ ?_ ([],0) _ _ ?_) (fun e t h hk=>?_)
 ·rintro⟨a,c⟩ t h Q' kQ ⟨h6,h8,h27,h28,⟨hA,hP,hcc,hci,hB⟩⟩
  try dsimp only at *
  (have hb:=trivial;with_reducible repeat' (first|simp only[hb,Vc.down,seval,aD2.down,h6,h8,h27,h28,aq4,decide_false,hA,akZ]|refine fsp ?_ ?_<;>intro hb|refine fd ?_|fail))
  exact kQ _ _ _ ⟨rfl,by simpa [up]using hB⟩
 ·rintro x rest i ⟨a,c⟩ t h J Q' kJ kQ hx hi ⟨h6,h8,h27,h28,⟨hA,hP,hcc,hci,hB⟩⟩
  have hd:decide ((i:Int)<(w.parts.length:Int))=true:=decide_eq_true (by omega)
  have hw:=aoH hi (by have:=hw.len;unfold maxLen;omega)
  try dsimp only at *
  subst c
  have hy:=hpa i x hx
  have hly:=hel i _ hy
  generalize hyy:(aq6 x d,x.opn)=y at *
  have htt:=aAH y.1 y.2
  rw[show(y.1==0&& !y.2)=tgB y from rfl]at htt
  have htk:=aBV _ _ _ _ hy
  have hn1:=hen (L.set i (2,y.2)) (by simpa using hL)
  have i12:((i:Int)<12)=True:=eq_true (by omega)
  have hpz:(i*2≤23)=True:=eq_true (by omega)
  have hp24:(i*2+2≤24)=True:=eq_true (by omega)
  have hs1:=aAW L i y.1 2 y.2 hy
  have ht1:apH (24-i*2) [AV.int .i64 2]=[AV.int .i64 2]:=arT (by simp;omega)
  have f1:=asR (L.set i (2,y.2))
  have k1:=asW (L.set i (2,y.2))
  have v1:=aw8 (L.set i (2,y.2))
  have l1:=aw6 (L.set i (2,y.2))
  have r1:=aw7 (L.set i (2,y.2))
  have hpl1:(pcs (L.set i (2,y.2))).length=24:=by rw[aq3];simp;omega
  have htk1:=arT (l:=pcs (L.set i (2,y.2))) (i:=24) (by omega)
  simp only[ayG,aoD]at hs1
  generalize nmB w N (L.set i (2,y.2))=m1 at *
  generalize hm0:nmB w N L=m0 at *
  generalize pcs (L.set i (2,y.2))=ps1 at *
  generalize pcs L=ps at *
  have hA1:=acG hA
  have hP1:=acG hP
  have no:alB w N L i=false→(ao2 i (rest.length+1)).filter (alB w N L)=(ao2 (i+1) rest.length).filter (alB w N L):=fun e=>by rw[aB8,au4,e];rfl
  have yes:alB w N L i=true→(ao2 i (rest.length+1)).filter (alB w N L)=i::(ao2 (i+1) rest.length).filter (alB w N L):=fun e=>by rw[aB8,au4,e];rfl
  have ez:∀n:Nat,((n:Int)==0)=(n==0):=fun n=>by cases n<;>rfl
  have hl2:=qS hP
  cases t1:tgB y
  ·rw[t1]at hly
   (have hb:=trivial;with_reducible repeat' (first|simp only[hb,Vc.down,seval,aD2.down,h6,h8,h27,h28,hd,hw,hA,hA1,hP,hP1,htt,t1,htk,hn0,hn1,i12,hpz,hp24,hs1,ht1,f1,k1,v1,l1,r1,hpl,hpl1,htk1,htk24,f0,k0,v0,l0,r0,ao8,akZ]|refine fsp ?_ ?_<;>intro hb|refine fd ?_|fail))
   (refine alD (kJ _ _ (a,i+1) ⟨?_,?_,?_,?_,⟨hA1 _,hP1 _,rfl,au5 hci,hB.app _⟩⟩ ?_);(simp[up,h6]);(simp[up,h8]);(simp[up,h27]);(simp[up]);(rw[an2,no hly]))
  ·cases z0:(m0==0)
   ·have z0':((m0:Int)==0)=false:=by rw[ez];exact z0
    cases z1:(m1==0)
    ·have z1':((m1:Int)==0)=false:=by rw[ez];exact z1
     rw[t1,z0,z1]at hly
     (have hb:=trivial;with_reducible repeat' (first|simp only[hb,Vc.down,seval,aD2.down,z0',z1',bne,h6,h8,h27,h28,hd,hw,hA,hA1,hP,hP1,htt,t1,htk,hn0,hn1,i12,hpz,hp24,hs1,ht1,f1,k1,v1,l1,r1,hpl,hpl1,htk1,htk24,f0,k0,v0,l0,r0,ao8,akZ]|refine fsp ?_ ?_<;>intro hb|refine fd ?_|fail))
     (refine alD (kJ _ _ (a,i+1) ⟨?_,?_,?_,?_,⟨hA1 _,hP1 _,rfl,au5 hci,hB.app _⟩⟩ ?_);(simp[up,h6]);(simp[up,h8]);(simp[up,h27]);(simp[up]);(rw[an2,no hly]))
    ·have z1':((m1:Int)==0)=true:=by rw[ez];exact z1
     rw[t1,z0,z1]at hly
     have hal:a.length≤i:=hci
     rcases hB with⟨rfl,ho⟩|⟨hne,b,hb3,ho,hb⟩
     ·(have hb:=trivial;with_reducible repeat' (first|simp only[hb,Vc.down,seval,aD2.down,ho,z0',z1',bne,h6,h8,h27,h28,hd,hw,hA,hA1,hP,hP1,htt,t1,htk,hn0,hn1,i12,hpz,hp24,hs1,ht1,f1,k1,v1,l1,r1,hpl,hpl1,htk1,htk24,f0,k0,v0,l0,r0,ao8,akZ]|refine fsp ?_ ?_<;>intro hb|refine fd ?_|fail))
      (refine alD (kJ _ _ ([i],i+1) ⟨?_,?_,?_,?_,⟨hA1 _,hP1 _,rfl,by simp,.inr ⟨by simp,h.length+2,by omega,by simp[up],by rw[am5 (by omega),as0];rfl⟩⟩⟩ ?_);(simp[up,h6]);(simp[up,h8]);(simp[up,h27]);(simp[up]);(rw[an2,yes hly];simp))
     ·have hbl:=qS hb
      have hB2:=acG hb
      have hS:=ap6 hbl
      have hi39:(a.length+1≤549755813888)=True:=eq_true (by omega)
      (with_reducible repeat' (first|simp only[hb,Vc.down,seval,aD2.down,ho,hb,hB2,hS,aqF,aoZ,List.length_set,hi39,z0',z1',bne,h6,h8,h27,h28,hd,hw,hA,hA1,hP,hP1,htt,t1,htk,hn0,hn1,i12,hpz,hp24,hs1,ht1,f1,k1,v1,l1,r1,hpl,hpl1,htk1,htk24,f0,k0,v0,l0,r0,ao8,akZ]|refine fsp ?_ ?_<;>intro hb|refine fd ?_|fail))
      (refine alD (kJ _ _ (a++[i],i+1) ⟨?_,?_,?_,?_,⟨aAG _ (by omega) hA _,aAG _ (by omega) hP _,rfl,by simp;omega,.inr ⟨by simp,h.length+2,by omega,by simp[up],by rw[aoZ];simp[nvv]⟩⟩⟩ ?_);(simp[up,h6]);(simp[up,h8]);(simp[up,h27]);(simp[up]);(rw[an2,yes hly];simp))
   ·have z0':((m0:Int)==0)=true:=by rw[ez];exact z0
    rw[t1,z0]at hly
    (have hb:=trivial;with_reducible repeat' (first|simp only[hb,Vc.down,seval,aD2.down,z0',bne,h6,h8,h27,h28,hd,hw,hA,hA1,hP,hP1,htt,t1,htk,hn0,hn1,i12,hpz,hp24,hs1,ht1,f1,k1,v1,l1,r1,hpl,hpl1,htk1,htk24,f0,k0,v0,l0,r0,ao8,akZ]|refine fsp ?_ ?_<;>intro hb|refine fd ?_|fail))
    (refine alD (kJ _ _ (a,i+1) ⟨?_,?_,?_,?_,⟨hA1 _,hP1 _,rfl,au5 hci,hB.app _⟩⟩ ?_);(simp[up,h6]);(simp[up,h8]);(simp[up,h27]);(simp[up]);(rw[an2,no hly]))
 ·exact⟨by simp[up,ent],by simp[up,ent],by simp[up,ent],by simp[up],⟨rfl,rfl,rfl,am7 _,.inl ⟨rfl,by simp[up]⟩⟩⟩
 obtain⟨rfl,hB⟩:=hk
 simp only[aoD,←List.range_eq_range']at hB
 rcases hB with⟨hn,ho⟩|⟨hn,b,hb3,ho,hb⟩
 ·rw[c0 hn]
  (have hb:=trivial;with_reducible repeat' (first|simp only[hb,Vc.down,seval,aD2.down,ho]|refine fsp ?_ ?_<;>intro hb|refine fd ?_|fail))
 ·rw[c1 hn]
  generalize hr:List.filter (alB w N L) (an3 w.parts.length)=r at *
  obtain⟨x,l,rfl⟩:=List.exists_cons_of_ne_nil hn
  (with_reducible repeat' (first|simp only[hb,Vc.down,seval,aD2.down,ho,hb]|refine fsp ?_ ?_<;>intro hb|refine fd ?_|fail))
def ax2(w:agR)(N:Nat)(t:Int):Bool:=decide ((awG w N t:Int)<w.need)
def aGR(q:Int→Bool):Nat→Int→Option Int
 |0,_=>none
 |n+1,t=>if q t=true then some t else aGR q n (t+1)
def ax5(w:agR)(N:Nat)(d:Int):Option Int:=aGR (ax2 w N) (5001-d).toNat d
theorem a11(l:List Int)(nn:Bool)(n:Int)(hl:l.length≤maxLen):om'.call (.fn 21) [slv 1 true nn (l.map iv),.int .i64 n] []=some (.ret (.bool (l.any (· ==n))),[]):=by
 (refine ce Tryd.func21 ?_;simp only[Tryd.f21];(have hb:=trivial;with_reducible repeat' (first|simp only[hb,Vc.down,seval,aKF.down,akZ]|refine fsp ?_ ?_<;>intro hb|refine fd ?_|fail)))
 refine atG (lst 18 l (fun i (zz:Unit) t h=>t 0=slv 1 true nn (l.map iv)∧t 1=.int .i64 n∧t 5=.int .i64 i∧(h=[])) (fun rest zz=>rest.any (· ==n)) (fun r e t h=>h=[]∧((e=.exit 0∧r=false)∨(e=.ret∧t 4=.bool true∧r=true))) ?_ ?_ () _ _ ?_) (fun e t h hk=>?_)
 ·rintro _ t h Q' kQ ⟨h0,h1,h5,rfl⟩
  (have hb:=trivial;with_reducible repeat' (first|simp only[hb,Vc.down,seval,aKF.down,h0,h1,h5,aq4,decide_false,akZ]|refine fsp ?_ ?_<;>intro hb|refine fd ?_|fail))
  exact kQ _ _ _ ⟨rfl,.inl ⟨rfl,rfl⟩⟩
 ·rintro x rest i _ t h J Q' kJ kQ hx hi ⟨h0,h1,h5,rfl⟩
  have hd:decide ((i:Int)<(l.length:Int))=true:=decide_eq_true (by omega)
  have hw:=aoH hi hl
  cases q:(x==n)
  ·(have hb:=trivial;with_reducible repeat' (first|simp only[hb,Vc.down,seval,aKF.down,h0,h1,h5,hd,hw,hx,iv,q,akZ]|refine fsp ?_ ?_<;>intro hb|refine fd ?_|fail))
   (refine alD (kJ _ _ () ⟨?_,?_,?_,rfl⟩ ?_);(simp[up,h0]);(simp[up,h1]);(simp[up]);(simp[q]))
  ·(have hb:=trivial;with_reducible repeat' (first|simp only[hb,Vc.down,seval,aKF.down,h0,h1,h5,hd,hw,hx,iv,q,akZ]|refine fsp ?_ ?_<;>intro hb|refine fd ?_|fail))
   exact kQ _ _ _ ⟨rfl,.inr ⟨rfl,by simp[up],by simp[q]⟩⟩
 ·exact⟨by simp[up,ent],by simp[up,ent],by simp[up],rfl⟩
 obtain⟨rfl,⟨rfl,hr⟩|⟨rfl,h4,hr⟩⟩:=hk
 ·rw[hr]
  (have hb:=trivial;with_reducible repeat' (first|simp only[hb,Vc.down,seval,aKF.down]|refine fsp ?_ ?_<;>intro hb|refine fd ?_|fail))
 ·rw[hr]
  (have hb:=trivial;with_reducible repeat' (first|simp only[hb,Vc.down,seval,aKF.down,h4]|refine fsp ?_ ?_<;>intro hb|refine fd ?_|fail))
theorem aV0(l:List Nat)(nn:Bool)(n:Nat)(hl:l.length≤maxLen):om'.call (.fn 21) [slv 1 true nn (l.map nvv),.int .i64 (n:Int)] []=some (.ret (.bool (l.contains n)),[]):=by
 have h:=a11 (l.map au9) nn n (by simpa using hl)
 have e:(l.map au9).map iv=l.map nvv:=by rw[List.map_map];rfl
 have e2:(l.map au9).any (· ==(n:Int))=l.contains n:=by
  clear h e hl
  induction l with
  |nil=>rfl
  |cons a l ih=>
   rw[List.map_cons,List.any_cons,ih,List.contains_cons]
   congr 1
   rw[Bool.eq_iff_iff];simp
   omega
 rw[e,e2]at h
 exact h
structure LLH(lo:Nat)(ov:AV)(h:qR)(rows Q:List (List AV))(Ro:List Nat):Prop where
 own:aUX 0 1 false rows ov h
 nil:rows=[]→ov=.nils
 q:akX (rd 5 (hf h)) rows=some (Q,Ro)
 dx:∀b∈Ro,lo≤b
 dov:∀st b r n,ov=.slr st b r n→lo≤b∧b∉Ro∧b<h.length
theorem LLH.keep{lo:Nat}{ov:AV}{h h':qR}{rows Q:List (List AV)}{Ro:List Nat}(I:LLH lo ov h rows Q Ro)(hl:h.length≤h'.length)(k:∀b,b<h.length→h'[b]?=h[b]?):LLH lo ov h' rows Q Ro:=by
 refine⟨?_,I.nil,?_,I.dx,fun st b r n e=>?_⟩
 ·rcases I.own with h1|⟨b,w,h1,h2⟩
  ·exact .inl h1
  ·exact .inr ⟨b,w,h1,by rw[k b (qS h2)];exact h2⟩
 ·refine aB1 I.q fun j hj z hz=>?_
  show(h'[j]?).bind agY=_
  rw[k j (aDF (by omega) I.q j hj)];exact hz
 ·obtain⟨a,b,c⟩:=I.dov st b r n e
  exact⟨a,b,by omega⟩
theorem LLH.snoc{lo:Nat}{ov:AV}{h h':qR}{rows Q:List (List AV)}{Ro:List Nat}(I:LLH lo ov h rows Q Ro)(hl:h.length≤h'.length)(k:∀b,b<h.length→h'[b]?=h[b]?){v:AV}{x:List Nat}(B:avE v x h' h.length)(hlo:lo≤h.length)(a:CB){m n:Nat}(hm:m=h'.length+1)(hn:n=rows.length+1):
 ∃R',R'.length≤1∧LLH lo (.slr 1 m 0 n) (kl 0 ov h'++[a,.live 1 false false (rows++[[v]])]) (rows++[[v]]) (Q++[[slv 1 true false (x.map nvv)]]) (Ro++R'):=by
 subst hm hn
 have I':=I.keep hl k
 have lR:=aDF (by omega) I.q
 have get:∀j,j<h'.length→(∀st m r n,ov=.slr st m r n→m≠j)→(kl 0 ov h'++[a,.live 1 false false (rows++[[v]])])[j]?=h'[j]?:=fun j hj ho=>aE1 _ hj ho
 have hlen:(kl 0 ov h').length=h'.length:=aDO ..
 have hnew:(kl 0 ov h'++[a,.live 1 false false (rows++[[v]])])[h'.length+1]?=some (.live 1 false false (rows++[[v]])):=by
  rw[am5 (by omega),hlen,show h'.length+1-h'.length=1 by omega];rfl
 have q1:akX (rd 5 (hf (kl 0 ov h'++[a,.live 1 false false (rows++[[v]])]))) rows=some (Q,Ro):=aB1 I'.q fun j hj z hz=>by
  show((kl 0 ov h'++_)[j]?).bind agY=_
  rw[get j (by have:=lR j hj;omega) fun st m r n e e2=>(I.dov st m r n e).2.1 (e2▸hj)];exact hz
 have rv:∃R',R'.length≤1∧(∀b∈R',h.length≤b∧b<h'.length)∧rd 5 (hf (kl 0 ov h'++[a,.live 1 false false (rows++[[v]])])) v=some (slv 1 true false (x.map nvv),R'):=by
  rcases B with⟨rfl,rfl⟩|⟨hx,b,hb,rfl,hg⟩
  ·exact⟨[],by simp,by simp,rfl⟩
  ·refine⟨[b],by simp,fun c hc=>?_,?_⟩
   ·simp at hc;subst hc;exact⟨hb,qS hg⟩
   ·rw[aV1 (by simpa using hx)]
    refine a0H ?_ (by simp)
    show((kl 0 ov h'++_)[b]?).bind agY=_
    rw[get b (qS hg) fun st m r n e e2=>by have:=(I.dov st m r n e).2.2;omega,hg];rfl
 obtain⟨R',r1,r2,r3⟩:=rv
 refine⟨R',r1,.inr ⟨h'.length+1,false,by simp,hnew⟩,fun e=>by simp at e,?_,fun b hb=>?_,fun st b r n e=>?_⟩
 ·have:=azO q1 (aHK r3 aO7)
  simpa using this
 ·rcases aCX.1 hb with hb|hb
  ·exact I.dx b hb
  ·have:=r2 b hb;omega
 ·cases e
  refine⟨by omega,fun hb=>?_,by simp[hlen]⟩
  rcases aCX.1 hb with hb|hb
  ·have:=lR _ hb;omega
  ·have:=r2 _ hb;omega
def aAL(E:List Net.Edge)(d:List Nat)(k i:Nat):Bool:=match E[i]? with
 |some e=>e.2.2==1&&min (d.getD e.1 0) (d.getD e.2.1 0)==k&&max (d.getD e.1 0) (d.getD e.2.1 0)==k+1
 |none=>false
def aB0(E:List Net.Edge)(d:List Nat)(n k:Nat):List Nat:=(an3 n).filter (aAL E d k)
def atC(E:List Net.Edge)(d:List Nat)(n c:Nat):List (List AV):=(an3 c).map fun k=>[slv 1 true false ((aB0 E d n k).map nvv)]
theorem aLT(p:Nat→Bool)(i:Nat):(an3 (i+1)).filter p=(an3 i).filter p++if p i=true then [i]else []:=by
 rw[aDB,List.filter_append,au4,List.filter_nil]
theorem aHM(E:List Net.Edge)(d:List Nat)(n c:Nat):atC E d n (c+1)=atC E d n c++[[slv 1 true false ((aB0 E d n c).map nvv)]]:=by
 unfold atC;rw[aDB,arZ];rfl
theorem aZJ{w:agR}{N:Nat}(hw:WOk w N){d r:Int}{y:AV}{lb rb kb:Nat}(Inv:Nat→qR→Prop)(Stop:qR→Prop)
 (hL:∀i h,Inv i h→∃w1,h[lb]?=some (.live 1 false w1 [[.ptr kb 0 0]])) (hK:∀i h,Inv i h→∃w2,h[kb]?=some (.live 4 false w2 [[.int .i64 w.rooms,.int .i64 w.need,slv 9 true w.nn (w.parts.map acC.cells),.int .i64 d]])) (hR:∀i h,Inv i h→∃w3,h[rb]?=some (.live 1 true w3 [[.int .i64 r]]))
 (hA:∀i h fl wf (rows:List (List AV)),Inv i h→Inv i (h++[.live 9 fl wf rows]))
 (hS:∀(i:Nat) (p:acC) (u:Int) h,w.parts[i]?=some p→((p.one=r∧u=p.other)∨(p.one≠r∧p.other=r∧u=p.one))→Inv i h→(∃es,cl om' h (some y) (some [.int .i64 i,.int .i64 u])=some (.ret (.bool true),es)∧Inv (i+1) (ag5 h es))∨∃es,cl om' h (some y) (some [.int .i64 i,.int .i64 u])=some (.ret (.bool false),es)∧Stop (ag5 h es))
 (hN:∀(i:Nat) (p:acC) h,w.parts[i]?=some p→p.one≠r→p.other≠r→Inv i h→Inv (i+1) h)
 {h0:qR} (h0I:Inv 0 h0):ShQ om' 71 [y,.ptr lb 0 0,.ptr rb 0 0] h0 fun o h'=>o=.ret (.tup [])∧(Inv w.parts.length h'∨Stop h'):=by
 obtain⟨w1,hl⟩:=hL _ _ h0I
 obtain⟨w2,hk0⟩:=hK _ _ h0I
 have hlen:=hw.len
 refine aHF rfl Tryd.func71 rfl rfl ?_
 simp only[Tryd.f71]
 (have hb:=trivial;with_reducible repeat' (first|simp only[hb,Vc.down,seval,axB.down,hl,hk0,akZ]|refine fsp ?_ ?_<;>intro hb|refine fd ?_|fail))
 refine atG (lst 41 w.parts (fun i (_:Unit) t h=>t 0=y∧t 1=.ptr lb 0 0∧t 2=.ptr rb 0 0∧t 11=slv 9 true w.nn (w.parts.map acC.cells)∧t 12=.int .i64 (w.parts.length:Nat)∧t 13=.int .i64 (i:Int)∧Inv i h) (fun _ _=>()) (fun _ e t h=>(e=.exit 0∧Inv w.parts.length h)∨(e=.ret∧Stop h)) ?_ ?_ () _ _ ?_) (fun e t h hk=>?_)
 ·rintro _ t h Q' kQ ⟨g0,g1,g2,g11,g12,g13,hI⟩
  (have hb:=trivial;with_reducible repeat' (first|simp only[hb,Vc.down,seval,axB.down,g12,g13,aq4,decide_false]|refine fsp ?_ ?_<;>intro hb|refine fd ?_|fail))
  exact kQ _ _ _ (.inl ⟨rfl,hI⟩)
 ·rintro p rest i _ t h J Q' kJ kQ hx hi ⟨g0,g1,g2,g11,g12,g13,hI⟩
  have hdd:decide ((i:Int)<(w.parts.length:Int))=true:=decide_eq_true (by omega)
  have hww:=aoH hi (by unfold maxLen;omega)
  have hpo:=hw.part p (asZ hx)
  obtain⟨w3,hr⟩:=hR _ _ hI
  have hr1:=acG hr
  have hv1:=hA _ _ true true [p.cells] hI
  have c1:decide ((0:Int)≤p.other)=true:=decide_eq_true hpo.2.1.1
  have c2:decide ((0:Int)≤p.one)=true:=decide_eq_true hpo.1.1
  have c3:decide ((0:Int)≤ -1)=false:=rfl
  by_cases e1:p.one=r
  ·have q1:(r==p.one)=true:=by simp[e1]
   rcases hS i p p.other _ hx (.inl ⟨e1,rfl⟩) hv1 with⟨es,hes,hv2⟩|⟨es,hes,hv2⟩
   ·simp only[acC.cells]at hes hv2
    (have hb:=trivial;with_reducible repeat' (first|simp only[hb,Vc.down,seval,axB.down,g0,g1,g2,g11,g12,g13,hdd,hww,hx,hr,hr1,q1,c1,hes,acC.cells]|refine fsp ?_ ?_<;>intro hb|refine fd ?_|fail))
    exact alD (kJ _ _ () ⟨by simp[up,g0],by simp[up,g1],by simp[up,g2],by simp[up,g11],by simp[up,g12],by simp[up],hv2⟩ rfl)
   ·simp only[acC.cells]at hes hv2
    (have hb:=trivial;with_reducible repeat' (first|simp only[hb,Vc.down,seval,axB.down,g0,g1,g2,g11,g12,g13,hdd,hww,hx,hr,hr1,q1,c1,hes,acC.cells]|refine fsp ?_ ?_<;>intro hb|refine fd ?_|fail))
    exact kQ _ _ _ (.inr ⟨rfl,hv2⟩)
  ·have q1:(r==p.one)=false:=by simp;exact fun e=>e1 e.symm
   by_cases e2:p.other=r
   ·have q2:(r==p.other)=true:=by simp[e2]
    rcases hS i p p.one _ hx (.inr ⟨e1,e2,rfl⟩) hv1 with⟨es,hes,hv2⟩|⟨es,hes,hv2⟩
    ·simp only[acC.cells]at hes hv2
     (have hb:=trivial;with_reducible repeat' (first|simp only[hb,Vc.down,seval,axB.down,g0,g1,g2,g11,g12,g13,hdd,hww,hx,hr,hr1,q1,q2,c2,hes,acC.cells]|refine fsp ?_ ?_<;>intro hb|refine fd ?_|fail))
     exact alD (kJ _ _ () ⟨by simp[up,g0],by simp[up,g1],by simp[up,g2],by simp[up,g11],by simp[up,g12],by simp[up],hv2⟩ rfl)
    ·simp only[acC.cells]at hes hv2
     (have hb:=trivial;with_reducible repeat' (first|simp only[hb,Vc.down,seval,axB.down,g0,g1,g2,g11,g12,g13,hdd,hww,hx,hr,hr1,q1,q2,c2,hes,acC.cells]|refine fsp ?_ ?_<;>intro hb|refine fd ?_|fail))
     exact kQ _ _ _ (.inr ⟨rfl,hv2⟩)
   ·have q2:(r==p.other)=false:=by simp;exact fun e=>e2 e.symm
    have hv2:=hN i p _ hx e1 e2 hv1
    simp only[acC.cells]at hv2
    (have hb:=trivial;with_reducible repeat' (first|simp only[hb,Vc.down,seval,axB.down,g0,g1,g2,g11,g12,g13,hdd,hww,hx,hr,hr1,q1,q2,c3,acC.cells]|refine fsp ?_ ?_<;>intro hb|refine fd ?_|fail))
    exact alD (kJ _ _ () ⟨by simp[up,g0],by simp[up,g1],by simp[up,g2],by simp[up,g11],by simp[up,g12],by simp[up],hv2⟩ rfl)
 ·exact⟨by simp[up,ent],by simp[up,ent],by simp[up,ent],by simp[up],by simp[up],by simp[up],h0I⟩
 rcases hk with⟨rfl,hI⟩|⟨rfl,hI⟩
 ·(have hb:=trivial;with_reducible repeat' (first|simp only[hb,Vc.down,seval,axB.down]|refine fsp ?_ ?_<;>intro hb|refine fd ?_|fail))
  exact .inl hI
 ·(have hb:=trivial;with_reducible repeat' (first|simp only[hb,Vc.down,seval,axB.down]|refine fsp ?_ ?_<;>intro hb|refine fd ?_|fail))
  exact .inr hI
end Go.Proofs.YtckfcfcmfjfchaaDoor
