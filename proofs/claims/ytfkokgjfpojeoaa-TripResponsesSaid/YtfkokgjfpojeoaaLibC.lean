/- The evaluator and its soundness. -/
import Derived.Test.YtfkokgjfpojeoaaLibB
import Derived.RangeFuncLeaves
import Derived.RangeFuncRecord
import Derived.OrdersIn
import Derived.RangeFuncNested
open Option renaming bind_eq_some_iff→acL,map_eq_some_iff→acR,some→aAN,map_some→aSU,bind_some→aV9,getD_some→a1M
open List renaming getElem?_eq_getElem→acZ,mem_singleton→aqD,mem_flatMap→aAM,getElem?_eq_some_iff→aAO,mem_cons_of_mem→aAP,mem_cons_self→aC6,mem_iff_getElem→aE9,mem_range→aHJ,filter_cons_of_pos→aHM,mem_cons→aIC,length_cons→aID,replicate→aJZ,mem_map→aKM,mem_append_right→aLE,getElem?_set→aLF,filter_cons_of_neg→aLH,flatMap_cons→aLI,mem_append→aM9,any_eq_false→aOD,mem_of_getElem?→aON,getElem?_eq_none→aOW,prefix_refl→aOX,getElem?_drop→aOY,mem_append_left→aQ7,all_eq_true→aR6,range→aSY,mem_filter→aS0,any_eq_true→aTP,getD_eq_getElem?_getD→aT3,getElem_mem→aVS,length_map→aVT,mapM_cons→aWA,pairwise_cons→aXG,getElem?_replicate→aXO,ext_getElem?→aX2,getElem?_take→aYW,mem_filterMap→a1H,getElem?_map→a1K,take_left'→a1O
open Array renaming getElem?_eq_some_iff→aCF,getD_eq_getD_getElem?→aC7,replicate→aER,getElem?_toList→aPA,foldl_toList→aR1,all_eq_true'→aTE,getElem?_eq_none→a1J,getElem?_eq_getElem→a1L,getElem?_replicate→a1N
open Nat renaming le_refl→aEO,le_trans→aLD,lt_or_ge→aOZ,strongRecOn→aPH,lt_of_lt_of_le→aRF,lt_trichotomy→aRG
open Bool renaming false_eq_true→aG6,and_eq_true→aLG,not_eq_true→aR5,and_assoc→aYH
set_option linter.unusedSimpArgs false
set_option linter.unusedVariables false
namespace Go.Ev
noncomputable section
open Go.RowKit
def WF(F:Fence):Prop:=F=Fence.wide∨∃l,F=Fence.wide.inRound l
theorem WF.fn{F:Fence}(h:WF F)(f:FuncId):F.fn f:=by
 rcases h with rfl|⟨l,rfl⟩<;>exact trivial
theorem WF.depth{F:Fence}(h:WF F):F.depth=none:=by
 rcases h with rfl|⟨l,rfl⟩<;>rfl
theorem WF.calls{F:Fence}(h:WF F){n:Nat}{P:Program}{f:FuncId}{args:Array Value}{w:World}{R:Ending→World→Prop}(k:Calls P f args w R):CallsIn F n P f args w R:=by
 rcases h with rfl|⟨l,rfl⟩
 ·exact callsIn_wide.2 k
 ·exact(callsIn_wide (n:=n)).2 k
def aLW(out:Gw)(cv:Value):Ending→Prop
 | .returned v=>(∃x,out=.ret x)∧v=cv
 | .panicked ch=>(∃x,out=.pan x)∧ch=[{ v:=cv,recovered:=false }]
 | .outgrown=>False
def zD(h0:Aa)(w:World)(S:Nat→Prop)(ρ:Bq)(out:Gw)(h':Aa)(e:Ending)(w':World):Prop:=
 ∃cv S' ρ',aLW out cv e∧ac7 h0 w S ρ out.v h' cv w' S' ρ'
def qG(G:Nat→Option Obj)(w:World)(S:Nat→Prop):Prop:=∀b o,G b=some o→S b∧w.heap[b]?=some o
theorem qG.sim{G:Nat→Option Obj}{w w':World}{S S':Nat→Prop}{ρ ρ':Bq}(h:qG G w S)(hs:Ix w w' S S' ρ ρ'):qG G w' S':=fun b o hb=>
 ⟨hs.sub b (h b o hb).1,by rw[hs.keep b (h b o hb).1];exact(h b o hb).2⟩
theorem qG.mono{G:Nat→Option Obj}{w:World}{S S':Nat→Prop}(h:qG G w S)(hS:∀b,S b→S' b):qG G w S':=fun b o hb=>⟨hS b (h b o hb).1,(h b o hb).2⟩
def bdL(P:Program)(G:Nat→Option Obj)(O:Hz):Prop:=∀f args h out h',O.call (.fn f) args h=some (out,h')→
 (∀args w,(callFunc f args).run P w=.ok (.enter f args) w)∧
 ∀w S ρ (cargs:Array Value),qG G w S→HR w S ρ (hf h)→(∀b,h.length≤b→ρ b=.fresh)→(∀b,b<h.length→ρ b≠.fresh)→LR w S ρ args cargs.toList→Calls P f cargs w (zD h w S ρ out h')
def biT(P:Program)(G:Nat→Option Obj)(O:Hz):Prop:=∀f args h out h',O.call (.sh f) args h=some (out,h')→
 (∀args w,(callFunc f args).run P w=.ok (.enter f args) w)∧
 ∀w S ρ (cargs:Array Value),qG G w S→HR w S ρ (hf h)→(∀b,h.length≤b→ρ b=.fresh)→(∀b,b<h.length→ρ b≠.fresh)→LR w S ρ args cargs.toList→Calls P f cargs w (zD h w S ρ out h')
def a0W(P:Program)(G:Nat→Option Obj)(O:Hz):Prop:=∀args h out h',O.call .round args h=some (out,h')→
 ∀w S ρ (cargs:Array Value) l,qG G w S→HR w S ρ (hf h)→(∀b,h.length≤b→ρ b=.fresh)→(∀b,b<h.length→ρ b≠.fresh)→LR w S ρ args (cargs.toList++[.func (.yield l) #[] #[]])→
 ∃fn tmps asg body,(Instr.yield l cargs).run P w=.ok (.round l fn tmps asg body) w∧∀F nn,WF F→RoundIn F nn P l fn tmps asg body w (zD h w S ρ out h')
def Me(P:Program)(G:Nat→Option Obj)(O:Hz):Prop:=bdL P G O∧a0W P G O∧biT P G O
def aFL(c:qE)(f:Nat):Prop:=c=.fn f∨c=.sh f
theorem aF2(f:Nat)(args:List AV):aFL (vW f args) f:=by
 unfold vW aFL
 split
 ·exact .inr rfl
 ·exact .inr rfl
 ·exact .inr rfl
 ·exact .inr rfl
 ·exact .inr rfl
 ·exact .inl rfl
def aYN(f c:qE):Prop:=c=f∨∃n,f=.sh n∧c=.fn n
theorem aFL.to{c c':qE}{f:Nat}(h:aFL c f)(k:aYN c c'):aFL c' f:=by
 rcases k with rfl|⟨n,rfl,rfl⟩
 ·exact h
 ·rcases h with h|h
  ·cases h
  ·cases h;exact .inl rfl
def aaO(O:Hz)(f:qE)(args:List AV):Prop:=∃n,f=.fn n∨f=.sh n∧(acV args||O.md n)=false
theorem aaO.eq{O:Hz}{f:qE}{args:List AV}(h:aaO O f args):∃n,aYN f (.fn n)∧∀g base,Jd O g base f args=Gg O g base (.fn n) args:=by
 obtain⟨n,rfl|⟨rfl,h⟩⟩:=h
 ·exact⟨n,.inl rfl,fun g base=>rfl⟩
 ·exact⟨n,.inr ⟨n,rfl,rfl⟩,fun g base=>by simp only[Jd,h,cond_false]⟩
theorem ab7{O:Hz}{f:qE}{args:List AV}(h:¬aaO O f args)(g:HF)(base:Nat):Jd O g base f args=Ru O g base f args:=by
 cases f with
 |fn n=>exact(h ⟨n,.inl rfl⟩).elim
 |round=>rfl
 |sh n=>
  cases hq:(acV args||O.md n)with
  |true=>simp only[Jd,hq,cond_true]
  |false=>exact(h ⟨n,.inr ⟨rfl,hq⟩⟩).elim
section
variable {P:Program} {G:Nat→Option Obj} {O:Hz}
theorem aCD{g:HF}{args:List AV}{x:AV}{b:Nat}(hx:x∈args)(hb:b∈Dk 12 g x):b∈args.flatMap (Dk 12 g):=aAM.2 ⟨x,hx,hb⟩
theorem ah6{g:HF}:∀{d:Nat} {x x':AV},Je d g x=some x'→∀b∈Dk d g x,g b≠none
 |0,_,_,h,_,_=>by simp[Je]at h
 |d+1,x,x',h,b,hb=>by
  cases x with
  |slr st0 b0 r len=>
   simp only[Je,acL]at h
   obtain⟨⟨st,fl,rows⟩,hr,h⟩:=h
   simp only at h
   have hg:g b0≠none:=fun e=>by simp[Ju,e]at hr
   simp only[Dk,hr]at hb
   rcases aIC.1 hb with rfl|hb
   ·exact hg
   ·split at h
    ·rename_i hfl;simp[hfl]at hb
    ·rename_i hfl
     simp only[hfl]at hb
     obtain⟨rows',ho,_⟩:=acR.1 h
     obtain⟨row,hrow,hb⟩:=aAM.1 hb
     obtain⟨y,hy,hb⟩:=aAM.1 hb
     obtain⟨i,hi,rfl⟩:=aE9.1 hrow
     obtain⟨row',h1,h2⟩:=nR ho (acZ hi)
     obtain⟨j,hj,rfl⟩:=aE9.1 hy
     obtain⟨y',h3,h4⟩:=nR h2 (acZ hj)
     exact ah6 h4 b hb
  |agg cs=>
   obtain⟨cs',ho,_⟩:=acR.1 h
   simp only[Dk]at hb
   obtain⟨y,hy,hb⟩:=aAM.1 hb
   obtain⟨j,hj,rfl⟩:=aE9.1 hy
   obtain⟨y',h3,h4⟩:=nR ho (acZ hj)
   exact ah6 h4 b hb
  |iface t y=>
   obtain⟨y',ho,_⟩:=acR.1 h
   exact ah6 ho b (by simpa [Dk]using hb)
  |_=>simp[Dk]at hb
theorem aBX{g:HF}:∀{d:Nat} {x x':AV},Of d g x=some x'→∀b∈Dk d g x,g b≠none
 |0,_,_,h,_,_=>by simp[Of]at h
 |d+1,x,x',h,b,hb=>by
  cases x with
  |slr st0 b0 r len=>exact ah6 (d:=d+1) (by simpa [Of]using h) b hb
  |agg cs=>
   obtain⟨cs',ho,_⟩:=acR.1 h
   simp only[Dk]at hb
   obtain⟨y,hy,hb⟩:=aAM.1 hb
   obtain⟨j,hj,rfl⟩:=aE9.1 hy
   obtain⟨y',h3,h4⟩:=nR ho (acZ hj)
   exact aBX h4 b hb
  |iface t y=>
   obtain⟨y',ho,_⟩:=acR.1 h
   exact aBX ho b (by simpa [Dk]using hb)
  |_=>simp[Dk]at hb
theorem aPC{w:World}{S:Nat→Prop}{ρ:Bq}{g:HF}(H:HR w S ρ g){base z:Nat}(hz:ρ z=.fresh)(hgf:∀b,g b≠none→ρ b≠.fresh){f:qE}{args:List AV}{cargs:List Value}
 (hargs:LR w S ρ args cargs) (hmb:∀vs vs' cs m,Da (Of 12 g) args=some vs→Vw g [] vs=some (vs',cs,m)→∀b∈m,b<base) {d:Wz} (hc:Gg O g base f args=some d)
 (hnew:∀b c,As.new b c∈d.es→ρ b=.fresh):
 ∃vs' h0 out h' Sc ρc,(∀b,S b→Sc b)∧O.call f vs' h0=some (out,h')∧HR w Sc ρc (hf h0)∧(∀b,h0.length≤b→ρc b=.fresh)∧(∀b,b<h0.length→ρc b≠.fresh)∧LR w Sc ρc vs' cargs∧
 ∀e w',zD h0 w Sc ρc out h' e w'→∃cv S' ρ',aLW d.out cv e∧VR w' S' ρ' d.out.v cv∧HR w' S' ρ' (Bt g d.es)∧Ix w w' S S' ρ ρ'∧jI (Kz d.es) w w' ρ ρ'∧lQ d.es ρ ρ':=by
 unfold Gg at hc
 simp only[acL]at hc
 obtain⟨vs,hvs,⟨vs',cs,m⟩,hp,hc⟩:=hc
 simp only at hc
 have hmb:=hmb vs vs' cs m hvs hp
 split at hc
 ·simp at hc
 ·rename_i hlm0
  obtain⟨⟨out,h'⟩,hcall,hu⟩:=acL.1 hc
  simp only at hu
  have hlm:∀b∈args.flatMap (Dk 12 g),b∉m:=fun b hb hm=>hlm0 (by
   rw[aTP];exact⟨b,hb,by simpa using hm⟩)
  obtain⟨p1,p2,p3,p4,p5,p6⟩:=aEL hp
  have hnd:=p2 (by simp)
  have hmf:∀b∈m,ρ b≠.fresh:=fun b hb=>by
   obtain⟨j,hj,rfl⟩:=aE9.1 hb
   obtain⟨b',c,k1,k2,_⟩:=p4 j _ (acZ (by omega:j<cs.length))
   rw[acZ hj]at k1;cases k1
   exact hgf _ (by rw[k2];simp)
  have hlf:∀b∈args.flatMap (Dk 12 g),ρ b≠.fresh:=fun b hb=>by
   obtain⟨x,hx,hb⟩:=aAM.1 hb
   obtain⟨j,hj,rfl⟩:=aE9.1 hx
   obtain⟨y',h3,h4⟩:=nR hvs (acZ hj)
   exact hgf b (aBX h4 b hb)
  have hSc:∀b,S b→(S b∨aU7 ρ (args.flatMap (Dk 12 g)) b):=fun b hb=>.inl hb
  have H1:=aQ6 (Sc:=fun b=>S b∨aU7 ρ (args.flatMap (Dk 12 g)) b) H hz hSc
   (fun b hb=>by rcases hb with hb|⟨id,_,co,st,sz,hρ⟩;exact H.old b hb;exact H.lt hρ) hnd p3 p4
   (fun b hb cb co st sz hρ hnS hs=>by
     rcases hs with hs|⟨id,Jb,co',st',sz',hρ'⟩
     ·exact hnS hs
     ·exact hlm id Jb ((H.inj _ _ _ _ _ _ _ _ _ hρ hρ')▸hb))
   (fun b l hρ hs=>by
     rcases hs with hs|⟨id,Jb,co',st',sz',hρ'⟩
     ·exact H.lnS _ _ hρ hs
     ·exact H.apart hρ hρ')
  have hlr:LR w (fun b=>S b∨aU7 ρ (args.flatMap (Dk 12 g)) b) (ρ.via m z) vs' cargs:=by
   obtain⟨o1,o2⟩:=Ht hvs
   refine⟨by rw[←p5,←o1];exact hargs.1,fun i x v hx hv=>?_⟩
   have hi:i<vs.length:=by rw[p5];exact(aAO.1 hx).1
   obtain⟨m1,m2,k1,k2⟩:=p6 i _ x (acZ hi) hx
   obtain⟨y,hy1,hy2⟩:=o2 i _ (acZ hi)
   refine k1.vr z k2 (ap9 H hSc hy2 (hargs.2 i y v hy1 hv) (fun b hb cb co st sz hρ=>.inr ⟨b,aCD (aON hy1) hb,co,st,sz,hρ⟩))
  have hdomc:∀b,(cs.map CB.clean).length≤b→ρ.via m z b=.fresh:=fun b hb=>by
   simp at hb
   unfold Bq.via
   rw[aT3,aOW (by omega)]
   exact hz
  have hallc:∀b,b<(cs.map CB.clean).length→ρ.via m z b≠.fresh:=fun b hb=>by
   simp at hb
   have hb':b<m.length:=by omega
   rw[Bq.via_at (aOX _) (acZ hb')]
   exact hmf _ (aVS hb')
  have hnew':∀b,base≤b→b<base+(h'.length-m.length)→ρ b=.fresh:=fun b hb1 hb2=>by
   unfold Yu at hu
   simp only[acL]at hu
   obtain⟨v,_,ps,_,ns,hns,hu⟩:=hu
   simp only[aAN.injEq]at hu;subst hu
   obtain⟨c',_,_,k3⟩:=(acG hns g b).2 (b-base) _ (by rw[aOY];exact acZ (by omega:m.length+(b-base)<h'.length)) (by omega)
   exact hnew b c' (aLE _ k3)
  refine⟨vs',_,out,h',_,ρ.via m z,hSc,hcall,H1,hdomc,hallc,hlr,fun e w' ⟨cv,Sc',ρc',he,CP⟩=>?_⟩
  obtain⟨S',ρ',k1,k2,k3,k4,k5⟩:=aKF H hz hnd p3 p4 hmb hlm hmf hlf CP hnew' hu
  refine⟨cv,S',ρ',?_,k1,k2,k3,k4,k5⟩
  have hout:(∃x,out=.ret x)→∃x,d.out=.ret x:=by
   intro ⟨x,hx⟩
   unfold Yu at hu
   simp only[acL]at hu
   obtain⟨v,_,ps,_,ns,_,hu⟩:=hu
   simp only[aAN.injEq]at hu;subst hu;subst hx;exact⟨_,rfl⟩
  have hout2:(∃x,out=.pan x)→∃x,d.out=.pan x:=by
   intro ⟨x,hx⟩
   unfold Yu at hu
   simp only[acL]at hu
   obtain⟨v,_,ps,_,ns,_,hu⟩:=hu
   simp only[aAN.injEq]at hu;subst hu;subst hx;exact⟨_,rfl⟩
  cases e with
  |returned v=>exact⟨hout he.1,he.2⟩
  |panicked ch=>exact⟨hout2 he.1,he.2⟩
  |outgrown=>exact he
theorem aIV{w:World}{S:Nat→Prop}{ρ:Bq}{g:HF}(H:HR w S ρ g){base z:Nat}(hz:ρ z=.fresh)(hgf:∀b,g b≠none→ρ b≠.fresh){f:qE}{args:List AV}{cargs:List Value}
 (hargs:LR w S ρ args cargs) (hmb:∀vs vs' cs m,Da (Of 12 g) args=some vs→Vw g [] vs=some (vs',cs,m)→aaO O f args→∀b∈m,b<base) {d:Wz} (hc:Jd O g base f args=some d) (hall:Ew.all∈d.fs→∀b,base≤b→g b=none)
 (hnew:∀b c,As.new b c∈d.es→ρ b=.fresh):
 ∃c' vs' h0 out h' Sc ρc,aYN f c'∧(∀b,S b→Sc b)∧O.call c' vs' h0=some (out,h')∧HR w Sc ρc (hf h0)∧(∀b,h0.length≤b→ρc b=.fresh)∧(∀b,b<h0.length→ρc b≠.fresh)∧LR w Sc ρc vs' cargs∧
 ∀e w',zD h0 w Sc ρc out h' e w'→∃cv S' ρ',aLW d.out cv e∧VR w' S' ρ' d.out.v cv∧HR w' S' ρ' (Bt g d.es)∧Ix w w' S S' ρ ρ'∧jI (Kz d.es) w w' ρ ρ'∧lQ d.es ρ ρ':=by
 have sh:Ru O g base f args=some d→∃vs' h0 out h' Sc ρc,(∀b,S b→Sc b)∧O.call f vs' h0=some (out,h')∧HR w Sc ρc (hf h0)∧(∀b,h0.length≤b→ρc b=.fresh)∧(∀b,b<h0.length→ρc b≠.fresh)∧LR w Sc ρc vs' cargs∧
  ∀e w',zD h0 w Sc ρc out h' e w'→∃cv S' ρ',aLW d.out cv e∧VR w' S' ρ' d.out.v cv∧HR w' S' ρ' (Bt g d.es)∧Ix w w' S S' ρ ρ'∧jI (Kz d.es) w w' ρ ρ'∧lQ d.es ρ ρ':=fun hc=>by
  unfold Ru at hc
  obtain⟨h,hh,hc⟩:=acL.1 hc
  obtain⟨⟨out,h'⟩,hcall,hc⟩:=acL.1 hc
  obtain⟨es,hes,rfl⟩:=acR.1 hc
  obtain⟨hl,hg⟩:=a5I hh
  have hno:∀b,h.length≤b→g b=none:=fun b hb=>hall (by simp) b (by omega)
  have nof:∀b,ρ b≠.fresh→b<h.length:=fun b hb=>by
   rcases aOZ b h.length with h1|h1
   ·exact h1
   ·have hn:=hno b h1
    cases hρ:ρ b with
    |fresh=>exact(hb hρ).elim
    |dead=>rw[H.dead b hρ]at hn;cases hn
    |lp l=>obtain⟨_,_,_,_,_,_,_,q,_⟩:=H.lps b l hρ;rw[q]at hn;cases hn
    |pl cb co st sz=>
     obtain⟨_,_,_,_,_,_,_,_,q⟩:=H.at_ b cb co st sz hρ
     rcases q with⟨⟨wr,q⟩,_⟩|⟨q,_⟩<;>(rw[q]at hn;cases hn)
  refine⟨args,h.map CB.clean,out,h',S,ρ,fun _ h=>h,hcall,(H.listed hg nof).clean,fun b hb=>?_,fun b hb=>?_,hargs,fun e w' ⟨cv,S',ρ',he,CP⟩=>?_⟩
  ·simp only[aVT]at hb
   by_cases hρ:ρ b=.fresh
   ·exact hρ
   ·have:=nof b hρ;omega
  ·simp only[aVT]at hb
   exact hgf b (by rw[hg b _ (acZ hb)];simp)
  ·obtain⟨k1,k2,k3,k4,k5⟩:=aKV H hg hno CP hes
   exact⟨cv,S',ρ',he,k1,k2,k3,k4,k5⟩
 by_cases hp:aaO O f args
 ·obtain⟨n,k1,k2⟩:=hp.eq
  rw[k2]at hc
  obtain⟨vs',h0,out,h',Sc,ρc,q⟩:=aPC (f:=.fn n) H hz hgf hargs (fun vs vs' cs m h1 h2=>hmb vs vs' cs m h1 h2 hp) hc hnew
  exact⟨_,vs',h0,out,h',Sc,ρc,k1,q⟩
 ·rw[ab7 hp]at hc
  obtain⟨vs',h0,out,h',Sc,ρc,q⟩:=sh hc
  exact⟨f,vs',h0,out,h',Sc,ρc,.inl rfl,q⟩
theorem aFW(hO:Me P G O){w:World}{S:Nat→Prop}(hI:qG G w S){ρ:Bq}{g:HF}(H:HR w S ρ g){base z:Nat}(hz:ρ z=.fresh)(hgf:∀b,g b≠none→ρ b≠.fresh){c:qE}{f:Nat}(hcf:aFL c f){args:List AV}{cargs:Array Value}
 (hargs:LR w S ρ args cargs.toList) (hmb:∀vs vs' cs m,Da (Of 12 g) args=some vs→Vw g [] vs=some (vs',cs,m)→aaO O c args→∀b∈m,b<base) {d:Wz} (hc:Jd O g base c args=some d) (hall:Ew.all∈d.fs→∀b,base≤b→g b=none)
 (hnew:∀b c,As.new b c∈d.es→ρ b=.fresh):
 (∀args w,(callFunc f args).run P w=.ok (.enter f args) w)∧
 Calls P f cargs w fun e w'=>∃cv S' ρ',aLW d.out cv e∧VR w' S' ρ' d.out.v cv∧HR w' S' ρ' (Bt g d.es)∧Ix w w' S S' ρ ρ'∧jI (Kz d.es) w w' ρ ρ'∧lQ d.es ρ ρ':=by
 obtain⟨c',vs',h0,out,h',Sc,ρc,kc,k0,k1,k2,k3,k4,k5,k6⟩:=aIV H hz hgf hargs hmb hc hall hnew
 rcases hcf.to kc with rfl|rfl
 ·obtain⟨henter,hok⟩:=hO.1 f vs' _ out h' k1
  exact⟨henter,(hok w _ _ cargs (hI.mono k0) k2 k3 k4 k5).mono k6⟩
 ·obtain⟨henter,hok⟩:=hO.2.2 f vs' _ out h' k1
  exact⟨henter,(hok w _ _ cargs (hI.mono k0) k2 k3 k4 k5).mono k6⟩
theorem aDG(hO:Me P G O){w:World}{S:Nat→Prop}(hI:qG G w S){ρ:Bq}{g:HF}(H:HR w S ρ g){base z:Nat}(hz:ρ z=.fresh)(hgf:∀b,g b≠none→ρ b≠.fresh){args:List AV}{cargs:Array Value}{l:Nat}
 (hargs:LR w S ρ args (cargs.toList++[.func (.yield l) #[] #[]])) {d:Wz} (hc:Jd O g base .round args=some d) (hall:Ew.all∈d.fs→∀b,base≤b→g b=none)
 (hnew:∀b c,As.new b c∈d.es→ρ b=.fresh):
 ∃fn tmps asg body,(Instr.yield l cargs).run P w=.ok (.round l fn tmps asg body) w∧∀F nn,WF F→RoundIn F nn P l fn tmps asg body w fun e w'=>∃cv S' ρ',aLW d.out cv e∧VR w' S' ρ' d.out.v cv∧HR w' S' ρ' (Bt g d.es)∧Ix w w' S S' ρ ρ'∧jI (Kz d.es) w w' ρ ρ'∧lQ d.es ρ ρ':=by
 obtain⟨c',vs',h0,out,h',Sc,ρc,kc,k0,k1,k2,k3,k4,k5,k6⟩:=aIV H hz hgf hargs (fun _ _ _ _ _ _ ⟨_,h⟩=>by rcases h with h|h<;>simp at h) hc hall hnew
 obtain rfl:c'=.round:=by
  rcases kc with rfl|⟨n,h,_⟩
  ·rfl
  ·cases h
 obtain⟨fn,tmps,asg,body,q1,q2⟩:=hO.2.1 vs' _ out h' k1 w _ _ cargs l (hI.mono k0) k2 k3 k4 k5
 exact⟨fn,tmps,asg,body,q1,fun F nn hF=>(q2 F nn hF).mono k6⟩
theorem aLJ{h:Aa}{c:qE}{args:List AV}{d:Wz}(hc:Gg O (hf h) h.length c args=some d):Gy h d.es:=by
 unfold Gg at hc
 simp only[acL]at hc
 obtain⟨vs,hvs,⟨vs',cs,m⟩,hp,hc⟩:=hc
 simp only at hc
 split at hc
 ·simp at hc
 ·rename_i hlm0
  obtain⟨⟨out,h'⟩,hcall,hu⟩:=acL.1 hc
  obtain⟨p1,p2,p3,p4,p5,p6⟩:=aEL hp
  exact aNK (p2 (by simp)) p3 p4 (fun b hb hm=>hlm0 (by rw[aTP];exact⟨b,hb,by simpa using hm⟩)) hu
theorem aLS{h:Aa}{c:qE}{args:List AV}{d:Wz}(hc:Ru O (hf h) h.length c args=some d):Gy h d.es:=by
 unfold Ru at hc
 rw[aZF]at hc
 simp only[aV9]at hc
 obtain⟨⟨out,h'⟩,hcall,hc⟩:=acL.1 hc
 obtain⟨es,hes,rfl⟩:=acR.1 hc
 exact aNN hes
theorem apN{h:Aa}{c:qE}{args:List AV}{d:Wz}(hc:Jd O (hf h) h.length c args=some d):Gy h d.es:=by
 by_cases hp:aaO O c args
 ·obtain⟨n,_,k2⟩:=hp.eq
  rw[k2]at hc
  exact aLJ hc
 ·rw[ab7 hp]at hc
  exact aLS hc
theorem aRW{h:Aa}{vs vs':List AV}{cs:List CB}{m:List Nat}(hp:Vw (hf h) [] vs=some (vs',cs,m)):∀b∈m,b<h.length:=fun b hb=>by
 obtain⟨p1,p2,p3,p4,p5,p6⟩:=aEL hp
 obtain⟨j,hj,rfl⟩:=aE9.1 hb
 obtain⟨b',c,k1,k2,_⟩:=p4 j _ (acZ (by omega:j<cs.length))
 rw[acZ hj]at k1;cases k1
 exact Ue k2
theorem xH:∀{es:List As} {n:Nat},aeZ n es→∀b c,As.new b c∈es→n≤b
 | [],_,_,b,c,h=>by simp at h
 | .new i c'::es,n,ok,b,c,h=>by
   rcases aIC.1 h with h|h
   ·cases h;exact Nat.le_of_eq ok.1.symm
   ·have:=xH ok.2 b c h;omega
 | .cells i r o vs::es,n,ok,b,c,h=>by
   rcases aIC.1 h with h|h
   ·cases h
   ·exact xH ok.2 b c h
 | .put i c'::es,n,ok,b,c,h=>by
   rcases aIC.1 h with h|h
   ·cases h
   ·exact xH ok.2 b c h
theorem aJ8{h:Aa}{b:Nat}(hb:h.length≤b):hf h b=none:=aOW hb
theorem aCV(hO:Me P G O){h0:Aa}{w0:World}{S0:Nat→Prop}(hI:qG G w0 S0){ρ0:Bq}{h:Aa}{w:World}{S:Nat→Prop}{ρ:Bq}(FF:FI h0 w0 S0 ρ0 h w S ρ){c:qE}{f:Nat}(hcf:aFL c f){args:List AV}{cargs:Array Value}
 (hargs:LR w S ρ args cargs.toList) {d:Wz} (hc:Jd O (hf h) h.length c args=some d):
 (∀args w,(callFunc f args).run P w=.ok (.enter f args) w)∧
 Calls P f cargs w fun e w'=>∃cv S' ρ',aLW d.out cv e∧VR w' S' ρ' d.out.v cv∧FI h0 w0 S0 ρ0 (Eh h d.es) w' S' ρ'∧Ix w w' S S' ρ ρ':=by
 have hgood:=apN hc
 obtain⟨h1,h2⟩:=aFW hO (hI.sim FF.sim) FF.hr (FF.dom _ (aEO _)) (fun b hb=>FF.all b (by
  cases hg:hf h b with
  |none=>exact(hb hg).elim
  |some c=>exact Ue hg)) hcf hargs (fun vs vs' cs m _ hp _=>aRW hp) hc (fun _ b hb=>aJ8 hb) (fun b c hb=>FF.dom b (xH hgood.ok b c hb))
 exact⟨h1,h2.mono fun e w' ⟨cv,S',ρ',q1,q2,q3,q4,q5,q6⟩=>⟨cv,S',ρ',q1,q2,FF.step hgood q3 q4 q5 q6,q4⟩⟩
theorem aJ0(hO:Me P G O){h0:Aa}{w0:World}{S0:Nat→Prop}(hI:qG G w0 S0){ρ0:Bq}{h:Aa}{w:World}{S:Nat→Prop}{ρ:Bq}(FF:FI h0 w0 S0 ρ0 h w S ρ){args:List AV}{cargs:Array Value}{l:Nat}
 (hargs:LR w S ρ args (cargs.toList++[.func (.yield l) #[] #[]])) {d:Wz} (hc:Jd O (hf h) h.length .round args=some d):
 ∃fn tmps asg body,(Instr.yield l cargs).run P w=.ok (.round l fn tmps asg body) w∧∀F nn,WF F→RoundIn F nn P l fn tmps asg body w fun e w'=>∃cv S' ρ',aLW d.out cv e∧VR w' S' ρ' d.out.v cv∧FI h0 w0 S0 ρ0 (Eh h d.es) w' S' ρ'∧Ix w w' S S' ρ ρ':=by
 have hgood:=apN hc
 obtain⟨fn,tmps,asg,body,h1,h2⟩:=aDG hO (hI.sim FF.sim) FF.hr (FF.dom _ (aEO _)) (fun b hb=>FF.all b (by
  cases hg:hf h b with
  |none=>exact(hb hg).elim
  |some c=>exact Ue hg)) hargs hc (fun _ b hb=>aJ8 hb) (fun b c hb=>FF.dom b (xH hgood.ok b c hb))
 exact⟨fn,tmps,asg,body,h1,fun F nn hF=>(h2 F nn hF).mono fun e w' ⟨cv,S',ρ',q1,q2,q3,q4,q5,q6⟩=>⟨cv,S',ρ',q1,q2,FF.step hgood q3 q4 q5 q6,q4⟩⟩
theorem Jv(isG:Bool)(v:AV)(k:AV→R):aRL isG v k=k v:=by
 unfold aRL
 cases isG with
 |false=>rfl
 |true=>
  cases v with
  |bool b=>cases b<;>rfl
  |_=>rfl
theorem lF{ops:Array Oper}{w:World}{S:Nat→Prop}{ρ:Bq}{tmps:List AV}{a:Act}(T:TR w S ρ tmps a.tmps){o:Oper}{b:Bool}(h:Jn ops.toList tmps o=some b):Region.wanted o (yielded ops a.tmps)=b:=by
 unfold Jn at h
 unfold Region.wanted
 cases hg:o.guard with
 |none=>rw[hg]at h;simp at h;subst h;rfl
 |some jw=>
  obtain⟨j,want⟩:=jw
  rw[hg]at h
  simp only at h ⊢
  rw[aPA]at h
  unfold yielded
  cases hd:(ops[j]?).bind (·.dst)with
  |none=>rw[hd]at h;simp at h
  |some d=>
   rw[hd]at h
   simp only[aV9]at h ⊢
   have hv:=ab9 T d
   cases hx:a.tmps[d]? with
   |none=>
    have hu:a.tmps.getD d undef=undef:=by rw[aC7,hx];rfl
    rw[hu]at hv
    split at h
    ·rename_i b' ht;rw[ht]at hv;unfold undef at hv;cases hv
    ·simp at h;subst h;rfl
    ·simp at h
   |some x=>
    have hu:a.tmps.getD d undef=x:=by rw[aC7,hx];rfl
    rw[hu]at hv
    split at h
    ·rename_i b' ht;rw[ht]at hv;cases hv;simp at h;subst h;rfl
    ·rename_i ht;rw[ht]at hv;cases hv;simp at h;subst h;rfl
    ·simp at h
end
end
noncomputable section
open Go.RowKit
def aOJ:Target→Option Nat
 | .collected r=>some r
 |_=>none
structure Beg where
 h0:Aa
 w0:World
 S0:Nat→Prop
 ρ0:Bq
 ro:Option Nat
def aOR(w0 w:World)(S:Nat→Prop)(ds:List Deferred):Prop:=∀d∈ds,∃r,d={ target:=.collected r,args:=#[] }∧w.heap[r]?=some (.deferred (some []))∧¬S r∧w0.heap.size≤r
def pA(B:Beg)(s:St)(a:Act)(w:World)(S:Nat→Prop)(ρ:Bq):Prop:=
 FI B.h0 B.w0 B.S0 B.ρ0 s.h w S ρ∧TR w S ρ s.tmps a.tmps∧aOR B.w0 w S a.defers∧a.defers.Pairwise (fun d e=>aOJ d.target≠aOJ e.target)∧∀l,B.ro=some l→∃r,w.heap[l]?=some (.loop r)
def ExR(w:World)(S:Nat→Prop)(ρ:Bq):Ex→Exit→Prop
 | .normal,.normal=>True
 | .exit i,.exit j=>i=j
 | .ret,.ret=>True
 | .pan v,.panic ch=>∃cv,VR w S ρ v cv∧ch=[{ v:=cv,recovered:=false }]
 |_,_=>False
def aNX(B:Beg)(e:Ex)(s:St)(ex:Exit)(a:Act)(w:World):Prop:=∃S ρ,pA B s a w S ρ∧ExR w S ρ e ex
def OQ(B:Beg)(k:St→Log→R)(kp:AV→St→R)(r:Ex × St):Exit→Act→World→Prop
 | .normal,a,w=>∃s log S ρ,k s log=some r∧pA B s a w S ρ
 | .panic ch,a,w=>∃v s S ρ cv,kp v s=some r∧pA B s a w S ρ∧VR w S ρ v cv∧ch=[{ v:=cv,recovered:=false }]
 |_,_,_=>False
section
variable {P:Program} {G:Nat→Option Obj} {O:Hz} {F:Fence} {nn:Nat}
theorem awV{o:Op}{d:Kx}{g:HF}{base:Nat}{tmps:List AV}(h:exec P g base tmps o=some d):∀c,o≠.defer c:=fun c e=>by subst e;simp[exec]at h
theorem aFC(a:Act)(d:Option Nat)(v:Value):(a.put d v).defers=a.defers:=by cases d<;>rfl
theorem pA.put{B:Beg}{s:St}{a:Act}{w:World}{S:Nat→Prop}{ρ:Bq}(h:pA B s a w S ρ)(d:Option Nat){x:AV}{v:Value}(k:VR w S ρ x v):pA B ⟨Ev.put s.tmps d x,s.h⟩ (a.put d v) w S ρ:=
 ⟨h.1,aJR h.2.1 d k,by rw[aFC];exact h.2.2⟩
theorem aOR.later{w0 w w':World}{S S':Nat→Prop}{ρ ρ':Bq}{g:HF}{ds:List Deferred}(h:aOR w0 w S ds)(H:HR w S ρ g)(hs:Ix w w' S S' ρ ρ'):aOR w0 w' S' ds:=fun d hd=>by
 obtain⟨r,k1,k2,k3,k4⟩:=h d hd
 refine⟨r,k1,hs.objs r _ k2 rfl,fun h'=>?_,k4⟩
 rcases hs.grow r h' with q|q|⟨id,co,st,sz,q⟩
 ·exact k3 q
 ·have:=(aCF.1 k2).1;omega
 ·obtain⟨c,e,fz,fl,rows,q1,_⟩:=H.at_ _ _ _ _ _ q
  rw[k2]at q1;cases q1
theorem pA.later{B:Beg}{s:St}{a:Act}{w w':World}{S S':Nat→Prop}{ρ ρ':Bq}(h:pA B s a w S ρ){h':Aa}(hF:FI B.h0 B.w0 B.S0 B.ρ0 h' w' S' ρ')(hs:Ix w w' S S' ρ ρ'):pA B ⟨s.tmps,h'⟩ a w' S' ρ':=
 ⟨hF,LR.sim hs h.2.1,h.2.2.1.later h.1.hr hs,h.2.2.2.1,fun l hl=>by
   obtain⟨r,hr⟩:=h.2.2.2.2 l hl
   obtain⟨st,pe,k⟩:=hs.loops l r hr
   exact⟨_,k⟩⟩
theorem aPJ{ty:TypeId}{name:String}{f:FuncId}(h:asX P ty name=some f)(cv:Value)(w:World):(Go.method (P.types.size+Made.depth) ty cv name).run P w=.ok (f,cv) w:=by
 unfold asX at h
 simp only[acL]at h
 obtain⟨i,hi,m,hm,h⟩:=h
 split at h
 ·rename_i f' e hp hf hu
  simp at h;subst h
  obtain⟨k,hk⟩:∃k,P.types.size+Made.depth=k+1:=⟨P.types.size+(Made.depth-1),by simp only[Made.depth]⟩
  rw[hk]
  simp[Go.method,typeInfo,hi,hm,hp,hf,Go.follow,Go.receiverAt,run_underlying hu,Go.Place.get]
 ·simp at h
theorem avF{o:Oper}{c:Call}{t:List AV}{a:Act}{w:World}{S:Nat→Prop}{ρ:Bq}(hop:o.op=.call c)(T:TR w S ρ t a.tmps){fc:qE}{args:List AV}(h:callee P t c=some (fc,args)):
 (∃f car,fc=vW f args∧LR w S ρ args (Array.toList car)∧((callFunc f car).run P w=.ok (.enter f car) w→(execOp a.eval o).run P w=.ok (.enter f car) w))∨
 (∃car l,fc=.round∧LR w S ρ args (Array.toList car++[.func (.yield l) #[] #[]])∧(∃vs b,args=vs++[.yl b])∧∀r,(Instr.yield l car).run P w=.ok r w→(execOp a.eval o).run P w=.ok r w):=by
 unfold callee at h
 split at h
 ·rename_i fo hfo
  simp only[acL]at h
  obtain⟨fv,hfv,vs,hvs,h⟩:=h
  have hfr:=Bl T hfv
  have hvr:=Vs T hvs
  generalize hfe:a.eval fo=cf at hfr
  split at h
  ·rename_i f fa fb
   simp only[aAN.injEq,Prod.mk.injEq]at h
   obtain⟨rfl,rfl⟩:=h
   cases hfr with
   | @func _ _ _ _ va vc q1 q2 q3 q4=>
     refine .inl ⟨f,va++c.args.map a.eval++vc,rfl,?_,fun he=>?_⟩
     ·have e1:(va++c.args.map a.eval++vc).toList=va.toList++c.args.toList.map a.eval++vc.toList:=by simp
      rw[e1]
      exact(LR.append (LR.append ⟨by simpa using q1,fun i x v hx hv=>q3 i x v hx (by simpa using hv)⟩ hvr) ⟨by simpa using q2,fun i x v hx hv=>q4 i x v hx (by simpa using hv)⟩)
     ·simp only[execOp,hop,Sem.run_bind,resolve,hfo,hfe,Deferred.ofValue,Sem.run_pure,Result.andThen_ok,invoke]
      rw[he]
  ·rename_i b
   simp only[aAN.injEq,Prod.mk.injEq]at h
   obtain⟨rfl,rfl⟩:=h
   have hyl:∃l,cf=.func (.yield l) #[] #[]:=by cases hfr<;>exact⟨_,rfl⟩
   obtain⟨l,rfl⟩:=hyl
   refine .inr ⟨c.args.map a.eval,l,rfl,LR.append (by simpa using hvr) (.cons hfr .nil),⟨vs,b,rfl⟩,fun r hr=>?_⟩
   simp only[execOp,hop,Sem.run_bind,resolve,hfo,hfe,Deferred.ofValue,Sem.run_pure,Result.andThen_ok,invoke]
   simpa using hr
  ·simp at h
 ·rename_i ro name hro
  simp only[acL]at h
  obtain⟨rv,hrv,vs,hvs,h⟩:=h
  have hrr:=Bl T hrv
  have hvr:=Vs T hvs
  generalize hre:a.eval ro=cr at hrr
  split at h
  ·rename_i ty v
   obtain⟨f,hf,h⟩:=acR.1 h
   simp only[Prod.mk.injEq]at h
   obtain⟨rfl,rfl⟩:=h
   cases hrr with
   | @iface _ _ _ cv hy=>
     refine .inl ⟨f,#[cv]++c.args.map a.eval,rfl,?_,fun he=>?_⟩
     ·have e1:(#[cv]++c.args.map a.eval).toList=cv::c.args.toList.map a.eval:=by simp
      rw[e1];exact .cons hy hvr
     ·have hx:(#[Value.iface ty cv]++c.args.map a.eval).extract 1 (#[Value.iface ty cv]++c.args.map a.eval).size=c.args.map a.eval:=by
       apply Array.ext'
       simp
       rw[List.take_of_length_le (by simp)]
      have h0:(#[Value.iface ty cv]++c.args.map a.eval)[0]?=some (.iface ty cv):=by rw[Array.getElem?_append_left (by simp)];rfl
      simp only[execOp,hop,Sem.run_bind,resolve,hro,hre,Sem.run_pure,Result.andThen_ok,invoke,h0,hx,callMethod,run_program,aPJ hf]
      rw[he]
  ·simp at h
 ·simp at h
theorem aDE(hF:WF F)(hO:Me P G O){ops:Array Oper}{B:Beg}(hI:qG G B.w0 B.S0){k:St→Log→R}{kp:AV→St→R}{r:Ex × St}:∀{rest:List Oper} {i:Nat} {s:St} {log:Log} {a:Act} {w:World} {S:Nat→Prop} {ρ:Bq},
 (∀j o,rest[j]?=some o→ops[i+j]?=some o)→Jp O P ops.toList (uL ops.toList) rest i s log k kp=some r→pA B s a w S ρ→wpOpsIn F nn P ops (OQ B k kp r) (List.range' i rest.length) a w
 | [],i,s,log,a,w,S,ρ,_,h,hs=>⟨s,log,S,ρ,h,hs⟩
 |o::rest,i,s,log,a,w,S,ρ,hops,h,hs=>by
  have ho:ops[i]?=some o:=by have:=hops 0 o rfl;simpa using this
  have hrest:∀j o',rest[j]?=some o'→ops[i+1+j]?=some o':=fun j o' hj=>by have:=hops (j+1) o' (by simpa using hj);rw[←this];congr 1;omega
  have IH:∀{s':St} {log':Log} {a':Act} {w':World} {S':Nat→Prop} {ρ':Bq},Jp O P ops.toList (uL ops.toList) rest (i+1) s' log' k kp=some r→pA B s' a' w' S' ρ'→wpOpsIn F nn P ops (OQ B k kp r) (List.range' (i+1) rest.length) a' w':=fun h' hs'=>aDE hF hO hI hrest h' hs'
  have habout:∀f,o.about P w a.eval=some f→F.fn f:=fun f _=>hF.fn f
  simp only[aID,List.range'_succ]
  unfold wpOpsIn
  simp only[ho]
  unfold Jp at h
  split at h
  ·simp at h
  ·rename_i hw
   rw[lF hs.2.1 hw]
   simp only[aG6,if_false]
   exact⟨habout,IH h (hs.put o.dst iP)⟩
  ·rename_i hw
   rw[lF hs.2.1 hw]
   simp only[if_true]
   refine⟨habout,?_⟩
   cases hk:Kq o.op with
   |call c=>
    rw[hk]at h
    simp only[acL]at h
    obtain⟨⟨fc,args⟩,hcal,d,hd,h⟩:=h
    have hop:o.op=.call c∧∀b,c.callee≠.builtin b:=by
     unfold Kq at hk
     split at hk<;>simp at hk
     rename_i c' hnb hop
     subst hk
     exact⟨hop,fun b e=>by obtain⟨cal,as,ts⟩:=c';simp at e;subst e;exact hnb b as ts rfl⟩
    obtain⟨hop,hnb⟩:=hop
    have hsem:o.semAt F.round a.eval=execOp a.eval o:=Oper.semAt_eq _ _ _ (fun c e=>by rw[hop]at e;cases e)
    rw[hsem]
    rcases avF hop hs.2.1 hcal with⟨f,car,rfl,hlr,hrn⟩|⟨car,l,rfl,hlr,⟨vs,b,rfl⟩,hrn⟩
    ·simp only at hd
     obtain⟨henter,hcalls⟩:=aCV hO hI hs.1 (aF2 _ _) hlr hd
     rw[hrn (henter _ _)]
     refine⟨fun hdp=>by rw[hF.depth]at hdp;simp at hdp,hF.calls (hcalls.mono fun e w' ⟨cv,S',ρ',he,hv,hFI,hsim⟩=>?_)⟩
     have hs':=hs.later hFI hsim
     cases e with
     |returned v=>
      obtain⟨⟨x,hx⟩,rfl⟩:=he
      rw[hx]at h hv
      simp only[Jv]at h
      exact IH h (hs'.put o.dst hv)
     |panicked ch=>
      obtain⟨⟨x,hx⟩,rfl⟩:=he
      rw[hx]at h hv
      exact⟨x,_,S',ρ',cv,h,hs',hv,rfl⟩
     |outgrown=>exact he.elim
    ·simp only at hd
     obtain⟨fn,tmps,asg,body,hy,hround⟩:=aJ0 hO hI hs.1 hlr hd
     rw[hrn _ hy]
     refine⟨fun hdp=>by rw[hF.depth]at hdp;simp at hdp,(hround F _ hF).mono fun e w' ⟨cv,S',ρ',he,hv,hFI,hsim⟩=>?_⟩
     have hs':=hs.later hFI hsim
     cases e with
     |returned v=>
      obtain⟨⟨x,hx⟩,rfl⟩:=he
      rw[hx]at h hv
      simp only[Jv]at h
      exact IH h (hs'.put o.dst hv)
     |panicked ch=>
      obtain⟨⟨x,hx⟩,rfl⟩:=he
      rw[hx]at h hv
      exact⟨x,_,S',ρ',cv,h,hs',hv,rfl⟩
     |outgrown=>exact he.elim
   |panic x=>
    rw[hk]at h
    simp only[acL]at h
    obtain⟨v,hv,h⟩:=h
    have hop:o.op=.panic x:=by
     unfold Kq at hk
     split at hk<;>simp at hk
     rename_i x' hop;subst hk;exact hop
    have hsem:o.semAt F.round a.eval=execOp a.eval o:=Oper.semAt_eq _ _ _ (fun c e=>by rw[hop]at e;cases e)
    rw[hsem]
    have hvr:=Bl hs.2.1 hv
    split at h
    ·rename_i t' y'
     generalize hce:a.eval x=cc at hvr
     cases hvr with
     | @iface _ _ _ cv' hy=>
       have hrun:(execOp a.eval o).run P w=.halt (.panic (.iface t' cv')) w:=by
        simp only[execOp,hop,Sem.run_bind,hce,Instr.panic,run_goPanic,Result.andThen_halt]
       rw[hrun]
       exact⟨_,s,S,ρ,_,h,hs,.iface hy,rfl⟩
    ·simp at h
   |other=>
    rw[hk]at h
    simp only[acL,Jv]at h
    obtain⟨d,hd,h⟩:=h
    have hsem:o.semAt F.round a.eval=execOp a.eval o:=Oper.semAt_eq _ _ _ (awV hd)
    rw[hsem]
    obtain⟨cv,w',ρ',hran,hv,hHR,hsim,hloc,hfrs⟩:=aGR hs.1.hr (hs.1.dom _ (aEO _)) hs.2.1 hd
    have hFI:=hs.1.step (aIA hd) hHR hsim hloc hfrs
    have hs':=(hs.later hFI hsim).put o.dst hv
    rcases hran with hran|⟨hran,rfl⟩
    ·rw[hran];exact IH h hs'
    ·rw[hran];exact IH h hs'
def asI(P:Program)(G:Nat→Option Obj)(O:Hz):Prop:=∀c s e s',O.loop c s=some (e,s')→∀(F:Fence) (nn:Nat),WF F→∀B a w S ρ,B.ro=F.round→qG G B.w0 B.S0→pA B s a w S ρ→(Code.loop c).wpIn F nn P (aNX B e s') a w
def ay5(P:Program)(G:Nat→Option Obj)(O:Hz):Prop:=∀(ops:Array Oper) (B:Beg) (k:St→Log→R) (r:Ex × St) (s:St) (a:Act) (w:World) (S:Nat→Prop) (ρ:Bq) (id:Nat) (F:Fence) (nn:Nat),WF F→
 dL ops.toList=true→Jp O P ops.toList (uL ops.toList) ops.toList 0 s [] (fun s log=>Oh (It ops.toList log) (k s log)) (fun _ _=>none)=some r→qG G B.w0 B.S0→pA B s a w S ρ→
 (Code.region id ops true).wpIn F nn P (OQ B k (fun _ _=>none) r) a w
def Wm:Yk→Option Ex
 | .ready=>some .normal
 | .done .ret=>some .ret
 | .done (.exit i)=>some (.exit i)
 |_=>none
def ad6(P:Program)(G:Nat→Option Obj)(O:Hz):Prop:=∀f (ps:Array Nat) asg body (s:St) g fa fb d v ps' asg' body' tm' st e,Ar s.tmps f=some (.func (.func g) fa fb)→
 Jd O (hf (s.h++[.lp ps.toList asg body s.tmps .ready])) (s.h.length+1) (vW g (fa++[.yl s.h.length]++fb)) (fa++[.yl s.h.length]++fb)=some d→d.out=.ret v→
 (Eh (s.h++[.lp ps.toList asg body s.tmps .ready]) d.es)[s.h.length]?=some (.lp ps' asg' body' tm' st)→Wm st=some e→
 ∀(F:Fence) (nn:Nat),WF F→∀B a w S ρ,B.ro=F.round→qG G B.w0 B.S0→pA B s a w S ρ→
  (Code.rangeFunc f ps asg body).wpIn F nn P (aNX B e ⟨s.tmps,(Eh (s.h++[.lp ps.toList asg body s.tmps .ready]) d.es).set s.h.length .dead⟩) a w
theorem Zf{b:Frame}{a:Act}{k:List Item}{cs:List Frame}{w:World}{c:Code}:step P (lone (b.atR a (.code (.scope c)::k)) cs w)=.next (lone (b.atR a (.code c::.inScope c::k)) cs w):=
 step_lone_go (by simp[stepG,stepG.exec,Frame.atR])
theorem aHA{b:Frame}{a:Act}{k:List Item}{cs:List Frame}{w:World}{c:Code}:step P (lone (b.atR a (.inScope c::k)) cs w)=.next (lone (b.atR a k) cs w):=
 step_lone_go (by simp[stepG,stepG.exec,Frame.atR])
def a79(Q:Exit→Act→World→Prop):Exit→Act→World→Prop
 | .goto _,_,_=>False
 |e,a,w=>Q e a w
theorem aPW{F:Fence}{n:Nat}{c:Code}{Q:Exit→Act→World→Prop}{a:Act}{w:World}(h:c.wpIn F n P (a79 Q) a w):(Code.scope c).wpIn F n P Q a w:=by
 intro b k cs hro hb hr
 have h0:(lone (b.atR a (.code (.scope c)::k)) cs w).fenced P F:=fenced_calm hb hr rfl
 obtain⟨e,a₁,w₁,hq,harr⟩:=h b (.inScope c::k) cs hro hb hr
 cases e with
 |normal=>exact⟨.normal,a₁,w₁,hq,.head h0 Zf (StepsIn.trans harr (.one (fenced_calm hb hr rfl) aHA))⟩
 |exit id'=>
  have hx:exitTo id' (.inScope c::k)=exitTo id' k:=by simp[exitTo]
  exact⟨.exit id',a₁,w₁,hq,fun k' hk=>.head h0 Zf (harr.1 k' (by rw[hx];exact hk)),
   fun hr' hk=>let ⟨k₁,h1,h2⟩:=harr.2 hr' (by rw[hx];exact hk);⟨k₁,h1,.head h0 Zf h2⟩⟩
 |goto l=>exact hq.elim
 |ret=>exact⟨_,a₁,w₁,hq,.of_steps (.one h0 Zf) harr⟩
 |panic ch=>exact⟨_,a₁,w₁,hq,.of_steps (.one h0 Zf) harr⟩
 |outgrown=>exact⟨_,a₁,w₁,hq,.of_steps (.one h0 Zf) harr⟩
def aFN(P:Program)(O:Hz)(B:Beg)(n:Nat)(k:List Br)(r:Ex × St)(ex:Exit)(a:Act)(w:World):Prop:=∃m,m<n∧∃e s,Fj (Fp O P m) k e s=some r∧aNX B e s ex a w
theorem aFN.le{B:Beg}{n n':Nat}{k:List Br}{r:Ex × St}{ex:Exit}{a:Act}{w:World}(h:aFN P O B n k r ex a w)(hn:n≤n'):aFN P O B n' k r ex a w:=by
 obtain⟨m,hm,rest⟩:=h;exact⟨m,by omega,rest⟩
theorem vO(hF:WF F)(hO:Me P G O)(hL:asI P G O)(hD:ay5 P G O)(hR:ad6 P G O){B:Beg}(hB:B.ro=F.round)(hI:qG G B.w0 B.S0){r:Ex × St}:∀(n:Nat) {c:Code} {k:List Br} {s:St} {a:Act} {w:World} {S:Nat→Prop} {ρ:Bq},
 Fp O P n c k s=some r→pA B s a w S ρ→c.wpIn F nn P (aFN P O B n k r) a w:=by
 intro n
 induction n using aPH with
 |_ n IH=>
  intro c k s a w S ρ h hs
  cases n with
  |zero=>simp[Fp]at h
  |succ n=>
   have leaf:∀{e:Ex} {s':St} {ex:Exit} {a':Act} {w':World},Fj (Fp O P n) k e s'=some r→aNX B e s' ex a' w'→aFN P O B (n+1) k r ex a' w':=fun h1 h2=>⟨n,by omega,_,_,h1,h2⟩
   cases c with
   |skip=>exact wpIn_skip (leaf h ⟨S,ρ,hs,trivial⟩)
   |label l=>exact wpIn_label (leaf h ⟨S,ρ,hs,trivial⟩)
   |region id ops draw=>
    have fin:∀(kp:AV→St→R),(∀v s',kp v s'=some r→Fj (Fp O P n) k (.pan v) s'=some r)→∀(ex:Exit) (a':Act) (w':World),
     OQ B (fun s _=>Fj (Fp O P n) k .normal s) kp r ex a' w'→aFN P O B (n+1) k r ex a' w':=fun kp hkp ex a' w' hq=>by
     cases ex with
     |normal=>obtain⟨s',log,S',ρ',h1,h2⟩:=hq;exact leaf h1 ⟨S',ρ',h2,trivial⟩
     |panic ch=>obtain⟨v,s',S',ρ',cv,h1,h2,h3,h4⟩:=hq;exact leaf (hkp v s' h1) ⟨S',ρ',h2,cv,h3,h4⟩
     |_=>exact hq.elim
    cases draw with
    |false=>
     have:=aDE (nn:=nn) hF hO hI (ops:=ops) (i:=0) (rest:=ops.toList) (fun j o hj=>by simpa using hj) h hs
     refine wpIn_mono (wpIn_region (by rw[List.range_eq_range'];simpa using this)) (fin _ (fun v s' h=>h))
    |true=>
     have hst:dL ops.toList=true∧Jp O P ops.toList (uL ops.toList) ops.toList 0 s [] (fun s log=>Oh (It ops.toList log) (Fj (Fp O P n) k .normal s)) (fun _ _=>none)=some r:=by
      simp only[Fp,Oh]at h
      cases hd:dL ops.toList with
      |true=>rw[hd]at h;exact⟨rfl,h⟩
      |false=>rw[hd]at h;simp at h
     exact wpIn_mono (hD ops B (fun s _=>Fj (Fp O P n) k .normal s) r s a w S ρ id F nn hF hst.1 hst.2 hI hs) (fin _ (fun v s' h=>by simp at h))
   |seq x y=>
    have h1:=IH n (by omega) (c:=x) (k:=.code y::k) h hs
    refine wpIn_seq (wpIn_mono h1 fun ex a' w' hk=>?_)
    obtain⟨m,hm,e,s',hp,S',ρ',hs',he⟩:=hk
    cases e with
    |normal=>
     cases ex<;>simp[ExR]at he
     exact wpIn_mono (IH m (by omega) (c:=y) (k:=k) hp hs') (fun ex a' w' hk=>hk.le (by omega))
    |exit i=>
     cases ex<;>simp[ExR]at he
     exact⟨m,by omega,_,_,hp,S',ρ',hs',he⟩
    |ret=>
     cases ex<;>simp[ExR]at he
     exact⟨m,by omega,_,_,hp,S',ρ',hs',trivial⟩
    |pan v=>
     cases ex with
     |panic ch=>exact⟨m,by omega,_,_,hp,S',ρ',hs',he⟩
     |_=>simp[ExR]at he
   |cond oc x y=>
    simp only[Fp,aRH]at h
    split at h
    ·rename_i b hb
     have hv:=Bl hs.2.1 hb
     generalize hce:a.eval oc=cc at hv
     cases hv
     cases b with
     |true=>exact wpIn_cond_true hce (wpIn_mono (IH n (by omega) (c:=x) (k:=k) h hs) (fun ex a' w' hk=>hk.le (by omega)))
     |false=>exact wpIn_cond_false hce (wpIn_mono (IH n (by omega) (c:=y) (k:=k) h hs) (fun ex a' w' hk=>hk.le (by omega)))
    ·simp at h
   |block id x=>
    have h1:=IH n (by omega) (c:=x) (k:=.blk id::k) h hs
    refine wpIn_block (wpIn_mono h1 fun ex a' w' hk=>?_)
    obtain⟨m,hm,e,s',hp,S',ρ',hs',he⟩:=hk
    cases e with
    |normal=>
     cases ex<;>simp[ExR]at he
     exact⟨m,by omega,.normal,s',hp,S',ρ',hs',trivial⟩
    |exit i=>
     cases ex<;>simp[ExR]at he
     subst he
     simp only[Exit.inBlock]
     by_cases hi:i=id
     ·subst hi
      simp only[Fj,beq_self_eq_true,cond_true]at hp
      rw[if_pos rfl]
      exact⟨m,by omega,.normal,s',hp,S',ρ',hs',trivial⟩
     ·have hb:(i==id)=false:=by simpa using hi
      simp only[Fj,hb,cond_false]at hp
      rw[if_neg hi]
      exact⟨m,by omega,.exit i,s',hp,S',ρ',hs',rfl⟩
    |ret=>
     cases ex<;>simp[ExR]at he
     exact⟨m,by omega,.ret,s',hp,S',ρ',hs',trivial⟩
    |pan v=>
     cases ex with
     |panic ch=>exact⟨m,by omega,.pan v,s',hp,S',ρ',hs',he⟩
     |_=>simp[ExR]at he
   |loop x=>
    simp only[Fp,adS]at h
    split at h
    ·rename_i e s' hl
     exact wpIn_mono (hL x s e s' hl F nn hF B a w S ρ hB hI hs) (fun ex a' w' hp=>leaf h hp)
    ·simp at h
   |exit id=>exact wpIn_exit (leaf h ⟨S,ρ,hs,rfl⟩)
   |ret=>exact wpIn_ret (leaf h ⟨S,ρ,hs,trivial⟩)
   |rangeFunc f ps asg body=>
    simp only[Fp,acL]at h
    obtain⟨fv,hfv,h⟩:=h
    split at h
    ·rename_i g fa fb
     obtain⟨d,hd,h⟩:=acL.1 h
     simp only[List.length_append,aID,List.length_nil]at hd
     cases hout:d.out with
     |pan v=>rw[hout]at h;simp at h
     |ret v=>
      rw[hout]at h
      simp only at h
      have go:∀ps' asg' body' tm' st e,(Eh (s.h++[.lp ps.toList asg body s.tmps .ready]) d.es)[s.h.length]?=some (.lp ps' asg' body' tm' st)→Wm st=some e→
       Fj (Fp O P n) k e ⟨s.tmps,(Eh (s.h++[.lp ps.toList asg body s.tmps .ready]) d.es).set s.h.length .dead⟩=some r→(Code.rangeFunc f ps asg body).wpIn F nn P (aFN P O B (n+1) k r) a w:=fun ps' asg' body' tm' st e h1 h2 h3=>
       wpIn_mono (hR f ps asg body s g fa fb d v ps' asg' body' tm' st e hfv hd hout h1 h2 F nn hF B a w S ρ hB hI hs) (fun ex a' w' hp=>leaf h3 hp)
      split at h
      ·rename_i hb;exact go _ _ _ _ _ _ hb rfl h
      ·rename_i hb;exact go _ _ _ _ _ _ hb rfl h
      ·rename_i hb;exact go _ _ _ _ _ _ hb rfl h
      ·simp at h
    ·simp at h
   |scope b=>
    have h1:=IH n (by omega) (c:=b) (k:=k) h hs
    refine aPW (wpIn_mono h1 fun ex a' w' hk=>?_)
    obtain⟨m,hm,e,s',hp,S',ρ',hs',he⟩:=hk
    cases ex with
    |goto l=>cases e<;>simp[ExR]at he
    |_=>exact⟨m,by omega,e,s',hp,S',ρ',hs',he⟩
   |goto l=>simp[Fp]at h
   |refuse s=>simp[Fp]at h
end
end
noncomputable section
open Go.RowKit
section
variable {P:Program} {G:Nat→Option Obj} {O:Hz}
theorem HR.unclean{w:World}{S:Nat→Prop}{ρ:Bq}{cs:Aa}(H:HR w S ρ (hf (cs.map CB.clean))):HR w S ρ (hf cs):=by
 have get:∀(i:Nat),hf (cs.map CB.clean) i=(hf cs i).map CB.clean:=fun i=>by simp[hf]
 refine⟨fun b cb co st sz h=>?_,fun b h=>?_,H.inj,H.old,fun b l h=>?_,H.linj,H.lnS⟩
 ·obtain⟨c,e,fz,fl,rows,h1,h2,h3,h4⟩:=H.at_ b cb co st sz h
  refine⟨c,e,fz,fl,rows,h1,h2,h3,?_⟩
  rcases h4 with⟨⟨wr,h4⟩,h5⟩|⟨h4,h5⟩
  ·rw[get,acR]at h4
   obtain⟨x,hx,hx2⟩:=h4
   cases x<;>simp[CB.clean]at hx2
   obtain⟨rfl,rfl,_,rfl⟩:=hx2
   exact .inl ⟨⟨_,hx⟩,h5⟩
  ·rw[get,acR]at h4
   obtain⟨x,hx,hx2⟩:=h4
   cases x<;>simp[CB.clean]at hx2
   obtain⟨rfl,rfl,rfl⟩:=hx2
   exact .inr ⟨hx,h5⟩
 ·have h4:=H.dead b h
  rw[get,acR]at h4
  obtain⟨x,hx,hx2⟩:=h4
  cases x<;>simp[CB.clean]at hx2
  exact hx
 ·obtain⟨r,ps,asg,body,tmps,st,h1,h4,h3⟩:=H.lps b l h
  rw[get,acR]at h4
  obtain⟨x,hx,hx2⟩:=h4
  cases x<;>simp[CB.clean]at hx2
  obtain⟨rfl,rfl,rfl,rfl,rfl⟩:=hx2
  exact⟨r,_,_,_,_,_,h1,hx,h3⟩
theorem aiK.same{m:List Nat}{c x y:CB}(h:aiK m x y)(hs:c.same y=true):c.same x=true:=by
 cases h with
 | @lp ps asg body tmps tmps' st ok key=>
   cases c with
   |lp _ _ _ _ st'=>cases st<;>cases st'<;>first|exact hs|(simp[CB.same]at hs;obtain rfl:=key _ hs;exact hs)
   |_=>cases st<;>simp[CB.same]at hs
 |_=>cases c<;>first|exact hs|(rename_i st';cases st'<;>simp[CB.same]at hs)|(simp[CB.same]at hs)
theorem atB{B:Beg}{h:Aa}{w:World}{S:Nat→Prop}{ρ:Bq}(FF:FI B.h0 B.w0 B.S0 B.ρ0 h w S ρ)(hdom:∀b,B.h0.length≤b→B.ρ0 b=.fresh){v v':AV}{cv:Value}{h':Aa}(hv:VR w S ρ v cv)
 (hf':jR B.h0.length v h=some (v',h')):∃ρ',ac7 B.h0 B.w0 B.S0 B.ρ0 v' h' cv w S ρ':=by
 unfold jR at hf'
 simp only[acL]at hf'
 obtain⟨⟨vs,cs,m⟩,hp,hf'⟩:=hf'
 simp only at hf'
 split at hf'
 ·rename_i v1
  simp at hf';obtain⟨rfl,rfl⟩:=hf'
  obtain⟨p1,p2,p3,p4,p5,p6⟩:=aEL hp
  have hnd:=p2 List.nodup_range
  have hbf:ρ h.length=.fresh:=FF.dom _ (aEO _)
  have hmb:∀b∈m,b<h.length:=fun b hb=>by
   obtain⟨j,hj,rfl⟩:=aE9.1 hb
   obtain⟨b',c,k1,k2,_⟩:=p4 j _ (acZ (by omega:j<cs.length))
   rw[acZ hj]at k1;cases k1
   exact Ue k2
  have H1:=(aQ6 (Sc:=S) FF.hr hbf (fun _ h=>h) FF.hr.old hnd p3 p4 (fun b _ cb co st sz _ h=>h) FF.hr.lnS).unclean
  have mi:∀i,i<B.h0.length→m[i]?=some i:=fun i hi=>dD p1 (by simp[hi])
  have vi:∀i,i<B.h0.length→ρ.via m h.length i=ρ i:=fun i hi=>Bq.via_at (aOX _) (mi i hi)
  have viaAt:∀j cb co st sz,ρ.via m h.length j=.pl cb co st sz→∃b,m[j]?=some b∧ρ b=.pl cb co st sz:=fun i cb co st sz h=>by
   refine⟨m.getD i _,getD_some rfl (fun e=>?_),h⟩
   unfold Bq.via at h;rw[e,hbf]at h;cases h
  obtain⟨m1,m2,k1,k2⟩:=p6 0 v v1 rfl rfl
  refine⟨ρ.via m h.length,k1.vr _ k2 hv,H1,?_,fun b hb=>?_,fun b hb=>?_,?_,fun i c c' hc hc' hsame=>?_⟩
  ·have s:=FF.sim
   refine⟨s.size,s.os,s.tape,s.output,s.keep,s.sub,fun b=>?_,s.other,fun id cb co st sz Jb=>?_,s.grow,s.objs,s.loops,fun id l Jb=>?_⟩
   ·rcases aOZ b B.h0.length with hb|hb
    ·rw[vi b hb];exact s.le b
    ·exact .inl (hdom b hb)
   ·obtain⟨b,_,hb2⟩:=viaAt _ _ _ _ _ Jb;exact s.rng _ _ _ _ _ hb2
   ·exact s.lrng _ _ Jb
  ·unfold Bq.via
   rw[aT3,aOW (by omega)];exact hbf
  ·have hb':b<m.length:=by omega
   rw[Bq.via_at (aOX _) (acZ hb')]
   exact FF.all _ (hmb _ (aVS hb'))
  ·have:=p1.length_le;simp at this;omega
  ·have hi:i<B.h0.length:=(aAO.1 hc).1
   obtain⟨b',c2,q1,q2,q3⟩:=p4 i c' hc'
   rw[mi i hi]at q1;cases q1
   obtain⟨u1,u2⟩:=FF.unw i c c2 hc q2 (q3.same hsame)
   exact⟨by rw[vi i hi];exact u1,u2⟩
 ·simp at hf'
theorem aBA{w:World}{S:Nat→Prop}{ρ:Bq}{s:St}{a:Act}(H:HR w S ρ (hf s.h))(T:TR w S ρ s.tmps a.tmps):∀{rs:List ResultVar} {vs:List AV},qI P s rs=some vs→
 ∃cvs:List Value,(rs.mapM (fun| .tmp t=>pure (a.tmps.getD t undef)| .cell x t=>do loadVar t (←asAddr (a.tmps.getD x undef))):Sem (List Value)).run P w=.ok cvs w∧LR w S ρ vs cvs
 | [],vs,h=>by simp[qI]at h;subst h;exact⟨[],by simp,.nil⟩
 | .tmp t::rs,vs,h=>by
   obtain⟨vs',h1,rfl⟩:=acR.1 h
   obtain⟨cvs,k1,k2⟩:=aBA H T h1
   refine⟨a.tmps.getD t undef::cvs,?_,.cons (ab9 T t) k2⟩
   rw[aWA]
   simp only[Sem.run_bind,Sem.run_pure,Result.andThen_ok,k1]
 | .cell x t::rs,vs,h=>by
   simp only[qI,acL,acR]at h
   obtain⟨d,hd,vs',h1,rfl⟩:=h
   obtain⟨cvs,k1,k2⟩:=aBA H T h1
   have hp:=ab9 T x
   obtain⟨cv,h2,h3,_⟩:=aGA (P:=P) H hd hp
   refine⟨cv::cvs,?_,.cons h3 k2⟩
   have h4:(do loadVar t (←asAddr (a.tmps.getD x undef)):Sem Value).run P w=.ok cv w:=by
    generalize a.tmps.getD x undef=cx at hp h2
    cases cx with
    |pointer p=>
     cases p with
     |some ad=>simpa [Instr.loadAt,Instr.sureAddr,asAddr]using h2
     |none=>simp[Instr.loadAt,Instr.sureAddr]at h2
    |_=>simp[Instr.loadAt,Instr.sureAddr]at h2
   rw[aWA]
   simp only[Sem.run_bind]at h4 ⊢
   rw[h4]
   simp only[Result.andThen_ok,k1,Sem.run_pure]
theorem akB{w:World}{S:Nat→Prop}{ρ:Bq}{s:St}{a:Act}(H:HR w S ρ (hf s.h))(T:TR w S ρ s.tmps a.tmps){fn:Func}{vs:List AV}(h:qI P s fn.results.toList=some vs):
 ∃cv,(results fn a.tmps).run P w=.ok cv w∧VR w S ρ (lW vs) cv:=by
 obtain⟨cvs,k1,k2⟩:=aBA H T h
 have hrun:(results fn a.tmps).run P w=.ok (if h:cvs.toArray.size=1 then cvs.toArray[0]else .tuple cvs.toArray) w:=by
  unfold results
  rw[Sem.run_bind,Array.mapM_eq_mapM_toList,Sem.run_map]
  refine Eq.trans (congrArg (fun z:Result (List Value)=>(z.andThen fun a w'=>Result.ok a.toArray w').andThen fun a w'=>Sem.run P (pure (if h:a.size=1 then a[0]else Value.tuple a)) w') k1) ?_
  rfl
 refine⟨_,hrun,?_⟩
 cases vs with
 |nil=>rw[k2.nil_inv];exact .tup rfl (fun i x v hx=>by simp at hx)
 |cons v vs=>
  obtain⟨c,cs',rfl,q1,q2⟩:=k2.cons_inv
  cases vs with
  |nil=>rw[q2.nil_inv];exact q1
  |cons v' vs=>
   obtain⟨c',cs'',rfl,q3,q4⟩:=q2.cons_inv
   rw[dif_neg (by simp)]
   exact .tup (by have:=k2.1;simpa using this) (fun i x v hx hv=>k2.2 i x v hx (by simpa using hv))
theorem VR.aside{w:World}{S:Nat→Prop}{ρ:Bq}{x:AV}{v:Value}(h:VR w S ρ x v){r:Nat}(hr:¬S r)(o:Obj):VR (setB w r o) S ρ x v:=
 h.mono (fun b hb=>Cd (fun e=>by subst e;exact hr hb)) (fun _ h=>h) ρ.le_refl
theorem FI.aside{h0:Aa}{w0:World}{S0:Nat→Prop}{ρ0:Bq}{h:Aa}{w:World}{S:Nat→Prop}{ρ:Bq}(F:FI h0 w0 S0 ρ0 h w S ρ){r:Nat}{o':Obj}(hr:w.heap[r]?=some o')(hc:iV o'=false)(hS:¬S r)(h0r:w0.heap.size≤r)(o:Obj):
 FI h0 w0 S0 ρ0 h (setB w r o) S ρ:=by
 have cbr:∀b cb co st sz,ρ b=.pl cb co st sz→cb≠r:=fun b cb co st sz hb e=>by
  obtain⟨c,e',fz,fl,rows,h1,_⟩:=F.hr.at_ b cb co st sz hb
  rw[e,hr]at h1;cases h1;simp[iV]at hc
 refine⟨⟨fun b cb co st sz hb=>?_,F.hr.dead,F.hr.inj,fun b hb=>by have:=F.hr.old b hb;simpa [setB]using this,fun b l hb=>?_,F.hr.linj,F.hr.lnS⟩,?_,F.dom,F.all,F.all0,F.len,F.kind,fun i c c' hc1 hc2 hs=>?_⟩
 ·obtain⟨c,e',fz,fl,rows,h1,h2,h3,h4⟩:=F.hr.at_ b cb co st sz hb
  refine⟨c,e',fz,fl,rows,by rw[Cd (cbr b cb co st sz hb)];exact h1,h2,⟨h3.len,h3.wide,h3.flat,fun i r' j x hr' hx=>?_,h3.isCell⟩,h4⟩
  obtain⟨v,q1,q2⟩:=h3.cell i r' j x hr' hx
  exact⟨v,q1,q2.aside hS o⟩
 ·obtain⟨r1,ps,asg,body,tmps,st,h1,h2,h3⟩:=F.hr.lps b l hb
  have lr:∀{xs:List AV} {vs:List Value},LR w S ρ xs vs→LR (setB w r o) S ρ xs vs:=fun k=>⟨k.1,fun i x v hx hv=>(k.2 i x v hx hv).aside hS o⟩
  refine⟨r1,ps,asg,body,tmps,st,?_,h2,?_⟩
  ·rw[Cd (fun e=>by rw[e,hr]at h1;cases h1;cases h3<;>simp[iV]at hc)];exact h1
  ·cases h3 with
   |loop h3=>exact .loop ⟨h3.params,h3.assign,h3.body,lr h3.tmps,h3.state⟩
   |map h3=>exact .map (lr h3)
   |itr h3=>exact .itr (lr h3)
 ·have s:=F.sim
  refine⟨by simpa [setB]using s.size,s.os,s.tape,s.output,fun b hb=>?_,s.sub,s.le,fun b hb hn hl=>?_,s.rng,s.grow,fun b o2 hb ho=>?_,fun b r1 hb=>?_,s.lrng⟩
  ·rw[Cd (fun e=>by subst e;exact hS (s.sub _ hb))];exact s.keep b hb
  ·rw[Cd (by omega)];exact s.other b hb hn hl
  ·have:=(aCF.1 hb).1
   rw[Cd (by omega)];exact s.objs b o2 hb ho
  ·have:=(aCF.1 hb).1
   rw[Cd (by omega)];exact s.loops b r1 hb
 ·obtain⟨u1,u2⟩:=F.unw i c c' hc1 hc2 hs
  refine⟨u1,fun cb co st sz hρ=>?_⟩
  rw[Cd (cbr i cb co st sz (by rw[u1];exact hρ))];exact u2 cb co st sz hρ
theorem bT{F:Fence}{n:Nat}{fn:Func}{tmps:Array Value}{R:Ending→World→Prop}{u:FrameMode}(hu:u≠.run){w0:World}{S:Nat→Prop}{Φ:World→Prop}
 (hstep:∀w r,Φ w→w.heap[r]?=some (.deferred (some []))→¬S r→w0.heap.size≤r→Φ (setB w r (.deferred none))) (hend:∀w,Φ w→LeavesIn F n P fn tmps R [] u w):
 ∀(ds:List Deferred) (w:World),Φ w→aOR w0 w S ds→ds.Pairwise (fun d e=>aOJ d.target≠aOJ e.target)→LeavesInM F n P fn tmps R ds u w
 | [],w,h,_,_=>hend w h
 |d::ds,w,h,hm,hp=>by
  obtain⟨r,rfl,k2,k3,k4⟩:=hm d (aC6 ..)
  have hp':=aXG.1 hp
  refine⟨hu,.inl ⟨r,setB w r (.deferred none),rfl,run_takeDeferred k2,?_⟩⟩
  refine bT hu hstep hend ds _ (hstep w r h k2 k3 k4) (fun e he=>?_) hp'.2
  obtain⟨r',q1,q2,q3,q4⟩:=hm e (aAP _ he)
  have hne:r'≠r:=fun e1=>hp'.1 e he (by rw[q1,e1])
  exact⟨r',q1,by rw[Cd hne];exact q2,q3,q4⟩
def aO1(P:Program):Prop:=∀(f:Nat) (fn:Func),P.funcs[f]?=some fn→(fn.name== "runtime.NumGoroutine")=false
theorem aQD(hN:aO1 P){f:Nat}{fn:Func}{c:Code}(hfn:P.funcs[f]?=some fn)(hb:fn.body=some c)(args:Array Value)(w:World):(callFunc f args).run P w=.ok (.enter f args) w:=by
 have h':¬fn.name= "runtime.NumGoroutine" :=by simpa using hN f fn hfn
 simp[callFunc,hfn,hb,h']
theorem FI.post{h0:Aa}{w0:World}{S0:Nat→Prop}{ρ0:Bq}{h:Aa}{w:World}{S:Nat→Prop}{ρ:Bq}(F:FI h0 w0 S0 ρ0 h w S ρ){v:AV}{cv:Value}(hv:VR w S ρ v cv):ac7 h0 w0 S0 ρ0 v h cv w S ρ:=
 ⟨hv,F.hr,F.sim,F.dom,F.all,F.len,F.unw⟩
theorem aVD(hN:aO1 P)(hO:Me P G O)(hL:asI P G O)(hD:ay5 P G O)(hR:ad6 P G O){f:Nat}{args:List AV}{h:Aa}{out:Gw}{h':Aa}(he:evF O P f args h=some (out,h')):
 (∀args w,(callFunc f args).run P w=.ok (.enter f args) w)∧
 ∀w S ρ (cargs:Array Value),qG G w S→HR w S ρ (hf h)→(∀b,h.length≤b→ρ b=.fresh)→(∀b,b<h.length→ρ b≠.fresh)→LR w S ρ args cargs.toList→Calls P f cargs w (zD h w S ρ out h'):=by
 unfold evF at he
 split at he
 ·simp at he
 ·rename_i fn hfn
  split at he
  ·simp at he
  ·rename_i c hb
   obtain⟨⟨e,s⟩,hm,he⟩:=acL.1 he
   refine⟨fun args w=>aQD hN hfn hb args w,fun w S ρ cargs hI H dom all hargs=>?_⟩
   have hasz:args.length=cargs.size:=by simpa using hargs.1
   have hT:TR w S ρ (args++aJZ (fn.ntmps-args.length) (.tup [])) (cargs++aER (fn.ntmps-cargs.size) undef):=by
    have e1:(cargs++aER (fn.ntmps-cargs.size) undef).toList=cargs.toList++aJZ (fn.ntmps-args.length) undef:=by simp[hasz]
    show LR _ _ _ _ _
    rw[e1]
    refine hargs.append ⟨by simp,fun i x v hx hv=>?_⟩
    rw[aXO]at hx hv
    split at hx
    ·rename_i hi;rw[if_pos hi]at hv;simp at hx hv;subst hx hv;exact iP
    ·simp at hx
   have hs:pA ⟨h,w,S,ρ,none⟩ ⟨args++aJZ (fn.ntmps-args.length) (.tup []),h⟩ { tmps:=cargs++aER (fn.ntmps-cargs.size) undef,defers:=[] } w S ρ:=⟨FI.start H dom all,hT,fun d hd=>by simp at hd,List.Pairwise.nil,fun l hl=>by simp at hl⟩
   refine(callsIn_wide (n:=0)).1 (callsIn_of_wp_marks hfn hb trivial (wpIn_mono (vO (nn:=0) (.inl rfl) hO hL hD hR rfl hI Wu hm hs) fun ex a' w' hk=>?_))
   obtain⟨m,_,e',s',hp,S',ρ',hs',hex⟩:=hk
   simp only[Fj,aAN.injEq,Prod.mk.injEq]at hp
   obtain⟨rfl,rfl⟩:=hp
   have ret:(qI P s' fn.results.toList).bind (fun vs=>(jR h.length (lW vs) s'.h).map fun(v,h)=>(Gw.ret v,h))=some (out,h')→
    LeavesInM Fence.wide 0 P fn a'.tmps (zD h w S ρ out h') a'.defers .returning w':=fun he=>by
    obtain⟨vs,hr,he⟩:=acL.1 he
    obtain⟨⟨v',h1⟩,hfin,heq⟩:=acR.1 he
    simp only[Prod.mk.injEq]at heq
    obtain⟨rfl,rfl⟩:=heq
    refine bT (w0:=w) (S:=S') (by simp) (Φ:=fun w1=>FI h w S ρ s'.h w1 S' ρ'∧TR w1 S' ρ' s'.tmps a'.tmps) (fun w1 r ⟨q1,q2⟩ q3 q4 q5=>⟨q1.aside q3 rfl q4 q5 _,⟨q2.1,fun i x v hx hv=>(q2.2 i x v hx hv).aside q4 _⟩⟩)
     (fun w1 ⟨q1,q2⟩=>?_) a'.defers w' ⟨hs'.1,hs'.2.1⟩ hs'.2.2.1 hs'.2.2.2.1
    obtain⟨cv,k1,k2⟩:=akB (P:=P) q1.hr q2 hr
    obtain⟨ρ'',CP⟩:=atB (B:=⟨h,w,S,ρ,none⟩) q1 dom k2 hfin
    exact⟨cv,k1,cv,S',ρ'',⟨⟨_,rfl⟩,rfl⟩,CP⟩
   cases e' with
   |normal=>
    cases ex<;>simp[ExR]at hex
    exact ret he
   |ret=>
    cases ex<;>simp[ExR]at hex
    exact ret he
   |pan v=>
    cases ex with
    |panic ch=>
     obtain⟨cv,k1,rfl⟩:=hex
     obtain⟨⟨v',h1⟩,hfin,heq⟩:=acR.1 he
     simp only[Prod.mk.injEq]at heq
     obtain⟨rfl,rfl⟩:=heq
     refine bT (w0:=w) (S:=S') (by simp) (Φ:=fun w1=>FI h w S ρ s'.h w1 S' ρ'∧VR w1 S' ρ' v cv) (fun w1 r ⟨q1,q2⟩ q3 q4 q5=>⟨q1.aside q3 rfl q4 q5 _,q2.aside q4 _⟩)
      (fun w1 ⟨q1,q2⟩=>?_) a'.defers w' ⟨hs'.1,k1⟩ hs'.2.2.1 hs'.2.2.2.1
     obtain⟨ρ'',CP⟩:=atB (B:=⟨h,w,S,ρ,none⟩) q1 dom q2 hfin
     exact⟨cv,S',ρ'',⟨⟨_,rfl⟩,rfl⟩,CP⟩
    |_=>simp[ExR]at hex
   |exit i=>simp at he
theorem aTB(hN:aO1 P)(hO:Me P G O)(hL:asI P G O)(hD:ay5 P G O)(hR:ad6 P G O){f:Nat}{args:List AV}{h:Aa}{out:Gw}{h':Aa}(he:evS O P f args h=some (out,h')):
 (∀args w,(callFunc f args).run P w=.ok (.enter f args) w)∧
 ∀w S ρ (cargs:Array Value),qG G w S→HR w S ρ (hf h)→(∀b,h.length≤b→ρ b=.fresh)→(∀b,b<h.length→ρ b≠.fresh)→LR w S ρ args cargs.toList→Calls P f cargs w (zD h w S ρ out h'):=by
 unfold evS at he
 split at he
 ·simp at he
 ·rename_i fn hfn
  split at he
  ·simp at he
  ·rename_i c hb
   obtain⟨⟨e,s⟩,hm,he⟩:=acL.1 he
   refine⟨fun args w=>aQD hN hfn hb args w,fun w S ρ cargs hI H dom all hargs=>?_⟩
   have hasz:args.length=cargs.size:=by simpa using hargs.1
   have hT:TR w S ρ (args++aJZ (fn.ntmps-args.length) (.tup [])) (cargs++aER (fn.ntmps-cargs.size) undef):=by
    have e1:(cargs++aER (fn.ntmps-cargs.size) undef).toList=cargs.toList++aJZ (fn.ntmps-args.length) undef:=by simp[hasz]
    show LR _ _ _ _ _
    rw[e1]
    refine hargs.append ⟨by simp,fun i x v hx hv=>?_⟩
    rw[aXO]at hx hv
    split at hx
    ·rename_i hi;rw[if_pos hi]at hv;simp at hx hv;subst hx hv;exact iP
    ·simp at hx
   have hs:pA ⟨h,w,S,ρ,none⟩ ⟨args++aJZ (fn.ntmps-args.length) (.tup []),h⟩ { tmps:=cargs++aER (fn.ntmps-cargs.size) undef,defers:=[] } w S ρ:=⟨FI.start H dom all,hT,fun d hd=>by simp at hd,List.Pairwise.nil,fun l hl=>by simp at hl⟩
   refine(callsIn_wide (n:=0)).1 (callsIn_of_wp_marks hfn hb trivial (wpIn_mono (vO (nn:=0) (.inl rfl) hO hL hD hR rfl hI Wu hm hs) fun ex a' w' hk=>?_))
   obtain⟨m,_,e',s',hp,S',ρ',hs',hex⟩:=hk
   simp only[Fj,aAN.injEq,Prod.mk.injEq]at hp
   obtain⟨rfl,rfl⟩:=hp
   have ret:(qI P s' fn.results.toList).map (fun vs=>(Gw.ret (lW vs),s'.h))=some (out,h')→
    LeavesInM Fence.wide 0 P fn a'.tmps (zD h w S ρ out h') a'.defers .returning w':=fun he=>by
    obtain⟨vs,hr,heq⟩:=acR.1 he
    simp only[Prod.mk.injEq]at heq
    obtain⟨rfl,rfl⟩:=heq
    refine bT (w0:=w) (S:=S') (by simp) (Φ:=fun w1=>FI h w S ρ s'.h w1 S' ρ'∧TR w1 S' ρ' s'.tmps a'.tmps) (fun w1 r ⟨q1,q2⟩ q3 q4 q5=>⟨q1.aside q3 rfl q4 q5 _,⟨q2.1,fun i x v hx hv=>(q2.2 i x v hx hv).aside q4 _⟩⟩)
     (fun w1 ⟨q1,q2⟩=>?_) a'.defers w' ⟨hs'.1,hs'.2.1⟩ hs'.2.2.1 hs'.2.2.2.1
    obtain⟨cv,k1,k2⟩:=akB (P:=P) q1.hr q2 hr
    exact⟨cv,k1,cv,S',ρ',⟨⟨_,rfl⟩,rfl⟩,q1.post k2⟩
   cases e' with
   |normal=>
    cases ex<;>simp[ExR]at hex
    exact ret he
   |ret=>
    cases ex<;>simp[ExR]at hex
    exact ret he
   |pan v=>
    cases ex with
    |panic ch=>
     obtain⟨cv,k1,rfl⟩:=hex
     simp only[aAN.injEq,Prod.mk.injEq]at he
     obtain⟨rfl,rfl⟩:=he
     refine bT (w0:=w) (S:=S') (by simp) (Φ:=fun w1=>FI h w S ρ s'.h w1 S' ρ'∧VR w1 S' ρ' v cv) (fun w1 r ⟨q1,q2⟩ q3 q4 q5=>⟨q1.aside q3 rfl q4 q5 _,q2.aside q4 _⟩)
      (fun w1 ⟨q1,q2⟩=>?_) a'.defers w' ⟨hs'.1,k1⟩ hs'.2.2.1 hs'.2.2.2.1
     exact⟨cv,S',ρ',⟨⟨_,rfl⟩,rfl⟩,q1.post q2⟩
    |_=>simp[ExR]at hex
   |exit i=>simp at he
end
end
noncomputable section
open Go.RowKit
theorem aG9(cs:List AV){vs us:List AV}{o p:Nat}(hd:o+vs.length≤p∨p+us.length≤o):
 Gf (Gf cs o vs) p us=Gf (Gf cs p us) o vs:=by
 apply aX2
 intro j
 rw[Py (Gf cs o vs),Py (Gf cs p us),Py cs vs,Py cs us,Qi,Qi]
 by_cases a1:p≤j∧j<p+us.length∧j<cs.length
 ·rw[if_pos a1,if_neg (by omega),if_pos a1]
 ·rw[if_neg a1]
  by_cases a2:o≤j∧j<o+vs.length∧j<cs.length
  ·rw[if_pos a2,if_pos a2]
  ·rw[if_neg a2,if_neg a2,if_neg a1]
theorem aNM(rows:List (List AV)){r q:Nat}{vs us:List AV}{o p:Nat}(hd:o+vs.length≤p∨p+us.length≤o):
 Xg (Xg rows r o vs) q p us=Xg (Xg rows q p us) r o vs:=by
 unfold Xg
 by_cases hrq:r=q
 ·subst hrq
  cases h:rows[r]? with
  |none=>simp[h]
  |some cs=>
   have hr:r<rows.length:=(aAO.1 h).1
   simp[hr,aG9 cs hd]
 ·cases h:rows[r]? with
  |none=>
   cases h2:rows[q]? with
   |none=>simp[h,h2]
   |some cs2=>simp[aLF,Ne.symm hrq,h,h2]
  |some cs=>
   cases h2:rows[q]? with
   |none=>simp[aLF,hrq,h,h2]
   |some cs2=>simp only[aLF,hrq,Ne.symm hrq,if_false,h,h2];rw[List.set_comm _ _ hrq]
def As.eff:As→Option CB→Option CB
 | .new _ c,_=>some c
 | .put _ c,_=>some c
 | .cells _ r o vs,x=>match x with
   |some (.live st fl _ rows)=>some (.live st (fl&&vs.all AV.flat) true (Xg rows r o vs))
   |x=>x
theorem Uy(g:HF)(e:As)(i:Nat):Dq g e i=if i=e.id then e.eff (g i)else g i:=by
 cases e with
 |new b c=>by_cases hi:i=b<;>simp[Dq,upd,As.id,As.eff,hi]
 |put b c=>by_cases hi:i=b<;>simp[Dq,upd,As.id,As.eff,hi]
 |cells b r o vs=>
  by_cases hi:i=b
  ·subst hi
   simp only[Dq,As.id,As.eff,if_true]
   cases hg:g i with
   |none=>simp[hg]
   |some c=>cases c<;>simp[hg,upd]
  ·have e:∀(x:Option CB) (y:HF),(match x with
    |some (.live st fl _ rows)=>upd y b (.live st (fl&&vs.all AV.flat) true (Xg rows r o vs))
    |_=>y) i=y i:=fun x y=>by
    cases x with
    |none=>rfl
    |some c=>cases c<;>simp[upd,hi]
   rw[if_neg (show ¬i=(As.cells b r o vs).id from hi)]
   exact e (g b) g
theorem a0U{e e':As}(Jb:e.id=e'.id)(h:e.foot.meets e'.foot=false)(x:Option CB):e'.eff (e.eff x)=e.eff (e'.eff x):=by
 cases e<;>cases e'<;>simp[As.id]at Jb<;>subst Jb<;>simp[As.foot,Ew.meets]at h
 rename_i b r o vs r' o' vs'
 cases x with
 |none=>rfl
 |some c=>
  cases c with
  |live st fl w rows=>
   simp only[As.eff]
   rw[aNM rows (by omega)]
   rw[aYH,Bool.and_comm (vs.all AV.flat),←aYH]
  |_=>rfl
theorem aPZ(g:HF){e e':As}(h:e.foot.meets e'.foot=false):Dq (Dq g e) e'=Dq (Dq g e') e:=by
 funext i
 rw[Uy,Uy,Uy,Uy]
 by_cases h1:i=e'.id
 ·by_cases h2:i=e.id
  ·rw[if_pos h1,if_pos h2,if_pos h2,if_pos h1];exact a0U (h2.symm.trans h1) h _
  ·rw[if_pos h1,if_neg h2,if_neg h2,if_pos h1]
 ·by_cases h2:i=e.id
  ·rw[if_neg h1,if_pos h2,if_pos h2,if_neg h1]
  ·rw[if_neg h1,if_neg h2,if_neg h2,if_neg h1]
theorem aET(g:HF){e:As}:∀{es:List As},(∀x∈es,e.foot.meets x.foot=false)→Bt (Dq g e) es=Dq (Bt g es) e
 | [],_=>rfl
 |x::es,h=>by
  simp only[Bt]
  rw[aPZ g (h x (aC6 ..))]
  exact aET (Dq g x) (fun y hy=>h y (aAP _ hy))
theorem aJF:∀{es es':List As} (g:HF),(∀x∈es,∀y∈es',x.foot.meets y.foot=false)→Bt (Bt g es) es'=Bt (Bt g es') es
 | [],es',g,_=>rfl
 |e::es,es',g,h=>by
  simp only[Bt]
  rw[aJF (Dq g e) (fun x hx=>h x (aAP _ hx)),aET g (h e (aC6 ..))]
inductive Qq(o n:Nat):Option CB→Option CB→Prop
 |refl (x:Option CB):Qq o n x x
 |live {st st':Nat} {fl fl' w w':Bool} {rows rows':List (List AV)}:rows.length=rows'.length→
   (∀(r:Nat) cs cs',rows[r]?=some cs→rows'[r]?=some cs'→cs.length=cs'.length∧∀j,o≤j→j<o+n→cs[j]?=cs'[j]?)→Qq o n (some (.live st fl w rows)) (some (.live st' fl' w' rows'))
def Fo(g g':HF):Ew→Prop
 | .blk b=>g' b=g b
 | .cells b o n=>Qq o n (g b) (g' b)
 | .all=>g'=g
theorem Qq.trans{o n:Nat}{x y z:Option CB}(h:Qq o n x y)(k:Qq o n y z):Qq o n x z:=by
 cases h with
 |refl=>exact k
 |live a b=>
  cases k with
  |refl=>exact .live a b
  |live c d=>
   refine .live (a.trans c) (fun r cs cs' h1 h2=>?_)
   have hr:=(aAO.1 h1).1
   have h3:=acZ (a▸hr)
   obtain⟨b1,b2⟩:=b r _ _ h1 h3
   obtain⟨d1,d2⟩:=d r _ _ h3 h2
   exact⟨b1.trans d1,fun j q1 q2=>(b2 j q1 q2).trans (d2 j q1 q2)⟩
theorem Fo.refl(g:HF)(f:Ew):Fo g g f:=by
 cases f with
 |blk b=>rfl
 |cells b o n=>exact Qq.refl _
 |all=>rfl
theorem Fo.trans{g g' g'':HF}{f:Ew}(h:Fo g g' f)(k:Fo g' g'' f):Fo g g'' f:=by
 cases f with
 |blk b=>exact Eq.trans k h
 |cells b o n=>exact Qq.trans h k
 |all=>exact Eq.trans k h
theorem uP(rows:List (List AV))(r o:Nat)(vs:List AV):(Xg rows r o vs).length=rows.length:=by
 unfold Xg;split<;>simp
theorem amM{rows:List (List AV)}{r o:Nat}{vs:List AV}{q:Nat}{cs':List AV}(h:(Xg rows r o vs)[q]?=some cs'):∃cs,rows[q]?=some cs∧cs'=if q=r then Gf cs o vs else cs:=by
 unfold Xg at h
 split at h
 ·rename_i cs hr
  rw[aLF]at h
  by_cases hq:r=q
  ·subst hq
   have hlt:r<rows.length:=(aAO.1 hr).1
   simp[hlt]at h;subst h
   exact⟨cs,hr,by simp⟩
  ·rw[if_neg hq]at h;exact⟨cs',h,by rw[if_neg (Ne.symm hq)]⟩
 ·rename_i hr
  refine⟨cs',h,?_⟩
  rw[if_neg (fun e=>by subst e;rw[hr]at h;cases h)]
theorem Fo.edit(g:HF){e:As}{f:Ew}(h:e.foot.meets f=false):Fo g (Dq g e) f:=by
 cases f with
 |all=>cases e<;>simp[As.foot,Ew.meets]at h
 |blk b=>
  show Dq g e b=g b
  rw[Uy,if_neg]
  intro hb
  cases e<;>simp[As.foot,Ew.meets,As.id]at h hb<;>omega
 |cells b o n=>
  show Qq o n (g b) (Dq g e b)
  rw[Uy]
  by_cases hb:b=e.id
  ·rw[if_pos hb]
   cases e with
   |new b' c=>simp[As.foot,Ew.meets,As.id]at h hb;omega
   |put b' c=>simp[As.foot,Ew.meets,As.id]at h hb;omega
   |cells b' r o' vs=>
    simp only[As.id]at hb
    subst hb
    simp only[As.foot,Ew.meets,beq_self_eq_true,Bool.true_and,Bool.and_eq_false_iff,decide_eq_false_iff_not]at h
    cases hg:g b with
    |none=>exact .refl _
    |some c=>
     cases c with
     |live st fl w rows=>
      refine .live (uP ..).symm (fun q cs cs' h1 h2=>?_)
      obtain⟨cs0,k1,k2⟩:=amM h2
      rw[h1]at k1;cases k1
      subst k2
      by_cases hq:q=r
      ·rw[if_pos hq]
       refine⟨(Qi ..).symm,fun j q1 q2=>?_⟩
       rw[Py,if_neg (by omega)]
      ·rw[if_neg hq];exact⟨rfl,fun _ _ _=>rfl⟩
     |_=>exact .refl _
  ·rw[if_neg hb];exact .refl _
theorem Fo.both{g g':HF}{f:Ew}(h:Fo g g' f)(e:As):Fo (Dq g e) (Dq g' e) f:=by
 cases f with
 |all=>show Dq g' e=Dq g e;rw[show g'=g from h]
 |blk b=>
  show Dq g' e b=Dq g e b
  rw[Uy,Uy,show g' b=g b from h]
 |cells b o n=>
  show Qq o n (Dq g e b) (Dq g' e b)
  have h':Qq o n (g b) (g' b):=h
  rw[Uy,Uy]
  by_cases hb:b=e.id
  ·rw[if_pos hb,if_pos hb]
   generalize g b=x at h'
   generalize g' b=y at h'
   cases e with
   |new b' c=>exact .refl _
   |put b' c=>exact .refl _
   |cells b' r o' vs=>
    cases h' with
    |refl=>exact .refl _
    |live a d=>
     refine .live (by rw[uP,uP];exact a) (fun q cs cs' h1 h2=>?_)
     obtain⟨c1,k1,k2⟩:=amM h1
     obtain⟨c2,k3,k4⟩:=amM h2
     obtain⟨d1,d2⟩:=d q c1 c2 k1 k3
     subst k2 k4
     by_cases hq:q=r
     ·rw[if_pos hq,if_pos hq]
      refine⟨by rw[Qi,Qi];exact d1,fun j q1 q2=>?_⟩
      rw[Py,Py,d1]
      split
      ·rfl
      ·exact d2 j q1 q2
     ·rw[if_neg hq,if_neg hq];exact⟨d1,d2⟩
  ·rw[if_neg hb,if_neg hb];exact h'
theorem Fo.edits{f:Ew}:∀{es:List As} (g:HF),(∀e∈es,e.foot.meets f=false)→Fo g (Bt g es) f
 | [],g,_=>.refl g f
 |e::es,g,h=>(Fo.edit g (h e (aC6 ..))).trans (Fo.edits _ (fun x hx=>h x (aAP _ hx)))
theorem Fo.boths{f:Ew}:∀{es:List As} {g g':HF},Fo g g' f→Fo (Bt g es) (Bt g' es) f
 | [],_,_,h=>h
 |e::es,_,_,h=>Fo.boths (es:=es) (h.both e)
theorem Fo.symm{g g':HF}{f:Ew}(h:Fo g g' f):Fo g' g f:=by
 cases f with
 |all=>exact Eq.symm h
 |blk b=>exact Eq.symm h
 |cells b o n=>
  have h':Qq o n (g b) (g' b):=h
  show Qq o n (g' b) (g b)
  generalize g b=x at h'
  generalize g' b=y at h'
  cases h' with
  |refl=>exact .refl _
  |live a d=>exact .live a.symm (fun r cs cs' h1 h2=>⟨(d r cs' cs h2 h1).1.symm,fun j q1 q2=>((d r cs' cs h2 h1).2 j q1 q2).symm⟩)
end
noncomputable section
open Go.RowKit
section
variable {P:Program}
theorem Nu{t t':List AV}:∀{xs:List Operand},(∀x∈xs,Ar t x=Ar t' x)→Et t xs=Et t' xs
 | [],_=>rfl
 |x::xs,h=>by
  simp only[Et]
  rw[h x (aC6 ..),Nu (fun y hy=>h y (aAP _ hy))]
theorem aGU{t t':List AV}{x:Option Operand}(h:∀y,x=some y→Ar t y=Ar t' y):aCA t x=aCA t' x:=by
 cases x with
 |none=>rfl
 |some y=>simp only[aCA];rw[h y rfl]
theorem aVA{g:HF}{base:Nat}{t t':List AV}{o:Op}(h:∀x∈o.operands.toList,Ar t x=Ar t' x):exec P g base t o=exec P g base t' o:=by
 cases o with
 |alloc t=>rfl
 |build ty ps=>simp only[exec];rw[Nu (t:=t) (t':=t') (xs:=ps.toList.map (·.2)) (fun x hx=>h x (by simp only[Op.operands];exact hx))]
 |buildSlice ty n ps=>simp only[exec];rw[Nu (t:=t) (t':=t') (xs:=ps.toList.map (·.2)) (fun x hx=>h x (by simp only[Op.operands];exact hx))]
 |makeFunc fn xs ys=>
  cases fn with
  |func f=>
   simp only[exec]
   rw[Nu (xs:=xs.toList) (fun x hx=>h x (by simp[Op.operands];exact .inl (by simpa using hx))),Nu (xs:=ys.toList) (fun x hx=>h x (by simp[Op.operands];exact .inr (by simpa using hx)))]
  |_=>simp[exec]
 |slice ty x lo hi mx=>
  cases mx with
  |some m=>simp[exec]
  |none=>
   simp only[exec]
   rw[h x (by simp[Op.operands]),aGU (x:=lo) (fun y hy=>h y (by subst hy;simp[Op.operands])),aGU (x:=hi) (fun y hy=>h y (by subst hy;simp[Op.operands]))]
 |call c=>
  obtain⟨cal,args,ts⟩:=c
  cases cal with
  |builtin b=>simp only[exec];rw[Nu (xs:=args.toList) (fun x hx=>h x (by simpa [Op.operands,Call.operands]using hx))]
  |_=>simp[exec]
 |pick c a b=>simp only[exec];rw[h c (by simp[Op.operands]),h a (by simp[Op.operands]),h b (by simp[Op.operands])]
 |store _ a b=>simp only[exec];rw[h a (by simp[Op.operands]),h b (by simp[Op.operands])]
 |binOp _ _ a b _=>simp only[exec];rw[h a (by simp[Op.operands]),h b (by simp[Op.operands])]
 |makeSlice _ a b=>simp only[exec];rw[h a (by simp[Op.operands]),h b (by simp[Op.operands])]
 |indexAddr _ a b=>simp only[exec];rw[h a (by simp[Op.operands]),h b (by simp[Op.operands])]
 |index _ a b=>simp only[exec];rw[h a (by simp[Op.operands]),h b (by simp[Op.operands])]
 |move a=>simp only[exec];rw[h a (by simp[Op.operands])]
 |assign a=>simp only[exec];rw[h a (by simp[Op.operands])]
 |box _ a=>simp only[exec];rw[h a (by simp[Op.operands])]
 |load _ a=>simp only[exec];rw[h a (by simp[Op.operands])]
 |nilCheck a=>simp only[exec];rw[h a (by simp[Op.operands])]
 |unOp _ _ a=>simp only[exec];rw[h a (by simp[Op.operands])]
 |convert _ _ a=>simp only[exec];rw[h a (by simp[Op.operands])]
 |makeInterface _ a=>simp only[exec];rw[h a (by simp[Op.operands])]
 |fieldAddr _ a _=>simp only[exec];rw[h a (by simp[Op.operands])]
 |field _ a _=>simp only[exec];rw[h a (by simp[Op.operands])]
 |extract a _=>simp only[exec];rw[h a (by simp[Op.operands])]
 |range _ a=>simp only[exec];rw[h a (by simp[Op.operands])]
 |next a s=>cases s<;>simp only[exec];rw[h a (by simp[Op.operands])]
 |makeMap _ r=>cases r<;>rfl
 |lookup _ a b _=>simp only[exec];rw[h a (by simp[Op.operands]),h b (by simp[Op.operands])]
 |mapUpdate _ a b c=>simp only[exec];rw[h a (by simp[Op.operands]),h b (by simp[Op.operands]),h c (by simp[Op.operands])]
 |insert _ a b c=>simp only[exec];rw[h a (by simp[Op.operands]),h b (by simp[Op.operands]),h c (by simp[Op.operands])]
 |_=>rfl
theorem aNC{t t':List AV}{c:Call}(h:∀x∈c.operands.toList,Ar t x=Ar t' x):callee P t c=callee P t' c:=by
 obtain⟨cal,args,ts⟩:=c
 cases cal with
 |value f=>simp only[callee];rw[h f (by simp[Call.operands]),Nu (xs:=args.toList) (fun x hx=>h x (by simp[Call.operands];exact .inr (by simpa using hx)))]
 |invoke r name=>simp only[callee];rw[h r (by simp[Call.operands]),Nu (xs:=args.toList) (fun x hx=>h x (by simp[Call.operands];exact .inr (by simpa using hx)))]
 |builtin b=>rfl
theorem Qq.row{o n:Nat}{g g':HF}{b:Nat}(h:Qq o n (g b) (g' b)){r:Nat}{cs:List AV}(hr:al5 g b r=some cs):
 ∃cs',al5 g' b r=some cs'∧cs'.length=cs.length∧∀j,o≤j→j<o+n→cs'[j]?=cs[j]?:=by
 unfold al5 at hr ⊢
 generalize g b=x at h hr
 generalize g' b=y at h
 cases h with
 |refl=>exact⟨cs,hr,rfl,fun _ _ _=>rfl⟩
 | @live st st' fl fl' w w' rows rows' a d=>
   simp only at hr ⊢
   have hlt:=(aAO.1 hr).1
   have h3:=acZ (a▸hlt)
   obtain⟨d1,d2⟩:=d r _ _ hr h3
   exact⟨_,h3,d1.symm,fun j q1 q2=>(d2 j q1 q2).symm⟩
theorem aHC{cs cs':List AV}{o n:Nat}(h1:cs'.length=cs.length)(h2:∀j,o≤j→j<o+n→cs'[j]?=cs[j]?):(cs'.drop o).take n=(cs.drop o).take n:=by
 apply aX2
 intro j
 rw[aYW,aYW]
 split
 ·rw[aOY,aOY];exact h2 _ (by omega) (by omega)
 ·rfl
theorem aUJ{g g':HF}{t:TypeId}{p:AV}{d:Kx}(h:iG P g t p=some d)(ha:∀f∈d.fs,Fo g g' f):iG P g' t p=some d:=by
 unfold iG at h ⊢
 simp only[acL]at h ⊢
 obtain⟨isA,h1,n,h2,h⟩:=h
 refine⟨isA,h1,n,h2,?_⟩
 cases p with
 |iptr cs=>cases isA<;>cases cs<;>exact h
 |ptr b r o=>
  cases isA with
  |true=>
   simp only[acL]at h ⊢
   obtain⟨cs,h3,h⟩:=h
   split at h<;>simp at h
   rename_i hle
   subst h
   obtain⟨cs',k1,k2,k3⟩:=Qq.row (ha (.cells b o n) (aqD.2 rfl)) h3
   exact⟨cs',k1,by rw[if_pos (by omega),aHC k2 k3]⟩
  |false=>
   simp only[acL,acR]at h ⊢
   obtain⟨cs,h3,v,h4,rfl⟩:=h
   obtain⟨cs',k1,k2,k3⟩:=Qq.row (ha (.cells b o 1) (aqD.2 rfl)) h3
   exact⟨cs',k1,v,by rw[k3 o (aEO _) (by omega)];exact h4,rfl⟩
 |_=>cases isA<;>simp at h
theorem aP5{g g':HF}{t:TypeId}{p v:AV}{d:Kx}(h:pZ P g t p v=some d)(ha:∀f∈d.fs,Fo g g' f):pZ P g' t p v=some d:=by
 unfold pZ at h ⊢
 simp only[acL]at h ⊢
 obtain⟨n,h2,h⟩:=h
 refine⟨n,h2,?_⟩
 cases p with
 |ptr b r o=>
  simp only at h ⊢
  split at h
  ·rename_i st fl w rows hg
   simp only[acL]at h
   obtain⟨cs,h3,h⟩:=h
   split at h<;>simp at h
   rename_i hc
   subst h
   have hA:Qq o n (g b) (g' b):=ha (.cells b o n) (aqD.2 rfl)
   rw[hg]at hA
   generalize hy:g' b=y at hA
   cases hA with
   |refl=>simp only[acL];exact⟨cs,h3,by rw[if_pos hc]⟩
   | @live _ _ _ _ _ _ _ rows' a d=>
     have hlt:=(aAO.1 h3).1
     have h4:=acZ (a▸hlt)
     obtain⟨d1,d2⟩:=d r _ _ h3 h4
     simp only[acL]
     exact⟨_,h4,by rw[if_pos (by rw[←d1];exact hc)]⟩
  ·simp at h
 |_=>simp at h
theorem aw9{g g':HF}{b r len:Nat}(h:g' b=g b):Ju g' b r len=Ju g b r len:=by unfold Ju;rw[h]
theorem aDC{g g':HF}{e:TypeId}{x:AV}{fl:Bool}{rows:List (List AV)}{fs:List Ew}(h:Hi P g e x=some (fl,rows,fs))(ha:∀f∈fs,Fo g g' f):Hi P g' e x=some (fl,rows,fs):=by
 cases x with
 |slr st b r len=>
  simp only[Hi,acL]at h ⊢
  obtain⟨⟨st',fl',rows'⟩,h1,h⟩:=h
  simp only at h
  split at h<;>simp at h
  rename_i hs
  obtain⟨rfl,rfl,rfl⟩:=h
  refine⟨_,by rw[aw9 (ha (.blk b) (aqD.2 rfl))];exact h1,?_⟩
  simp only;rw[if_pos hs]
 |_=>exact h
theorem aCY{g g':HF}{base:Nat}{t:TypeId}{s x:AV}{d:Kx}(h:Oc P g base t s x=some d)(ha:∀f∈d.fs,Fo g g' f):Oc P g' base t s x=some d:=by
 unfold Oc at h ⊢
 simp only[acL]at h ⊢
 obtain⟨e,h1,n,h2,by_,h3,z,h4,⟨nfl,new,fs⟩,h5,h⟩:=h
 have hfs:(∀f∈fs,f∈d.fs):=by
  simp only at h
  split at h
  ·simp at h
  ·split at h
   ·split at h<;>simp at h<;>subst h<;>exact fun f hf=>hf
   ·split at h<;>simp at h
    subst h;exact fun f hf=>hf
   ·split at h
    ·split at h<;>simp at h
     subst h;exact fun f hf=>aAP _ hf
    ·simp at h
   ·simp at h
 refine⟨e,h1,n,h2,by_,h3,z,h4,(nfl,new,fs),aDC h5 (fun f hf=>ha f (hfs f hf)),?_⟩
 simp only at h ⊢
 split at h
 ·simp at h
 ·rename_i hn
  rw[if_neg hn]
  cases new with
  |nil=>exact h
  |cons n0 new=>
   cases s with
   |slr st b r len=>
    simp only at h ⊢
    split at h
    ·rename_i st' fl' w' rows' hg
     split at h
     ·rename_i hc
      simp at h
      subst h
      have hb:g' b=g b:=ha (.blk b) (aC6 ..)
      rw[hb,hg]
      simp only
      rw[if_pos hc]
      rfl
     ·simp at h
    ·simp at h
   |_=>exact h
theorem aC8{g g':HF}{b:Nat}(h:g' b=g b):afH g' b=afH g b:=by unfold afH;rw[h]
theorem aZU{g g':HF}{x:AV}{d:Kx}(h:aC0 g x=some d)(ha:∀f∈d.fs,Fo g g' f):aC0 g' x=some d:=by
 unfold aC0 at h ⊢
 split at h
 ·rename_i b
  split at h
  ·rename_i s p hg
   have hb:g' b=g b:=by
    split at h
    ·obtain rfl:=aAN.inj h
     exact ha (.blk b) (aqD.2 rfl)
    ·obtain rfl:=aAN.inj h
     exact ha (.blk b) (aqD.2 rfl)
   rw[hb,hg];exact h
  ·simp at h
 ·simp at h
theorem aPT{g g':HF}{t:TypeId}{m k:AV}{ok:Bool}{d:Kx}(h:Wq P g t m k ok=some d)(ha:∀f∈d.fs,Fo g g' f):Wq P g' t m k ok=some d:=by
 unfold Wq at h ⊢
 split at h
 ·rename_i kt vt b hu
  split at h
  ·rename_i hk
   rw[if_pos hk]
   simp only[acL]at h ⊢
   obtain⟨kvs,h1,r,h2,z,h3,h⟩:=h
   have hb:g' b=g b:=by
    simp only[aAN.injEq]at h;subst h
    exact ha (.blk b) (aqD.2 rfl)
   exact⟨kvs,by rw[aC8 hb];exact h1,r,h2,z,h3,h⟩
  ·simp at h
 ·simp at h
theorem aGF{g g':HF}{t:TypeId}{m k v:AV}{d:Kx}(h:Rh P g t m k v=some d)(ha:∀f∈d.fs,Fo g g' f):Rh P g' t m k v=some d:=by
 unfold Rh at h ⊢
 split at h
 ·rename_i kt vt b hu
  split at h
  ·rename_i hk
   rw[if_pos hk]
   simp only[acL]at h ⊢
   obtain⟨kvs,h1,r,h2,h⟩:=h
   have hb:g' b=g b:=by
    refine ha (.blk b) ?_
    split at h
    ·split at h<;>simp at h
     subst h;exact aqD.2 rfl
    ·simp at h;subst h;exact aqD.2 rfl
   exact⟨kvs,by rw[aC8 hb];exact h1,r,h2,h⟩
  ·simp at h
 ·simp at h
theorem aUV{g g':HF}{s d:TypeId}{x:AV}{dd:Kx}(h:uS P g s d x=some dd)(ha:∀f∈dd.fs,Fo g g' f):uS P g' s d x=some dd:=by
 unfold uS at h ⊢
 split at h
 ·rename_i e hs hd
  split at h
  ·rename_i he
   try rw[he]
   try simp only
   split at h
   ·simp at h
   ·rename_i hns
    have:∀{y:Option Kx},((Hi P g' e x).bind fun(_,rows,fs)=>(eQ rows).map fun l=>(⟨.str l,[],fs⟩:Kx))=some dd:=by
     intro _
     simp only[acL,acR]at h ⊢
     obtain⟨⟨fl,rows,fs⟩,h1,l,h2,rfl⟩:=h
     exact⟨_,aDC h1 (fun f hf=>ha f hf),l,h2,rfl⟩
    cases x with
    |str q=>exact(hns _ rfl).elim
    |_=>exact this (y:=none)
  ·simp at h
 ·exact h
theorem a1C{g g':HF}{base:Nat}{t:List AV}{o:Op}{d:Kx}(h:exec P g base t o=some d)(ha:∀f∈d.fs,Fo g g' f):exec P g' base t o=some d:=by
 cases o with
 |load ty x=>
  simp only[exec,acL]at h ⊢
  obtain⟨p,h1,h2⟩:=h
  exact⟨p,h1,aUJ h2 ha⟩
 |store ty x y=>
  simp only[exec,acL]at h ⊢
  obtain⟨p,h1,v,h2,h3⟩:=h
  exact⟨p,h1,v,h2,aP5 h3 ha⟩
 |lookup ty x y ok=>
  simp only[exec,acL]at h ⊢
  obtain⟨p,h1,v,h2,h3⟩:=h
  exact⟨p,h1,v,h2,aPT h3 ha⟩
 |mapUpdate ty x y z=>
  simp only[exec,acL]at h ⊢
  obtain⟨p,h1,v,h2,u,h3,h4⟩:=h
  exact⟨p,h1,v,h2,u,h3,aGF h4 ha⟩
 |insert ty x y z=>
  simp only[exec,acL]at h ⊢
  obtain⟨p,h1,v,h2,u,h3,h4⟩:=h
  exact⟨p,h1,v,h2,u,h3,aGF h4 ha⟩
 |convert s ty x=>
  simp only[exec,acL]at h ⊢
  obtain⟨p,h1,h2⟩:=h
  exact⟨p,h1,aUV h2 ha⟩
 |range ty x=>exact h
 |next x is=>
  cases is with
  |false=>exact h
  |true=>
   simp only[exec,acL]at h ⊢
   obtain⟨p,h1,h2⟩:=h
   exact⟨p,h1,aZU h2 ha⟩
 |makeMap ty r=>cases r<;>exact h
 |makeFunc fn xs ys=>cases fn<;>exact h
 |slice ty x lo hi mx=>cases mx<;>exact h
 |call c=>
  obtain⟨cal,args,ts⟩:=c
  cases cal with
  |builtin b=>
   simp only[exec,acL]at h ⊢
   obtain⟨vs,h1,h⟩:=h
   refine⟨vs,h1,?_⟩
   split at h
   ·exact h
   ·simp only[acL]at h ⊢
    obtain⟨t0,h2,t1,h3,h⟩:=h
    refine⟨t0,h2,t1,h3,?_⟩
    split at h
    ·exact aCY h ha
    ·exact aCY h ha
    ·simp at h
   ·exact h
   ·exact h
   ·exact h
   ·exact h
   ·simp at h
  |_=>exact h
 |_=>exact h
def uM(base:Nat)(F:Nat→Option Kx)(d:Kx):Prop:=(∀b c,As.new b c∈d.es→b=base)∧((∀b c,As.new b c∉d.es)→∀base',F base'=some d)
theorem aH8{base:Nat}{v:AV}{d:Kx}(h:aCJ base v=some d):uM base (fun b=>aCJ b v) d:=by
 unfold aCJ at h
 split at h<;>simp at h
 subst h
 exact⟨fun b c hb=>by simp at hb;exact hb.1,fun hn=>(hn _ _ (aqD.2 rfl)).elim⟩
theorem aAU{base:Nat}{t:TypeId}{len:Nat}{parts:List (Nat × AV)}{d:Kx}(h:Eu P base t len parts=some d):uM base (fun b=>Eu P b t len parts) d:=by
 unfold Eu at h
 simp only[acL]at h
 obtain⟨e,h1,n,h2,z,h3,h⟩:=h
 split at h
 ·simp at h
 ·obtain⟨rows,h4,h⟩:=acL.1 h
  split at h<;>simp at h
  subst h
  exact⟨fun b c hb=>by simp at hb;exact hb.1,fun hn=>(hn _ _ (aqD.2 rfl)).elim⟩
theorem aD0{base:Nat}{t:TypeId}{l c:AV}{d:Kx}(h:Og P base t l c=some d):uM base (fun b=>Og P b t l c) d:=by
 unfold Og at h
 simp only[acL]at h
 obtain⟨e,h1,n,h2,b,h3,z,h4,h⟩:=h
 split at h
 ·split at h<;>simp at h
  subst h
  exact⟨fun b c hb=>by simp at hb;exact hb.1,fun hn=>(hn _ _ (aqD.2 rfl)).elim⟩
 ·simp at h
theorem axK{g:HF}{base:Nat}{t:TypeId}{s x:AV}{d:Kx}(h:Oc P g base t s x=some d):uM base (fun b=>Oc P g b t s x) d:=by
 have h0:=h
 unfold Oc at h
 simp only[acL]at h
 obtain⟨e,h1,n,h2,by_,h3,z,h4,⟨nfl,new,fs⟩,h5,h⟩:=h
 simp only at h
 split at h
 ·simp at h
 ·rename_i hn
  cases new with
  |nil=>
   refine⟨fun b c hb=>?_,fun _ base'=>?_⟩
   ·simp only at h
    split at h<;>simp at h<;>subst h<;>simp at hb
   ·unfold Oc
    simp only[acL]
    refine⟨e,h1,n,h2,by_,h3,z,h4,(nfl,[],fs),h5,?_⟩
    simp only;rw[if_neg hn];exact h
  |cons n0 new=>
   cases s with
   |nils=>
    simp only at h
    split at h<;>simp at h
    subst h
    exact⟨fun b c hb=>by simp at hb;exact hb.1,fun hn=>(hn _ _ (aqD.2 rfl)).elim⟩
   |slr st b r len=>
    simp only at h
    split at h
    ·split at h<;>simp at h
     subst h
     exact⟨fun b c hb=>by simp at hb;exact hb.1,fun hn=>(hn _ _ (aAP _ (aqD.2 rfl))).elim⟩
    ·simp at h
   |_=>simp at h
theorem aTH{g:HF}{base:Nat}{t:List AV}{o:Op}{d:Kx}(h:exec P g base t o=some d):uM base (fun b=>exec P g b t o) d:=by
 have still:(∀base',exec P g base' t o=exec P g base t o)→d.es=[]→uM base (fun b=>exec P g b t o) d:=fun h1 h2=>
  ⟨fun b c hb=>by rw[h2]at hb;simp at hb,fun _ base'=>(h1 base').trans h⟩
 have pure':∀{x:Option AV} {d:Kx},Na x=some d→d.es=[]:=fun hx=>by
  obtain⟨v,_,rfl⟩:=acR.1 hx;rfl
 have lift:∀{α:Type} {x:Option α} {F:Nat→α→Option Kx} (v:α),x=some v→uM base (fun b=>F b v) d→uM base (fun b=>x.bind (F b)) d:=fun v hv k=>by
  subst hv;exact k
 have goodE:(∀(he:exec P g base t o=some d),d.es=[])→(∀base',exec P g base' t o=exec P g base t o)→uM base (fun b=>exec P g b t o) d:=fun h1 h2=>still h2 (h1 h)
 cases o with
 |alloc ty=>obtain⟨z,h1,h⟩:=acL.1 h;exact lift z h1 (aH8 h)
 |box ty x=>obtain⟨z,h1,h⟩:=acL.1 h;exact lift z h1 (aH8 h)
 |buildSlice ty n ps=>obtain⟨z,h1,h⟩:=acL.1 h;exact lift z h1 (aAU h)
 |makeSlice ty x y=>
  obtain⟨p,h1,h⟩:=acL.1 h
  obtain⟨q,h2,h⟩:=acL.1 h
  exact lift p h1 (lift q h2 (aD0 h))
 |makeFunc fn xs ys=>
  cases fn with
  |func f=>
   refine still (fun _=>rfl) ?_
   simp only[exec,acL]at h
   obtain⟨p,_,v,_,h⟩:=h
   simp at h;subst h;rfl
  |_=>simp[exec]at h
 |slice ty x lo hi mx=>
  cases mx with
  |some m=>simp[exec]at h
  |none=>
   refine still (fun _=>rfl) ?_
   simp only[exec,acL]at h
   obtain⟨p,_,v,_,u,_,h⟩:=h
   exact pure' h
 |call c=>
  obtain⟨cal,args,ts⟩:=c
  cases cal with
  |builtin b=>
   obtain⟨vs,hvs,he⟩:=acL.1 h
   have hx:uM base (fun b'=>exec P g b' t (.call ⟨.builtin b,args,ts⟩)) d:=by
    simp only[exec]
    refine lift vs hvs ?_
    split at he
    ·obtain⟨t0,q1,q2⟩:=acL.1 he
     exact⟨fun b c hb=>by rw[pure' q2]at hb;simp at hb,fun _ _=>he⟩
    ·obtain⟨t0,q1,q2⟩:=acL.1 he
     obtain⟨t1,q3,q4⟩:=acL.1 q2
     refine lift t0 q1 (lift t1 q3 ?_)
     split at q4
     ·exact axK q4
     ·exact axK q4
     ·simp at q4
    ·exact⟨fun b c hb=>by rw[pure' he]at hb;simp at hb,fun _ _=>he⟩
    ·exact⟨fun b c hb=>by rw[pure' he]at hb;simp at hb,fun _ _=>he⟩
    ·exact⟨fun b c hb=>by rw[pure' he]at hb;simp at hb,fun _ _=>he⟩
    ·exact⟨fun b c hb=>by rw[pure' he]at hb;simp at hb,fun _ _=>he⟩
    ·simp at he
   exact hx
  |_=>simp[exec]at h
 |load ty x=>
  refine still (fun _=>rfl) ?_
  obtain⟨p,_,he⟩:=acL.1 h
  unfold iG at he
  simp only[acL]at he
  obtain⟨isA,_,n,_,he⟩:=he
  split at he
  ·split at he<;>simp at he;subst he;rfl
  ·obtain⟨cs,_,he⟩:=acL.1 he
   split at he<;>simp at he;subst he;rfl
  ·simp at he;subst he;rfl
  ·obtain⟨cs,_,he⟩:=acL.1 he
   obtain⟨v,_,rfl⟩:=acR.1 he;rfl
  ·simp at he
 |store ty x y=>
  refine⟨fun b c hb=>?_,fun _ _=>h⟩
  simp only[exec,acL]at h
  obtain⟨p,_,v,_,he⟩:=h
  unfold pZ at he
  obtain⟨n,_,he⟩:=acL.1 he
  cases p with
  |ptr b r o=>
   simp only at he
   split at he
   ·obtain⟨cs,_,he⟩:=acL.1 he
    split at he<;>simp at he
    subst he;simp at hb
   ·simp at he
  |_=>simp at he
 |move x=>exact still (fun _=>rfl) (pure' h)
 |assign x=>exact still (fun _=>rfl) (pure' h)
 |pick a b c=>
  refine still (fun _=>rfl) ?_
  simp only[exec,acL]at h
  obtain⟨c,_,x,_,y,_,he⟩:=h
  split at he<;>simp at he
  subst he;rfl
 |build ty ps=>obtain⟨z,_,he⟩:=acL.1 h;exact still (fun _=>rfl) (pure' he)
 |nilCheck x=>
  refine still (fun _=>rfl) ?_
  obtain⟨p,_,he⟩:=acL.1 h
  split at he<;>simp at he<;>subst he<;>rfl
 |binOp op ty x y yt=>
  refine still (fun _=>rfl) ?_
  simp only[exec,acL]at h
  obtain⟨p,_,v,_,he⟩:=h;exact pure' he
 |unOp op ty x=>obtain⟨z,_,he⟩:=acL.1 h;exact still (fun _=>rfl) (pure' he)
 |convert s ty x=>obtain⟨z,_,he⟩:=acL.1 h;exact still (fun _=>rfl) (aF8 he)
 |lookup ty x y ok=>
  refine still (fun _=>rfl) ?_
  simp only[exec,acL]at h
  obtain⟨p,_,v,_,he⟩:=h;exact aCC he
 |mapUpdate ty x y z=>
  refine⟨fun b c hb=>?_,fun _ _=>h⟩
  simp only[exec,acL]at h
  obtain⟨p,_,v,_,u,_,he⟩:=h
  obtain⟨b',kvs,kvs',_,h2⟩:=agZ he
  rw[h2]at hb;simp at hb
 |insert ty x y z=>
  refine⟨fun b c hb=>?_,fun _ _=>h⟩
  simp only[exec,acL]at h
  obtain⟨p,_,v,_,u,_,he⟩:=h
  obtain⟨b',kvs,kvs',_,h2⟩:=agZ he
  rw[h2]at hb;simp at hb
 |range ty x=>
  obtain⟨z,_,he⟩:=acL.1 h
  obtain⟨s,hs⟩:=aND he
  exact⟨fun b c hb=>by rw[hs]at hb;simp at hb;exact hb.1,fun hn=>(hn _ _ (by rw[hs];exact aqD.2 rfl)).elim⟩
 |next x is=>
  cases is with
  |false=>simp[exec]at h
  |true=>
   refine⟨fun b c hb=>?_,fun _ _=>h⟩
   obtain⟨z,_,he⟩:=acL.1 h
   rcases aSB he with e|⟨b',kvs,kvs',_,e⟩
   ·rw[e]at hb;simp at hb
   ·rw[e]at hb;simp at hb
 |makeMap ty r=>
  cases r with
  |some r=>simp[exec]at h
  |none=>
   simp[exec]at h;subst h
   exact⟨fun b c hb=>by simp at hb;exact hb.1,fun hn=>(hn _ _ (aqD.2 rfl)).elim⟩
 |makeInterface ty x=>
  refine still (fun _=>rfl) ?_
  obtain⟨z,_,he⟩:=acL.1 h
  split at he<;>simp at he;subst he;rfl
 |fieldAddr ty x f=>obtain⟨z,_,he⟩:=acL.1 h;exact still (fun _=>rfl) (pure' he)
 |field ty x f=>obtain⟨z,_,he⟩:=acL.1 h;exact still (fun _=>rfl) (pure' he)
 |indexAddr ty x y=>
  refine still (fun _=>rfl) ?_
  simp only[exec,acL]at h
  obtain⟨p,_,v,_,he⟩:=h;exact pure' he
 |index ty x y=>
  refine still (fun _=>rfl) ?_
  simp only[exec,acL]at h
  obtain⟨p,_,v,_,he⟩:=h;exact pure' he
 |extract x i=>
  refine still (fun _=>rfl) ?_
  obtain⟨z,_,he⟩:=acL.1 h
  split at he
  ·exact pure' he
  ·simp at he
 |_=>simp[exec]at h
end
end
end Go.Ev
namespace Go.Ev
open Go.RowKit
section
variable {P:Program} {O:Hz} {g g':HF}
theorem cT{α β:Type}{f f':α→Option β}:∀{l:List α},(∀a∈l,f a=f' a)→Da f l=Da f' l
 | [],_=>rfl
 |a::l,h=>by
  simp only[Da]
  rw[h a (aC6 ..),cT (fun b hb=>h b (aAP _ hb))]
theorem Uo{α β:Type}{f f':α→List β}:∀{l:List α},(∀a∈l,f a=f' a)→l.flatMap f=l.flatMap f'
 | [],_=>rfl
 |a::l,h=>by
  simp only[aLI]
  rw[h a (aC6 ..),Uo (fun b hb=>h b (aAP _ hb))]
theorem afN:∀{d:Nat} {v:AV},(∀b∈Dk d g v,g' b=g b)→Je d g' v=Je d g v∧Dk d g' v=Dk d g v
 |0,v,_=>⟨rfl,rfl⟩
 |d+1,v,h=>by
  cases v with
  |slr st b r len=>
   have hb:Ju g' b r len=Ju g b r len:=aw9 (h b (by simp[Dk]))
   simp only[Je,Dk,hb]
   cases hr:Ju g b r len with
   |none=>exact⟨rfl,rfl⟩
   |some x=>
    obtain⟨st',fl,rows⟩:=x
    cases fl with
    |true=>exact⟨rfl,rfl⟩
    |false=>
     have hin:∀cs∈rows,∀c∈cs,Je d g' c=Je d g c∧Dk d g' c=Dk d g c:=fun cs hcs c hc=>afN fun b' hb'=>h b' (by
      simp only[Dk,hr]
      exact aAP _ (aAM.2 ⟨cs,hcs,aAM.2 ⟨c,hc,hb'⟩⟩))
     refine⟨?_,?_⟩
     ·show(Da (Da (Je d g')) rows).map (AV.imm st' false)=(Da (Da (Je d g)) rows).map (AV.imm st' false)
      rw[cT (fun cs hcs=>cT (fun c hc=>(hin cs hcs c hc).1))]
     ·show b::rows.flatMap (fun cs=>cs.flatMap (Dk d g'))=b::rows.flatMap (fun cs=>cs.flatMap (Dk d g))
      rw[Uo (fun cs hcs=>Uo (fun c hc=>(hin cs hcs c hc).2))]
  |agg cs=>
   have hin:∀c∈cs,Je d g' c=Je d g c∧Dk d g' c=Dk d g c:=fun c hc=>afN fun b' hb'=>h b' (by simp only[Dk];exact aAM.2 ⟨c,hc,hb'⟩)
   simp only[Je,Dk]
   rw[cT (fun c hc=>(hin c hc).1),Uo (fun c hc=>(hin c hc).2)]
   exact⟨rfl,rfl⟩
  |iface t x=>
   have:=afN (d:=d) (v:=x) (fun b' hb'=>h b' (by simpa only[Dk]using hb'))
   simp only[Je,Dk]
   rw[this.1,this.2]
   exact⟨rfl,rfl⟩
  |func fn a b=>cases a<;>cases b<;>exact⟨rfl,rfl⟩
  |_=>exact⟨rfl,rfl⟩
theorem aGY:∀{d:Nat} {v:AV},(∀b∈Dk d g v,g' b=g b)→Of d g' v=Of d g v
 |0,v,_=>rfl
 |d+1,v,h=>by
  cases v with
  |slr st b r len=>exact(afN h).1
  |agg cs=>
   have hin:∀c∈cs,Of d g' c=Of d g c:=fun c hc=>aGY fun b' hb'=>h b' (by simp only[Dk];exact aAM.2 ⟨c,hc,hb'⟩)
   simp only[Of]
   rw[cT hin]
  |iface t x=>
   have:=aGY (d:=d) (v:=x) (fun b' hb'=>h b' (by simpa only[Dk]using hb'))
   simp only[Of]
   rw[this]
  |_=>rfl
theorem aEZ:∀{n i:Nat} {m m':List Nat} {cs:List CB},Rx n g i m=some (cs,m')→i≤m.length→(∀b∈m',g' b=g b)→Rx n g' i m=some (cs,m')
 |0,_,_,_,_,h,_,_=>by simp[Rx]at h
 |n+1,i,m,m',cs,h,hi,hm=>by
  have hpre:=(aCG h hi).1
  unfold Rx at h ⊢
  cases hb:m[i]? with
  |none=>rw[hb]at h;exact h
  |some b=>
   rw[hb]at h
   simp only[acL,acR]at h ⊢
   obtain⟨c,h1,⟨c',m1⟩,h2,⟨cs',m2⟩,h3,h4⟩:=h
   simp at h4
   obtain⟨rfl,rfl⟩:=h4
   have hlt:=(aAO.1 hb).1
   have hmem:b∈m2:=(List.IsPrefix.subset hpre) (aON hb)
   refine⟨c,by rw[hm b hmem];exact h1,(c',m1),h2,(cs',m2),?_,rfl⟩
   have hl:i+1≤m1.length:=by have:=((aNI h2).1).length_le;omega
   exact aEZ h3 hl hm
theorem aMU{m m':List Nat}{vs vs':List AV}{cs:List CB}(h:Vw g m vs=some (vs',cs,m'))(hm:∀b∈m',g' b=g b):Vw g' m vs=some (vs',cs,m'):=by
 unfold Vw at h ⊢
 simp only[acL,acR]at h ⊢
 obtain⟨⟨v1,m1⟩,h1,⟨c1,m2⟩,h2,h3⟩:=h
 simp at h3
 obtain⟨rfl,rfl,rfl⟩:=h3
 exact⟨_,h1,_,aEZ h2 (Nat.zero_le _) hm,rfl⟩
theorem aDB:∀{l:List Nat},(∀b∈l,g' b=g b)→Gu g' l=Gu g l
 | [],_=>rfl
 |b::l,h=>by
  simp only[Gu]
  rw[h b (aC6 ..),aDB (fun x hx=>h x (aAP _ hx))]
theorem aHW{base:Nat}{lent m:List Nat}{cs:List CB}{out:Gw}{h':Aa}{d:Wz}(h:Yu g base lent m cs out h'=some d):d.fs=(lent++m).map .blk:=by
 unfold Yu at h
 simp only[acL]at h
 obtain⟨v,_,ps,_,ns,_,h⟩:=h
 simp at h
 subst h;simp
theorem aO3{base:Nat}{f:qE}{args:List AV}{d:Wz}(h:Gg O g base f args=some d)(ha:∀x∈d.fs,Fo g g' x):
 Gg O g' base f args=some d∧Da (Of 12 g') args=Da (Of 12 g) args∧∀vs vs' cs m,Da (Of 12 g) args=some vs→Vw g' [] vs=some (vs',cs,m)→Vw g [] vs=some (vs',cs,m):=by
 unfold Gg at h ⊢
 simp only[acL]at h
 obtain⟨vs,hvs,⟨vs',cs,m⟩,hp,h⟩:=h
 simp only at h
 split at h
 ·simp at h
 ·rename_i hlm
  simp only[acL]at h
  obtain⟨⟨out,h'⟩,hc,hu⟩:=h
  simp only at hu
  have hfs:=aHW hu
  have hl:∀b∈args.flatMap (Dk 12 g),g' b=g b:=fun b hb=>ha (.blk b) (by rw[hfs];exact aKM.2 ⟨b,aQ7 _ hb,rfl⟩)
  have hm:∀b∈m,g' b=g b:=fun b hb=>ha (.blk b) (by rw[hfs];exact aKM.2 ⟨b,aLE _ hb,rfl⟩)
  have hin:∀x∈args,Je 12 g' x=Je 12 g x∧Dk 12 g' x=Dk 12 g x:=fun x hx=>afN fun b hb=>hl b (aAM.2 ⟨x,hx,hb⟩)
  have hlen:args.flatMap (Dk 12 g')=args.flatMap (Dk 12 g):=Uo fun x hx=>(hin x hx).2
  have harg:Da (Of 12 g') args=Da (Of 12 g) args:=cT fun x hx=>aGY fun b hb=>hl b (aAM.2 ⟨x,hx,hb⟩)
  have hp':=aMU hp hm
  refine⟨?_,harg,fun vs1 vs1' cs1 m1 q1 q2=>?_⟩
  ·simp only[acL]
   refine⟨vs,by rw[harg];exact hvs,(vs',cs,m),hp',?_⟩
   simp only[hlen]
   rw[if_neg hlm]
   simp only[acL]
   refine⟨(out,h'),hc,?_⟩
   simp only
   unfold Yu at hu ⊢
   rw[aDB hl]
   exact hu
  ·rw[hvs]at q1;cases q1
   rw[hp']at q2
   rw[hp];exact q2
theorem ag4{base:Nat}{f:qE}{args:List AV}{d:Wz}(h:Ru O g base f args=some d):d.fs=[.all]:=by
 unfold Ru at h
 obtain⟨_,_,h⟩:=acL.1 h
 obtain⟨_,_,h⟩:=acL.1 h
 obtain⟨_,_,rfl⟩:=acR.1 h
 rfl
theorem aUZ{base:Nat}{f:qE}{args:List AV}{d:Wz}(h:Jd O g base f args=some d)(ha:∀x∈d.fs,Fo g g' x):
 Jd O g' base f args=some d∧Da (Of 12 g') args=Da (Of 12 g) args∧∀vs vs' cs m,Da (Of 12 g) args=some vs→Vw g' [] vs=some (vs',cs,m)→Vw g [] vs=some (vs',cs,m):=by
 have sh:Ru O g base f args=some d→g'=g:=fun h=>ha .all (by rw[ag4 h];simp)
 by_cases hp:aaO O f args
 ·obtain⟨n,_,k2⟩:=hp.eq
  rw[k2]at h ⊢
  exact aO3 h ha
 ·rw[ab7 hp]at h ⊢
  have:=sh h
  subst this
  exact⟨h,rfl,fun _ _ _ _ _ q=>q⟩
end
end Go.Ev
namespace Go.Ev
noncomputable section
open Go.RowKit
section
variable {P:Program} {O:Hz}
def aE6(O:Hz)(P:Program)(ops:List Oper)(t:List AV)(g:HF)(base:Nat)(o:Oper):Option Kx:=
 match Jn ops t o with
 |none=>none
 |some false=>some ⟨.tup [],[],[]⟩
 |some true=>
  match Kq o.op with
  | .call c=>(callee P t c).bind fun(f,args)=>(Jd O g base f args).bind fun d=>match d.out with
    | .ret v=>some ⟨v,d.es,d.fs⟩
    | .pan _=>none
  | .panic _=>none
  | .other=>exec P g base t o.op
inductive aFO(O:Hz)(P:Program)(ops:List Oper):List (Oper × Kx)→St→St→Prop
 |nil (s:St):aFO O P ops [] s s
 |cons {o:Oper} {d:Kx} {l:List (Oper × Kx)} {s s':St}:aE6 O P ops s.tmps (hf s.h) s.h.length o=some d→Gy s.h d.es→aFO O P ops l ⟨put s.tmps o.dst d.v,Eh s.h d.es⟩ s'→aFO O P ops ((o,d)::l) s s'
theorem aG1{ops:List Oper}{gs:List Nat}{k:St→Log→R}{r:Ex × St}:∀{rest:List Oper} {i:Nat} {s:St} {log:Log},Jp O P ops gs rest i s log k (fun _ _=>none)=some r→
 ∃recs s',aFO O P ops recs s s'∧recs.map (·.1)=rest∧k s' (log++recs.map fun x=>(x.2.es,x.2.fs))=some r
 | [],i,s,log,h=>⟨[],s,.nil s,rfl,by simpa [Jp]using h⟩
 |o::rest,i,s,log,h=>by
  have fin:∀(d:Kx),aE6 O P ops s.tmps (hf s.h) s.h.length o=some d→Gy s.h d.es→Jp O P ops gs rest (i+1) ⟨put s.tmps o.dst d.v,Eh s.h d.es⟩ (log++[(d.es,d.fs)]) k (fun _ _=>none)=some r→
   ∃recs s',aFO O P ops recs s s'∧recs.map (·.1)=o::rest∧k s' (log++recs.map fun x=>(x.2.es,x.2.fs))=some r:=fun d h1 h2 h3=>by
   obtain⟨recs,s',k1,k2,k3⟩:=aG1 h3
   exact⟨(o,d)::recs,s',.cons h1 h2 k1,by simp[k2],by simpa using k3⟩
  unfold Jp at h
  split at h
  ·simp at h
  ·rename_i hw
   exact fin ⟨.tup [],[],[]⟩ (by simp only[aE6,hw]) (.nil _) h
  ·rename_i hw
   cases hk:Kq o.op with
   |call c=>
    rw[hk]at h
    simp only[acL]at h
    obtain⟨⟨fc,args⟩,hcal,d,hd,h⟩:=h
    simp only at hd
    cases ho:d.out with
    |ret v=>
     rw[ho]at h
     simp only[Jv]at h
     refine fin ⟨v,d.es,d.fs⟩ ?_ (apN hd) h
     simp only[aE6,hw,hk,acL]
     exact⟨(fc,args),hcal,d,hd,by simp only[ho]⟩
    |pan v=>rw[ho]at h;simp at h
   |panic x=>
    rw[hk]at h
    simp only[acL]at h
    obtain⟨v,hv,h⟩:=h
    split at h<;>simp at h
   |other=>
    rw[hk]at h
    simp only[acL,Jv]at h
    obtain⟨d,hd,h⟩:=h
    exact fin d (by simp only[aE6,hw,hk];exact hd) (aIA hd) h
def tS:(Nat→Bool)→List (Oper × Kx)→List AV→List AV
 |_,[],t=>t
 |D,x::l,t=>tS (fun n=>D (n+1)) l (if D 0=true then put t x.1.dst x.2.v else t)
def gS:(Nat→Bool)→List (Oper × Kx)→HF→HF
 |_,[],g=>g
 |D,x::l,g=>gS (fun n=>D (n+1)) l (if D 0=true then Bt g x.2.es else g)
theorem aN2:∀{l:List (Oper × Kx)} {D D':Nat→Bool} {t:List AV},(∀i,i<l.length→D i=D' i)→tS D l t=tS D' l t
 | [],_,_,_,_=>rfl
 |x::l,D,D',t,h=>by
  simp only[tS]
  rw[h 0 (by simp),aN2 (fun i hi=>h (i+1) (by simp;omega))]
theorem aMZ:∀{l:List (Oper × Kx)} {D D':Nat→Bool} {g:HF},(∀i,i<l.length→D i=D' i)→gS D l g=gS D' l g
 | [],_,_,_,_=>rfl
 |x::l,D,D',g,h=>by
  simp only[gS]
  rw[h 0 (by simp),aMZ (fun i hi=>h (i+1) (by simp;omega))]
theorem aKB:∀{l:List (Oper × Kx)} {D:Nat→Bool} {t:List AV},(∀i,D i=false)→tS D l t=t
 | [],_,_,_=>rfl
 |x::l,D,t,h=>by simp only[tS];rw[h 0];exact aKB (fun i=>h (i+1))
theorem aD6:∀{l:List (Oper × Kx)} {D:Nat→Bool} {g:HF},(∀i,D i=false)→gS D l g=g
 | [],_,_,_=>rfl
 |x::l,D,g,h=>by simp only[gS];rw[h 0];exact aD6 (fun i=>h (i+1))
theorem aOA(i:Nat):(fun n=>decide (n+1<i+1))=fun n=>decide (n<i):=by funext n;simp
theorem aFO.at{ops:List Oper}:∀{recs:List (Oper × Kx)} {s s':St},aFO O P ops recs s s'→∀i o d,recs[i]?=some (o,d)→
 ∃h:Aa,aE6 O P ops (tS (fun n=>decide (n<i)) recs s.tmps) (gS (fun n=>decide (n<i)) recs (hf s.h)) h.length o=some d∧gS (fun n=>decide (n<i)) recs (hf s.h)=hf h∧Gy h d.es∧s.h.length≤h.length∧h.length≤s'.h.length∧
  (∀b,Kz d.es b→b<s'.h.length)∧∀j o' d',j<i→recs[j]?=some (o',d')→∀b,Kz d'.es b→b<h.length
 |_,_,_,.nil s,i,o,d,h=>by simp at h
 |_,s,s',.cons (o:=o0) (d:=d0) (l:=l) h1 h2 h3,i,o,d,h=>by
  obtain⟨e1,e2,e3,e4⟩:=zA h2.ok
  have hlast:(Eh s.h d0.es).length≤s'.h.length:=by
   have aux:∀{recs:List (Oper × Kx)} {s s':St},aFO O P ops recs s s'→s.h.length≤s'.h.length:=fun hr=>by
    induction hr with
    |nil=>exact aEO _
    |cons _ k2 _ ih=>exact aLD (zA k2.ok).2.1 ih
   exact aux h3
  cases i with
  |zero=>
   simp at h
   obtain⟨rfl,rfl⟩:=h
   refine⟨s.h,?_,?_,h2,aEO _,aLD e2 hlast,fun b hb=>aRF (e3 b hb) hlast,fun j _ _ hj=>by omega⟩
   ·rw[aKB (fun i=>by simp),aD6 (fun i=>by simp)];exact h1
   ·rw[aD6 (fun i=>by simp)]
  |succ i=>
   simp at h
   obtain⟨hh,k1,k2,k3,k4,k5,k6,k7⟩:=aFO.at h3 i o d h
   simp only[tS,gS,aOA]
   simp only[Nat.zero_lt_succ,decide_true,if_true]
   rw[←e1]
   refine⟨hh,k1,k2,k3,aLD e2 k4,k5,k6,fun j o' d' hj hr b hb=>?_⟩
   cases j with
   |zero=>simp at hr;obtain⟨rfl,rfl⟩:=hr;exact aRF (e3 b hb) k4
   |succ j=>exact k7 j o' d' (by omega) (by simpa using hr) b hb
theorem Gy.trans{h:Aa}{es es':List As}(a:Gy h es)(b:Gy (Eh h es) es'):Gy h (es++es'):=by
 obtain⟨k1,k2,k3,k4⟩:=zA a.ok
 have ok:∀(es:List As) (h:Aa),aeZ h.length es→aeZ (Eh h es).length es'→aeZ h.length (es++es'):=by
  intro es
  induction es with
  |nil=>intro h _ q;exact q
  |cons e es ih=>
   intro h q1 q2
   cases e with
   |new b c=>
    obtain⟨r1,r2⟩:=q1
    exact⟨r1,by have:=ih (h++[c]) (by simpa using r2) q2;simpa using this⟩
   |put b c=>
    obtain⟨r1,r2⟩:=q1
    exact⟨r1,by have:=ih (h.set b c) (by simpa using r2) q2;simpa using this⟩
   |cells b r o vs=>
    obtain⟨r1,r2⟩:=q1
    have hl:(cM h (.cells b r o vs)).length=h.length:=by
     simp only[cM];split<;>simp
    exact⟨r1,by have:=ih (cM h (.cells b r o vs)) (by rw[hl];exact r2) q2;rw[hl]at this;exact this⟩
 have fa:∀(es:List As) (g:HF),Bt g (es++es')=Bt (Bt g es) es':=by
  intro es
  induction es with
  |nil=>intro g;rfl
  |cons e es ih=>intro g;exact ih _
 have eid:∀b,Kz (es++es') b↔Kz es b∨Kz es' b:=fun b=>by
  constructor
  ·rintro⟨e,he,Jb⟩
   rcases aM9.1 he with he|he
   ·exact .inl ⟨e,he,Jb⟩
   ·exact .inr ⟨e,he,Jb⟩
  ·rintro(⟨e,he,Jb⟩|⟨e,he,Jb⟩)
   ·exact⟨e,aQ7 _ he,Jb⟩
   ·exact⟨e,aLE _ he,Jb⟩
 refine⟨ok es h a.ok b.ok,fun x hx hlt=>?_,fun x hx=>?_⟩
 ·rw[fa,←k1]
  by_cases h1:Kz es x
  ·refine⟨(a.touched x h1 hlt).1,fun c hc=>?_⟩
   by_cases h2:Kz es' x
   ·exact(b.touched x h2 (k3 x h1)).2 c hc
   ·rw[b.untouched x h2,k1]at hc
    exact(a.touched x h1 hlt).2 c hc
  ·have h2:Kz es' x:=((eid x).1 hx).resolve_left h1
   obtain⟨q1,q2⟩:=b.touched x h2 (aRF hlt k2)
   rw[k1,a.untouched x h1]at q1
   exact⟨q1,q2⟩
 ·have h1:¬Kz es x:=fun e=>hx ((eid x).2 (.inl e))
  have h2:¬Kz es' x:=fun e=>hx ((eid x).2 (.inr e))
  rw[fa,←k1,b.untouched x h2,k1,a.untouched x h1]
def aiU(recs:List (Oper × Kx)):List As:=recs.flatMap (·.2.es)
theorem aVY{recs:List (Oper × Kx)}{b:Nat}:Kz (aiU recs) b↔∃(j:Nat) (o:Oper) (d:Kx),recs[j]?=some (o,d)∧Kz d.es b:=by
 unfold aiU
 constructor
 ·rintro⟨e,he,Jb⟩
  obtain⟨x,hx,he⟩:=aAM.1 he
  obtain⟨j,hj⟩:=List.mem_iff_getElem?.1 hx
  exact⟨j,x.1,x.2,hj,e,he,Jb⟩
 ·rintro⟨j,o,d,hj,e,he,Jb⟩
  exact⟨e,aAM.2 ⟨(o,d),aON hj,he⟩,Jb⟩
theorem aeN:∀{es es':List As} {g:Aa},Eh g (es++es')=Eh (Eh g es) es'
 | [],_,_=>rfl
 |e::es,_,_=>aeN (es:=es)
theorem aYI:∀{recs:List (Oper × Kx)} {g:HF},gS (fun _=>true) recs g=Bt g (aiU recs)
 | [],g=>rfl
 |x::l,g=>by
  simp only[gS,if_true,aiU,aLI]
  rw[fU]
  exact aYI
theorem aFO.last{ops:List Oper}{recs:List (Oper × Kx)}{s s':St}(h:aFO O P ops recs s s'):s'.tmps=tS (fun _=>true) recs s.tmps∧s'.h=Eh s.h (aiU recs)∧Gy s.h (aiU recs):=by
 induction h with
 |nil s=>exact⟨rfl,rfl,.nil _⟩
 | @cons o d l s s' h1 h2 h3 ih=>
   obtain⟨k1,k2,k3⟩:=ih
   refine⟨?_,?_,?_⟩
   ·simp only[tS,if_true];exact k1
   ·simp only[aiU,aLI];rw[aeN];exact k2
   ·simp only[aiU,aLI];exact h2.trans k3
theorem a3R(t:List AV)(d:Option Nat)(v:AV):(put t d v).length=t.length:=by cases d<;>simp[put,wB]
theorem ayN(t:List AV)(d:Option Nat)(v:AV)(x:Nat):Po (put t d v) x=if d=some x∧x<t.length then v else Po t x:=by
 cases d with
 |none=>simp[put]
 |some d=>
  simp only[put,atX,wB,aLF,aAN.injEq]
  by_cases h:d=x
  ·subst h
   by_cases h2:d<t.length
   ·simp[h2]
   ·simp[h2]
  ·simp[h]
theorem aLN{L:List Nat}:∀{l:List (Oper × Kx)} {D D':Nat→Bool} {t t':List AV},(∀j o d,l[j]?=some (o,d)→D j≠D' j→∀x,o.dst=some x→x∉L)→t.length=t'.length→(∀x∈L,Po t x=Po t' x)→
 ∀x∈L,Po (tS D l t) x=Po (tS D' l t') x
 | [],D,D',t,t',_,_,h=>h
 |y::l,D,D',t,t',hd,hl,h=>by
  simp only[tS]
  refine aLN (fun j o d hj hne=>hd (j+1) o d (by simpa using hj) hne) ?_ ?_
  ·split<;>split<;>simp[a3R,hl]
  ·intro x hx
   have h0:=hd 0 y.1 y.2 (by simp)
   cases e1:D 0<;>cases e2:D' 0
   ·simpa using h x hx
   ·simp only[aG6,if_false,if_true]
    rw[ayN,if_neg (fun q=>h0 (by simp[e1,e2]) x q.1 hx)]
    exact h x hx
   ·simp only[aG6,if_false,if_true]
    rw[ayN,if_neg (fun q=>h0 (by simp[e1,e2]) x q.1 hx)]
    exact h x hx
   ·simp only[if_true]
    rw[ayN,ayN,hl,h x hx]
theorem aL5{f:Ew}:∀{l:List (Oper × Kx)} {D D':Nat→Bool} {g g':HF},(∀j o d,l[j]?=some (o,d)→D j≠D' j→∀e∈d.es,e.foot.meets f=false)→Fo g g' f→Fo (gS D l g) (gS D' l g') f
 | [],D,D',g,g',_,h=>h
 |y::l,D,D',g,g',hd,h=>by
  simp only[gS]
  refine aL5 (fun j o d hj hne=>hd (j+1) o d (by simpa using hj) hne) ?_
  have h0:=hd 0 y.1 y.2 (by simp)
  cases e1:D 0<;>cases e2:D' 0
  ·simpa using h
  ·simp only[aG6,if_false,if_true]
   exact h.trans (Fo.edits _ (h0 (by simp[e1,e2])))
  ·simp only[aG6,if_false,if_true]
   exact(Fo.edits _ (h0 (by simp[e1,e2]))).symm.trans h
  ·simp only[if_true]
   exact Fo.boths h
theorem aWD(t:List AV){x y:Option Nat}(v u:AV)(h:∀d,x=some d→y≠some d):put (put t x v) y u=put (put t y u) x v:=by
 cases x with
 |none=>rfl
 |some a=>
  cases y with
  |none=>rfl
  |some b=>simp only[put,wB];exact List.set_comm _ _ (fun e=>h a rfl (by rw[e]))
theorem aO4{x:Option Nat}{v:AV}:∀{l:List (Oper × Kx)} {D:Nat→Bool} {t:List AV},(∀j o d,l[j]?=some (o,d)→D j=true→∀c,x=some c→o.dst≠some c)→tS D l (put t x v)=put (tS D l t) x v
 | [],D,t,_=>rfl
 |y::l,D,t,h=>by
  simp only[tS]
  cases e:D 0 with
  |true=>
   simp only[if_true]
   rw[aWD t v y.2.v (h 0 y.1 y.2 (by simp) e)]
   exact aO4 (fun j o d hj hD=>h (j+1) o d (by simpa using hj) hD)
  |false=>exact aO4 (fun j o d hj hD=>h (j+1) o d (by simpa using hj) hD)
theorem aZS{es:List As}:∀{l:List (Oper × Kx)} {D:Nat→Bool} {g:HF},(∀j o d,l[j]?=some (o,d)→D j=true→∀x∈es,∀y∈d.es,x.foot.meets y.foot=false)→gS D l (Bt g es)=Bt (gS D l g) es
 | [],D,g,_=>rfl
 |y::l,D,g,h=>by
  simp only[gS]
  cases e:D 0 with
  |true=>
   simp only[if_true]
   rw[aJF g (h 0 y.1 y.2 (by simp) e)]
   exact aZS (fun j o d hj hD=>h (j+1) o d (by simpa using hj) hD)
  |false=>exact aZS (fun j o d hj hD=>h (j+1) o d (by simpa using hj) hD)
theorem aI9:∀{l:List (Oper × Kx)} {D D':Nat→Bool} {t:List AV} {i:Nat} {o:Oper} {d:Kx},l[i]?=some (o,d)→D i=false→D' i=true→(∀j,j≠i→D' j=D j)→
 (∀j o' d',l[j]?=some (o',d')→i<j→D j=true→∀c,o.dst=some c→o'.dst≠some c)→tS D' l t=put (tS D l t) o.dst d.v
 | [],D,D',t,i,o,d,h,_,_,_,_=>by simp at h
 |y::l,D,D',t,i,o,d,h,h1,h2,h3,h4=>by
  cases i with
  |zero=>
   simp at h
   subst h
   simp only[tS,h1,h2,if_true,aG6,if_false]
   rw[show(fun n=>D' (n+1))=fun n=>D (n+1)from funext fun n=>h3 (n+1) (by omega)]
   exact aO4 (fun j o' d' hj hD=>h4 (j+1) o' d' (by simpa using hj) (by omega) hD)
  |succ i=>
   simp only[tS]
   rw[h3 0 (by omega)]
   exact aI9 (by simpa using h) h1 h2 (fun j hj=>h3 (j+1) (by omega)) (fun j o' d' hj hi hD=>h4 (j+1) o' d' (by simpa using hj) (by omega) hD)
theorem aJQ:∀{l:List (Oper × Kx)} {D D':Nat→Bool} {g:HF} {i:Nat} {o:Oper} {d:Kx},l[i]?=some (o,d)→D i=false→D' i=true→(∀j,j≠i→D' j=D j)→
 (∀j o' d',l[j]?=some (o',d')→i<j→D j=true→∀x∈d.es,∀y∈d'.es,x.foot.meets y.foot=false)→gS D' l g=Bt (gS D l g) d.es
 | [],D,D',g,i,o,d,h,_,_,_,_=>by simp at h
 |y::l,D,D',g,i,o,d,h,h1,h2,h3,h4=>by
  cases i with
  |zero=>
   simp at h
   subst h
   simp only[gS,h1,h2,if_true,aG6,if_false]
   rw[show(fun n=>D' (n+1))=fun n=>D (n+1)from funext fun n=>h3 (n+1) (by omega)]
   exact aZS (fun j o' d' hj hD=>h4 (j+1) o' d' (by simpa using hj) (by omega) hD)
  |succ i=>
   simp only[gS]
   rw[h3 0 (by omega)]
   exact aJQ (by simpa using h) h1 h2 (fun j hj=>h3 (j+1) (by omega)) (fun j o' d' hj hi hD=>h4 (j+1) o' d' (by simpa using hj) (by omega) hD)
theorem aQC{g:HF}{e:As}{b:Nat}(h:Dq g e b≠none):g b≠none∨e.id=b:=by
 rw[Uy]at h
 by_cases hb:b=e.id
 ·exact .inr hb.symm
 ·rw[if_neg hb]at h;exact .inl h
theorem aJM:∀{es:List As} {g:HF} {b:Nat},Bt g es b≠none→g b≠none∨Kz es b
 | [],g,b,h=>.inl h
 |e::es,g,b,h=>by
  rcases aJM (es:=es) h with h|⟨x,hx,Jb⟩
  ·rcases aQC h with h|h
   ·exact .inl h
   ·exact .inr ⟨e,aC6 ..,h⟩
  ·exact .inr ⟨x,aAP _ hx,Jb⟩
theorem aSL:∀{l:List (Oper × Kx)} {D:Nat→Bool} {g:HF} {b:Nat},gS D l g b≠none→g b≠none∨∃j o d,D j=true∧l[j]?=some (o,d)∧Kz d.es b
 | [],D,g,b,h=>.inl h
 |x::l,D,g,b,h=>by
  simp only[gS]at h
  rcases aSL h with h|⟨j,o,d,h1,h2,h3⟩
  ·cases e:D 0 with
   |true=>
    rw[e]at h
    simp only[if_true]at h
    rcases aJM h with h|h
    ·exact .inl h
    ·exact .inr ⟨0,x.1,x.2,e,by simp,h⟩
   |false=>rw[e]at h;exact .inl h
  ·exact .inr ⟨j+1,o,d,h1,by simpa using h2,h3⟩
end
end
noncomputable section
open Go.RowKit
section
variable {P:Program} {G:Nat→Option Obj} {O:Hz} {F:Fence} {nn:Nat}
theorem aWV(hF:WF F)(hO:Me P G O){ops:Array Oper}{i:Nat}{o:Oper}(ho:ops[i]?=some o){t:List AV}{g:HF}{base z:Nat}{d:Kx}{a:Act}{w:World}{S:Nat→Prop}(hI:qG G w S){ρ:Bq}
 (H:HR w S ρ g) (T:TR w S ρ t a.tmps) (hz:ρ z=.fresh) (hgf:∀b,g b≠none→ρ b≠.fresh) (hd:aE6 O P ops.toList t g base o=some d)
 (hmb:∀vs vs' cs m,Vw g [] vs=some (vs',cs,m)→(∀b∈m,Ew.blk b∈d.fs)→∀b∈m,b<base) (hall:Ew.all∈d.fs→∀b,base≤b→g b=none) (hnew:∀b c,As.new b c∈d.es→ρ b=.fresh)
 {Q:Exit→Act→World→Prop} {K:Act→World→Prop}
 (hK:∀cv w' S' ρ',VR w' S' ρ' d.v cv→HR w' S' ρ' (Bt g d.es)→Ix w w' S S' ρ ρ'→jI (Kz d.es) w w' ρ ρ'→lQ d.es ρ ρ'→K (a.put o.dst cv) w'):wpOpIn F nn P ops Q i K a w:=by
 have habout:∀f,o.about P w a.eval=some f→F.fn f:=fun f _=>hF.fn f
 unfold wpOpIn
 simp only[ho]
 unfold aE6 at hd
 split at hd
 ·simp at hd
 ·rename_i hw
  rw[lF T hw]
  simp only[aG6,if_false]
  simp at hd
  subst hd
  exact⟨habout,hK undef w S ρ iP H (Ix.refl _ _ _) jI.refl lQ.refl⟩
 ·rename_i hw
  rw[lF T hw]
  simp only[if_true]
  refine⟨habout,?_⟩
  cases hk:Kq o.op with
  |call c=>
   rw[hk]at hd
   simp only[acL]at hd
   obtain⟨⟨fc,args⟩,hcal,dc,hdc,hd⟩:=hd
   simp only at hdc
   have hop:o.op=.call c∧∀b,c.callee≠.builtin b:=by
    unfold Kq at hk
    split at hk<;>simp at hk
    rename_i c' hnb hop
    subst hk
    exact⟨hop,fun b e=>by obtain⟨cal,as,ts⟩:=c';simp at e;subst e;exact hnb b as ts rfl⟩
   obtain⟨hop,hnb⟩:=hop
   have hsem:o.semAt F.round a.eval=execOp a.eval o:=Oper.semAt_eq _ _ _ (fun c e=>by rw[hop]at e;cases e)
   rw[hsem]
   cases hout:dc.out with
   |pan v=>rw[hout]at hd;simp at hd
   |ret v0=>
    rw[hout]at hd
    simp at hd
    subst hd
    rcases avF hop T hcal with⟨f,car,rfl,hlr,hrn⟩|⟨car,l,rfl,hlr,⟨vs,b,rfl⟩,hrn⟩
    ·
     have hmb':∀vs1 vs' cs m,Da (Of 12 g) args=some vs1→Vw g [] vs1=some (vs',cs,m)→aaO O (vW f args) args→∀b∈m,b<base:=fun vs1 vs' cs m h1 h2 h3=>by
      refine hmb vs1 vs' cs m h2 (fun b hb=>?_)
      have hdc':=hdc
      obtain⟨n3,_,h3⟩:=h3.eq
      rw[h3]at hdc'
      unfold Gg at hdc'
      simp only[acL]at hdc'
      obtain⟨vs2,r1,⟨vs3,cs3,m3⟩,r2,r3⟩:=hdc'
      rw[h1]at r1;cases r1
      rw[h2]at r2;cases r2
      simp only at r3
      split at r3
      ·simp at r3
      ·obtain⟨⟨out,h'⟩,_,r4⟩:=acL.1 r3
       show Ew.blk b∈dc.fs
       rw[aHW r4]
       exact aKM.2 ⟨b,aLE _ hb,rfl⟩
     obtain⟨henter,hcalls⟩:=aFW hO hI H hz hgf (aF2 _ _) hlr hmb' hdc hall hnew
     rw[hrn (henter _ _)]
     refine⟨fun hdp=>by rw[hF.depth]at hdp;simp at hdp,hF.calls (hcalls.mono fun e w' ⟨cv,S',ρ',he,hv,hHR,hsim,hloc,hfrs⟩=>?_)⟩
     cases e with
     |returned v=>
      obtain⟨⟨x,hx⟩,rfl⟩:=he
      rw[hout]at hv
      exact hK _ w' S' ρ' hv hHR hsim hloc hfrs
     |panicked ch=>
      obtain⟨⟨x,hx⟩,rfl⟩:=he
      rw[hout]at hx;cases hx
     |outgrown=>exact he.elim
    ·
     obtain⟨fn,tmps,asg,body,hy,hround⟩:=aDG hO hI H hz hgf hlr hdc hall hnew
     rw[hrn _ hy]
     refine⟨fun hdp=>by rw[hF.depth]at hdp;simp at hdp,(hround F _ hF).mono fun e w' ⟨cv,S',ρ',he,hv,hHR,hsim,hloc,hfrs⟩=>?_⟩
     cases e with
     |returned v=>
      obtain⟨⟨x,hx⟩,rfl⟩:=he
      rw[hout]at hv
      exact hK _ w' S' ρ' hv hHR hsim hloc hfrs
     |panicked ch=>
      obtain⟨⟨x,hx⟩,rfl⟩:=he
      rw[hout]at hx;cases hx
     |outgrown=>exact he.elim
  |panic x=>rw[hk]at hd;simp at hd
  |other=>
   rw[hk]at hd
   simp only at hd
   have hsem:o.semAt F.round a.eval=execOp a.eval o:=Oper.semAt_eq _ _ _ (awV hd)
   rw[hsem]
   have hex:∃base',ρ base'=.fresh∧exec P g base' t o.op=some d:=by
    obtain⟨b1,b2⟩:=aTH hd
    by_cases hn:∃b c,As.new b c∈d.es
    ·obtain⟨b,c,hbc⟩:=hn
     have:=b1 b c hbc
     subst this
     exact⟨b,hnew b c hbc,hd⟩
    ·exact⟨z,hz,b2 (fun b c hbc=>hn ⟨b,c,hbc⟩) z⟩
   obtain⟨base',hb',hd'⟩:=hex
   obtain⟨cv,w',ρ',hran,hv,hHR,hsim,hloc,hfrs⟩:=aGR H hb' T hd'
   rcases hran with hran|⟨hran,rfl⟩
   ·rw[hran];exact hK cv w' S ρ' hv hHR hsim hloc hfrs
   ·rw[hran];exact hK _ w' S ρ' hv hHR hsim hloc hfrs
theorem aNV{ops:List Oper}{o:Oper}{t t':List AV}(h:∀x∈ax7 ops o,Po t x=Po t' x):∀x∈o.op.operands.toList,Ar t x=Ar t' x:=fun x hx=>by
 cases x with
 |tmp y=>
  simp only[Ar]
  rw[h y (aQ7 _ (a1H.2 ⟨_,hx,rfl⟩))]
 |_=>rfl
theorem aHP{ops:List Oper}{o:Oper}{t t':List AV}(h:∀x∈ax7 ops o,Po t x=Po t' x):Jn ops t o=Jn ops t' o:=by
 unfold Jn
 cases hg:o.guard with
 |none=>rfl
 |some jw=>
  obtain⟨j,want⟩:=jw
  simp only
  cases hd:(ops[j]?).bind (·.dst)with
  |none=>rfl
  |some y=>
   simp only
   rw[h y (aLE _ (by rw[hg];simp[hd]))]
theorem aW0{ops:List Oper}{o:Oper}{t t':List AV}{g g':HF}{base:Nat}{d:Kx}(h:aE6 O P ops t g base o=some d)(ht:∀x∈ax7 ops o,Po t x=Po t' x)(ha:∀f∈d.fs,Fo g g' f):aE6 O P ops t' g' base o=some d:=by
 unfold aE6 at h ⊢
 rw[←aHP ht]
 split at h
 ·simp at h
 ·exact h
 ·have hev:=aNV ht
  cases hk:Kq o.op with
  |call c=>
   rw[hk]at h
   simp only[acL]at h ⊢
   obtain⟨⟨fc,args⟩,hcal,dc,hdc,hd⟩:=h
   have hop:o.op=.call c:=by
    unfold Kq at hk
    split at hk<;>simp at hk
    rename_i c' hnb hop
    subst hk
    exact hop
   refine⟨(fc,args),?_,dc,?_,hd⟩
   ·rw[←aNC (fun x hx=>hev x (by rw[hop];exact hx))];exact hcal
   ·refine(aUZ hdc fun f hf=>ha f ?_).1
    cases hout:dc.out with
    |ret v=>rw[hout]at hd;simp at hd;subst hd;exact hf
    |pan v=>rw[hout]at hd;simp at hd
  |panic x=>rw[hk]at h;simp at h
  |other=>
   rw[hk]at h
   simp only at h ⊢
   rw[←aVA hev]
   exact a1C h ha
theorem ayH{acc:Array Nat}{i:Nat}:∀{l:List Edge} {s:Nat},(l.foldl (fun s e=>if Region.binds .any e then s|||2 ^ e.on|||acc.getD e.on 0 else s) s).testBit i=true→
 s.testBit i=true∨∃e∈l,Region.binds .any e=true∧(e.on=i∨(acc.getD e.on 0).testBit i=true)
 | [],s,h=>.inl h
 |e::l,s,h=>by
  rcases ayH (l:=l) h with h|⟨e',he,k1,k2⟩
  ·simp only at h
   by_cases hb:Region.binds .any e=true
   ·rw[if_pos hb,Nat.testBit_or,Nat.testBit_or,Nat.testBit_two_pow]at h
    simp only[Bool.or_eq_true,decide_eq_true_eq]at h
    rcases h with(h|h)|h
    ·exact .inl h
    ·exact .inr ⟨e,aC6 ..,hb,.inl h⟩
    ·exact .inr ⟨e,aC6 ..,hb,.inr h⟩
   ·rw[if_neg hb]at h;exact .inl h
  ·exact .inr ⟨e',aAP _ he,k1,k2⟩
def Oe(acc:Array Nat)(o:Oper):Array Nat:=acc.push (o.after.foldl (fun s e=>if Region.binds .any e then s|||2 ^ e.on|||acc.getD e.on 0 else s) 0)
theorem aCH(l:List Oper):∀(A:Array Nat) (pre:List Oper),A.size=pre.length→
 (∀j i,(A.getD j 0).testBit i=true→∃o e,pre[j]?=some o∧e∈o.after.toList∧Region.binds .any e=true∧(e.on=i∨(e.on<j∧(A.getD e.on 0).testBit i=true)))→
 ∀j i,((l.foldl Oe A).getD j 0).testBit i=true→∃o e,(pre++l)[j]?=some o∧e∈o.after.toList∧Region.binds .any e=true∧(e.on=i∨(e.on<j∧((l.foldl Oe A).getD e.on 0).testBit i=true)):=by
 induction l with
 |nil=>intro A pre _ h j i hj;simpa using h j i hj
 |cons o l ih=>
  intro A pre hA h j i hj
  have:=ih (Oe A o) (pre++[o]) (by simp[Oe,hA]) (fun j i hj=>?_) j i hj
  ·simpa using this
  ·have hpush:∀n,n<A.size→(Oe A o).getD n 0=A.getD n 0:=fun n hn=>by
    simp only[Oe,aC7,Array.getElem?_push]
    rw[if_neg (by omega)]
   rcases aRG j A.size with hlt|heq|hgt
   ·rw[hpush j hlt]at hj
    obtain⟨o',e,k1,k2,k3,k4⟩:=h j i hj
    refine⟨o',e,?_,k2,k3,?_⟩
    ·rw[List.getElem?_append_left (by omega)];exact k1
    ·rcases k4 with k4|⟨k4,k5⟩
     ·exact .inl k4
     ·exact .inr ⟨k4,by rw[hpush _ (by omega)];exact k5⟩
   ·subst heq
    have hv:(Oe A o).getD A.size 0=o.after.foldl (fun s e=>if Region.binds .any e then s|||2 ^ e.on|||A.getD e.on 0 else s) 0:=by
     simp[Oe,aC7]
    rw[hv,←aR1]at hj
    rcases ayH hj with hz|⟨e,k1,k2,k3⟩
    ·simp at hz
    ·refine⟨o,e,by rw[hA];simp,k1,k2,?_⟩
     rcases k3 with k3|k3
     ·exact .inl k3
     ·have hlt:e.on<A.size:=by
       rcases aOZ e.on A.size with q|q
       ·exact q
       ·rw[aC7,a1J q]at k3;simp at k3
      exact .inr ⟨hlt,by rw[hpush _ hlt];exact k3⟩
   ·rw[aC7,a1J (by simp[Oe];omega)]at hj
    simp at hj
theorem aLM{ops:Array Oper}{j i:Nat}(h:((Region.before ops).getD j 0).testBit i=true):
 ∃o e,ops[j]?=some o∧e∈o.after.toList∧Region.binds .any e=true∧(e.on=i∨(e.on<j∧((Region.before ops).getD e.on 0).testBit i=true)):=by
 have hb:Region.before ops=ops.toList.foldl Oe #[]:=by unfold Region.before;rw[←aR1];rfl
 rw[hb]at h ⊢
 have:=aCH ops.toList #[] [] rfl (fun j i hj=>by simp at hj) j i h
 simpa using this
theorem alW{ops:Array Oper}{D:Nat→Bool}(hc:∀(j:Nat) (o:Oper),ops[j]?=some o→D j=true→∀e∈o.after.toList,Region.binds .any e=true→D e.on=true):∀(j i:Nat),D j=true→((Region.before ops).getD j 0).testBit i=true→D i=true:=by
 intro j
 induction j using aPH with
 |_ j ih=>
  intro i hj h
  obtain⟨o,e,k1,k2,k3,k4⟩:=aLM h
  have he:=hc j o k1 hj e k2 k3
  rcases k4 with k4|⟨k4,k5⟩
  ·rw[←k4];exact he
  ·exact ih e.on k4 i he k5
theorem aUK{ops:Array Oper}{i j:Nat}(hij:i<j)(hj:j<ops.size)(h:((Region.before ops).getD j 0).testBit i=false):(i,j)∈aC3 ops.toList:=by
 unfold aC3
 simp only[aAM,aHJ,a1H,Array.toArray_toList]
 exact⟨j,by simpa using hj,i,hij,by rw[h];simp⟩
end
end
noncomputable section
open Go.RowKit
section
variable {P:Program} {G:Nat→Option Obj} {O:Hz} {F:Fence} {nn:Nat}
def InD(D:Nat→Bool)(recs:List (Oper × Kx))(b:Nat):Prop:=∃(j:Nat) (o:Oper) (d:Kx),D j=true∧recs[j]?=some (o,d)∧Kz d.es b
structure DI(s:St)(recs:List (Oper × Kx))(a0:Act)(w0:World)(S0:Nat→Prop)(ρ0:Bq)(D:Nat→Bool)(a:Act)(w:World)(S:Nat→Prop)(ρ:Bq):Prop where
 hr:HR w S ρ (gS D recs (hf s.h))
 tr:TR w S ρ (tS D recs s.tmps) a.tmps
 sim:Ix w0 w S0 S ρ0 ρ
 loc:jI (InD D recs) w0 w ρ0 ρ
 frs:∀b,ρ b=.fresh↔(ρ0 b=.fresh∧¬InD D recs b)
 defers:a.defers=a0.defers
theorem acD{x y:List As × List Ew}(h:Xt x y=false):(∀e∈x.1,∀e'∈y.1,e.foot.meets e'.foot=false)∧(∀e∈x.1,∀f∈y.2,e.foot.meets f=false)∧(∀e∈y.1,∀f∈x.2,e.foot.meets f=false):=by
 unfold Xt at h
 simp only[Bool.or_eq_false_iff,aOD,aKM,aM9]at h
 obtain⟨h1,h2⟩:=h
 refine⟨fun e he e' he'=>?_,fun e he f hf=>?_,fun e he f hf=>?_⟩
 ·have:=h1 e.foot ⟨e,he,rfl⟩
  simp only[aR5,aOD,aM9,aKM]at this
  exact this e'.foot (.inl ⟨e',he',rfl⟩)
 ·have:=h1 e.foot ⟨e,he,rfl⟩
  simp only[aR5,aOD,aM9,aKM]at this
  exact this f (.inr hf)
 ·have:=h2 e.foot ⟨e,he,rfl⟩
  simp only[aR5,aOD]at this
  exact this f hf
theorem afO{ops:List Oper}{x y:Oper}(h:aBP ops x y=true):(∀d,x.dst=some d→d∉ax7 ops y∧y.dst≠some d)∧(∀d,y.dst=some d→d∉ax7 ops x):=by
 unfold aBP at h
 rw[aLG]at h
 obtain⟨h1,h2⟩:=h
 refine⟨fun d hd=>?_,fun d hd=>?_⟩
 ·rw[hd]at h1;simpa using h1
 ·rw[hd]at h2;simpa using h2
theorem aPV{b:Nat}{c:CB}{e:As}(h:e.id=b):(As.new b c).foot.meets e.foot=true:=by
 cases e<;>simp[As.id]at h<;>subst h<;>simp[As.foot,Ew.meets]
theorem aHX{l:Array Bool}{i:Nat}(h:l.getD i true=false):i<l.size∧l.getD i false=false:=by
 rw[aC7]at h ⊢
 cases e:l[i]? with
 |none=>rw[e]at h;simp at h
 |some b=>rw[e]at h;simp at h;subst h;exact⟨(aCF.1 e).1,rfl⟩
theorem aXX{l:List Nat}{p q:Nat→Bool}(hq:∀x,q x=true→p x=true){i:Nat}(hi:i∈l)(h1:p i=true)(h2:q i=false):(l.filter q).length<(l.filter p).length:=by
 induction l with
 |nil=>simp at hi
 |cons x l ih=>
  have hle:(l.filter q).length≤(l.filter p).length:=by
   clear ih hi
   induction l with
   |nil=>simp
   |cons y l ih=>
    cases e1:q y with
    |true=>rw[aHM e1,aHM (hq y e1)];simpa using ih
    |false=>
     rw[aLH (by simp[e1])]
     cases e2:p y with
     |true=>rw[aHM e2];simp only[aID];omega
     |false=>rw[aLH (by simp[e2])];exact ih
  rcases aIC.1 hi with rfl|hi
  ·rw[aHM h1,aLH (by simp[h2])];simp only[aID];omega
  ·have:=ih hi
   cases e1:q x with
   |true=>rw[aHM e1,aHM (hq x e1)];simp only[aID];omega
   |false=>
    rw[aLH (by simp[e1])]
    cases e2:p x with
    |true=>rw[aHM e2];simp only[aID];omega
    |false=>rw[aLH (by simp[e2])];exact this
theorem aNQ(hm:P.follows .mixedOrders=true)(hO:Me P G O):ay5 P G O:=by
 intro ops B k r s a0 w0 S0 ρ0 id F nn hF hst hev hI hs
 obtain⟨recs,s',hruns,hmap,hk⟩:=aG1 hev
 simp only[List.nil_append]at hk
 have hdk:It ops.toList (recs.map fun x=>(x.2.es,x.2.fs))=true∧k s' (recs.map fun x=>(x.2.es,x.2.fs))=some r:=by
  unfold Oh at hk
  cases e:It ops.toList (recs.map fun x=>(x.2.es,x.2.fs))with
  |true=>rw[e]at hk;exact⟨rfl,hk⟩
  |false=>rw[e]at hk;simp at hk
 obtain⟨hdyn,hk⟩:=hdk
 have hlen:recs.length=ops.size:=by have:=congrArg List.length hmap;simpa using this
 have hget:∀(i:Nat) o d,recs[i]?=some (o,d)→ops[i]?=some o:=fun i o d h=>by
  have:(recs.map (·.1))[i]?=some o:=by rw[a1K,h];rfl
  rw[hmap]at this;simpa using this
 unfold dL at hst
 rw[aLG]at hst
 obtain⟨hedge,hap⟩:=hst
 have pair:∀(i j:Nat) x y,i<j→recs[i]?=some x→recs[j]?=some y→((Region.before ops).getD j 0).testBit i=false→aBP ops.toList x.1 y.1=true∧Xt (x.2.es,x.2.fs) (y.2.es,y.2.fs)=false:=fun i j x y hij hi hj hb=>by
  have hjl:j<ops.size:=by rw[←hlen];exact(aAO.1 hj).1
  have hmem:=aUK hij hjl hb
  refine⟨?_,?_⟩
  ·have:=aR6.1 hap _ hmem
   have e1:=hget i x.1 x.2 hi
   have e2:=hget j y.1 y.2 hj
   simp only[aPA,e1,e2]at this
   exact this
  ·have:=aR6.1 hdyn _ hmem
   simp only[a1K,hi,hj,aSU]at this
   simpa using this
 have FF:=hs.1
 have step:∀(D:Nat→Bool) (i:Nat) (o:Oper) (d:Kx),recs[i]?=some (o,d)→D i=false→
  (∀(j:Nat) (o:Oper),ops[j]?=some o→(D j=true∨j=i)→∀e∈o.after.toList,Region.binds .any e=true→D e.on=true)→
  ∀a w S ρ,DI s recs a0 w0 S0 ρ0 D a w S ρ→∀(Q:Exit→Act→World→Prop) (K:Act→World→Prop) (D':Nat→Bool),D' i=true→(∀j,j≠i→D' j=D j)→
  (∀a' w' S' ρ',DI s recs a0 w0 S0 ρ0 D' a' w' S' ρ'→K a' w')→wpOpIn F nn P ops Q i K a w:=by
  intro D i o d hi hDi hcl a w S ρ hDI Q K D' hD'i hD' hK
  obtain⟨h,t1,t2,t3,t4,t5,t6,t7⟩:=hruns.at i o d hi
  have hil:i<ops.size:=by rw[←hlen];exact(aAO.1 hi).1
  have hclD:∀(j:Nat) (o:Oper),ops[j]?=some o→D j=true→∀e∈o.after.toList,Region.binds .any e=true→D e.on=true:=fun j o hj hd=>hcl j o hj (.inl hd)
  have hclD':∀(j:Nat) (o:Oper),ops[j]?=some o→D' j=true→∀e∈o.after.toList,Region.binds .any e=true→D' e.on=true:=fun j o hj hd e he hb=>by
   have hD:D e.on=true:=by
    by_cases hji:j=i
    ·exact hcl j o hj (.inr hji) e he hb
    ·exact hcl j o hj (.inl (by rw[←hD' j hji];exact hd)) e he hb
   have hne:e.on≠i:=fun q=>by rw[q,hDi]at hD;cases hD
   rw[hD' _ hne];exact hD
  have later:∀j o' d',recs[j]?=some (o',d')→i<j→D j=true→aBP ops.toList o o'=true∧Xt (d.es,d.fs) (d'.es,d'.fs)=false:=fun j o' d' hj hij hDj=>by
   refine pair i j (o,d) (o',d') hij hi hj ?_
   cases hb:((Region.before ops).getD j 0).testBit i with
   |false=>rfl
   |true=>have:=alW hclD j i hDj hb;rw[hDi]at this;cases this
  have earlier:∀j o' d',recs[j]?=some (o',d')→j<i→D j=false→aBP ops.toList o' o=true∧Xt (d'.es,d'.fs) (d.es,d.fs)=false:=fun j o' d' hj hij hDj=>by
   refine pair j i (o',d') (o,d) hij hj hi ?_
   cases hb:((Region.before ops).getD i 0).testBit j with
   |false=>rfl
   |true=>
    have:=alW hclD' i j hD'i hb
    rw[hD' j (by omega),hDj]at this;cases this
  have hdiff:∀j o' d',recs[j]?=some (o',d')→decide (j<i)≠D j→(∀x,o'.dst=some x→x∉ax7 ops.toList o)∧∀e∈d'.es,∀f∈d.fs,e.foot.meets f=false:=fun j o' d' hj hne=>by
   by_cases hji:j<i
   ·have hDj:D j=false:=by
     cases e:D j with
     |false=>rfl
     |true=>rw[e]at hne;simp[hji]at hne
    obtain⟨q1,q2⟩:=earlier j o' d' hj hji hDj
    exact⟨fun x hx=>((afO q1).1 x hx).1,fun e he f hf=>(acD q2).2.1 e he f hf⟩
   ·have hDj:D j=true:=by
     cases e:D j with
     |true=>rfl
     |false=>rw[e]at hne;simp[hji]at hne
    have hij:i<j:=by
     rcases aRG i j with q|q|q
     ·exact q
     ·subst q;rw[hDi]at hDj;cases hDj
     ·omega
    obtain⟨q1,q2⟩:=later j o' d' hj hij hDj
    exact⟨fun x hx=>(afO q1).2 x hx,fun e he f hf=>(acD q2).2.2 e he f hf⟩
  have hta:∀x∈ax7 ops.toList o,Po (tS (fun n=>decide (n<i)) recs s.tmps) x=Po (tS D recs s.tmps) x:=
   aLN (fun j o' d' hj hne=>(hdiff j o' d' hj hne).1) rfl (fun _ _=>rfl)
  have hga:∀f∈d.fs,Fo (gS (fun n=>decide (n<i)) recs (hf s.h)) (gS D recs (hf s.h)) f:=fun f hf=>
   aL5 (fun j o' d' hj hne e he=>(hdiff j o' d' hj hne).2 e he f hf) (Fo.refl _ _)
  have hd:=aW0 t1 hta hga
  have hfresh:∀b c,As.new b c∈d.es→ρ b=.fresh:=fun b c hb=>by
   have hbl:=xH t3.ok b c hb
   refine(hDI.frs b).2 ⟨FF.dom b (aLD t4 hbl),fun⟨j,o',d',hDj,hj,hE⟩=>?_⟩
   rcases aRG i j with q|q|q
   ·obtain⟨e,he,Jb⟩:=hE
    have:=(acD (later j o' d' hj q hDj).2).1 _ hb e he
    rw[aPV Jb]at this;cases this
   ·subst q;rw[hDi]at hDj;cases hDj
   ·have:=t7 j o' d' q hj b hE;omega
  have hz:ρ s'.h.length=.fresh:=(hDI.frs _).2 ⟨FF.dom _ (aLD t4 t5),fun⟨j,o',d',hDj,hj,hE⟩=>by
   obtain⟨_,_,_,_,_,_,u6,_⟩:=hruns.at j o' d' hj
   have:=u6 _ hE;omega⟩
  have hgf:∀b,gS D recs (hf s.h) b≠none→ρ b≠.fresh:=fun b hb hfr=>by
   obtain⟨f1,f2⟩:=(hDI.frs b).1 hfr
   rcases aSL hb with q|q
   ·have hlt:b<s.h.length:=by
     cases e:hf s.h b with
     |none=>exact(q e).elim
     |some c=>exact Ue e
    exact FF.all b hlt f1
   ·exact f2 q
  refine aWV hF hO (hget i o d hi) (hI.sim (FF.sim.trans hDI.sim)) hDI.hr hDI.tr hz hgf hd ?_ (fun hm b hb=>by
   have e:gS D recs (hf s.h)=gS (fun n=>decide (n<i)) recs (hf s.h):=hga .all hm
   rw[e,t2];exact aJ8 hb) hfresh ?_
  ·intro vs vs' cs m hp hblk b hb
   have:=aMU (g:=gS D recs (hf s.h)) (g':=gS (fun n=>decide (n<i)) recs (hf s.h)) hp (fun b' hb'=>(hga (.blk b') (hblk b' hb')).symm)
   rw[t2]at this
   exact aRW this b hb
  ·intro cv w' S' ρ' hv hHR hsim hloc hfrs
   have ht:tS D' recs s.tmps=put (tS D recs s.tmps) o.dst d.v:=aI9 hi hDi hD'i hD' (fun j o' d' hj hij hDj c hc=>((afO (later j o' d' hj hij hDj).1).1 c hc).2)
   have hg:gS D' recs (hf s.h)=Bt (gS D recs (hf s.h)) d.es:=aJQ hi hDi hD'i hD' (fun j o' d' hj hij hDj=>(acD (later j o' d' hj hij hDj).2).1)
   have hin:∀b,InD D' recs b↔InD D recs b∨Kz d.es b:=fun b=>by
    constructor
    ·rintro⟨j,o',d',q1,q2,q3⟩
     by_cases hji:j=i
     ·subst hji;rw[hi]at q2;cases q2;exact .inr q3
     ·exact .inl ⟨j,o',d',by rw[←hD' j hji];exact q1,q2,q3⟩
    ·rintro(⟨j,o',d',q1,q2,q3⟩|q)
     ·by_cases hji:j=i
      ·subst hji;rw[hDi]at q1;cases q1
      ·exact⟨j,o',d',by rw[hD' j hji];exact q1,q2,q3⟩
     ·exact⟨i,o,d,hD'i,hi,q⟩
   refine hK _ w' S' ρ' ⟨?_,?_,hDI.sim.trans hsim,?_,fun b=>?_,by rw[aFC];exact hDI.defers⟩
   ·rw[hg];exact hHR
   ·rw[ht];exact aJR (LR.sim hsim hDI.tr) o.dst hv
   ·exact(hDI.loc.trans hloc).mono (fun b hb=>(hin b).2 hb)
   ·rw[hfrs b,hDI.frs b,hin b]
    constructor
    ·rintro⟨⟨q1,q2⟩,q3⟩;exact⟨q1,fun q=>q.elim q2 q3⟩
    ·rintro⟨q1,q2⟩;exact⟨⟨q1,fun q=>q2 (.inl q)⟩,fun q=>q2 (.inr q)⟩
 have fin:∀(D:Nat→Bool) a w S ρ,(∀i,i<ops.size→D i=true)→DI s recs a0 w0 S0 ρ0 D a w S ρ→OQ B k (fun _ _=>none) r .normal a w:=by
  intro D a w S ρ hall hDI
  obtain⟨l1,l2,l3⟩:=hruns.last
  have hgA:gS D recs (hf s.h)=Bt (hf s.h) (aiU recs):=by
   rw[←aYI];exact aMZ (fun i hi=>hall i (by omega))
  have htA:tS D recs s.tmps=s'.tmps:=by rw[l1];exact aN2 (fun i hi=>hall i (by omega))
  have hinA:∀b,InD D recs b↔Kz (aiU recs) b:=fun b=>by
   rw[aVY]
   constructor
   ·rintro⟨j,o,d,_,h1,h2⟩;exact⟨j,o,d,h1,h2⟩
   ·rintro⟨j,o,d,h1,h2⟩;exact⟨j,o,d,hall j (by rw[←hlen];exact(aAO.1 h1).1),h1,h2⟩
  have hFI:=FF.step l3 (by rw[←hgA];exact hDI.hr) hDI.sim (hDI.loc.mono fun b hb=>(hinA b).1 hb) (fun b=>by rw[hDI.frs b,hinA b])
  rw[←l2]at hFI
  refine⟨s',recs.map fun x=>(x.2.es,x.2.fs),S,ρ,hk,hFI,?_,?_,?_⟩
  ·rw[←htA];exact hDI.tr
  ·rw[hDI.defers];exact hs.2.2.1.later hs.1.hr hDI.sim
  ·rw[hDI.defers]
   refine⟨hs.2.2.2.1,fun l hl=>?_⟩
   obtain⟨r,hr⟩:=hs.2.2.2.2 l hl
   obtain⟨st,pe,k⟩:=hDI.sim.loops l r hr
   exact⟨_,k⟩
 have main:∀fuel (listed:Array Bool) a w S ρ,listed.size=ops.size→((aSY ops.size).filter fun i=> !listed.getD i false).length≤fuel→
  (∀(j:Nat) (o:Oper),ops[j]?=some o→listed.getD j false=true→∀e∈o.after.toList,Region.binds .any e=true→listed.getD e.on false=true)→
  DI s recs a0 w0 S0 ρ0 (fun i=>listed.getD i false) a w S ρ→wpAnyIn F nn P .any ops (OQ B k (fun _ _=>none) r) fuel listed a w:=by
  intro fuel
  induction fuel with
  |zero=>
   intro listed a w S ρ hsz hcnt hcl hDI
   have hall:∀i,i<ops.size→listed.getD i false=true:=fun i hi=>by
    cases e:listed.getD i false with
    |true=>rfl
    |false=>
     have:i∈(aSY ops.size).filter fun i=> !listed.getD i false:=aS0.2 ⟨aHJ.2 hi,by simp only[e];rfl⟩
     rw[List.length_eq_zero_iff.1 (Nat.le_zero.1 hcnt)]at this;simp at this
   refine⟨?_,fin _ a w S ρ hall hDI⟩
   unfold Region.ready
   rw[List.filter_eq_nil_iff]
   intro i hi hr
   rw[aLG]at hr
   have h1:=(aHX (l:=listed) (i:=i) (by simpa using hr.1)).2
   rw[hall i (aHJ.1 hi)]at h1;cases h1
  |succ fuel ih=>
   intro listed a w S ρ hsz hcnt hcl hDI
   refine⟨fun hnil=>fin _ a w S ρ (fun i hi=>?_) hDI,fun i hi=>?_⟩
   ·
    induction i using aPH with
    |_ i ihi=>
     cases e:listed.getD i false with
     |true=>rfl
     |false=>
      have hmem:i∈Region.ready .any ops listed:=by
       unfold Region.ready
       refine aS0.2 ⟨aHJ.2 hi,?_⟩
       rw[aLG]
       refine⟨?_,?_⟩
       ·have hlt:i<listed.size:=by omega
        rw[aC7,a1L hlt]at e ⊢
        simp at e ⊢;exact e
       ·have ho:ops[i]?=some ops[i]:=a1L hi
        rw[ho]
        simp only[aSU,a1M,aTE]
        intro ed hed
        have hE:=aR6.1 hedge i (aHJ.2 (by simpa using hi))
        simp only[aPA,ho,aTE]at hE
        have:=hE ed hed
        cases hb:Region.binds .any ed with
        |false=>rfl
        |true=>
         rw[hb]at this
         simp at this
         simp only[Bool.not_true,Bool.false_or]
         exact ihi ed.on this (by omega)
      rw[hnil]at hmem;simp at hmem
   ·have hi':=hi
    unfold Region.ready at hi'
    obtain⟨hir,hrd⟩:=aS0.1 hi'
    rw[aLG]at hrd
    have hir:=aHJ.1 hir
    obtain⟨g1,g2⟩:=aHX (l:=listed) (i:=i) (by simpa using hrd.1)
    have hrec:∃o d,recs[i]?=some (o,d):=⟨_,_,acZ (by omega:i<recs.length)⟩
    obtain⟨o,d,hrec⟩:=hrec
    have ho:=hget i o d hrec
    have hafter:∀e∈o.after.toList,Region.binds .any e=true→listed.getD e.on false=true:=fun e he hb=>by
     have:=hrd.2
     rw[ho]at this
     simp only[aSU,a1M,aTE]at this
     have:=this e (by simpa using he)
     rw[hb]at this
     simpa using this
    have hset:∀j,j≠i→(listed.setIfInBounds i true).getD j false=listed.getD j false:=fun j hj=>getD_set_ne false (Ne.symm hj)
    have hseti:(listed.setIfInBounds i true).getD i false=true:=by
     rw[aC7,Array.getElem?_setIfInBounds_self_of_lt g1];rfl
    refine step (fun i=>listed.getD i false) i o d hrec g2 ?_ a w S ρ hDI _ _ (fun j=>(listed.setIfInBounds i true).getD j false) hseti hset ?_
    ·intro j o' hj hor e he hb
     rcases hor with hor|rfl
     ·exact hcl j o' hj hor e he hb
     ·rw[ho]at hj;cases hj;exact hafter e he hb
    ·intro a' w' S' ρ' hDI'
     refine ih (listed.setIfInBounds i true) a' w' S' ρ' (by simpa using hsz) ?_ ?_ hDI'
     ·have:=aXX (l:=aSY ops.size) (p:=fun i=> !listed.getD i false) (q:=fun j=> !(listed.setIfInBounds i true).getD j false) (fun x hx=>by
       by_cases hxi:x=i
       ·subst hxi;rw[hseti]at hx;simp at hx
       ·rw[hset x hxi]at hx;exact hx) (aHJ.2 hir) (by rw[g2];rfl) (by rw[hseti];rfl)
      omega
     ·intro j o' hj hor e he hb
      have hD:listed.getD e.on false=true:=by
       by_cases hji:j=i
       ·subst hji;rw[ho]at hj;cases hj;exact hafter e he hb
       ·exact hcl j o' hj (by rw[←hset j hji];exact hor) e he hb
      exact getD_set_true hD
 refine wpIn_region_any hm (main ops.size (aER ops.size false) a0 w0.drew S0 ρ0 (by simp) ?_ ?_ ?_)
 ·exact aLD (List.length_filter_le _ _) (by simp)
 ·intro j o _ hj
  rw[aC7,a1N]at hj
  split at hj<;>simp at hj
 ·have hno:∀i,(aER ops.size false).getD i false=false:=fun i=>by
   rw[aC7,a1N]
   split<;>rfl
  have hnoD:∀b,¬InD (fun i=>(aER ops.size false).getD i false) recs b:=fun b ⟨j,_,_,q,_⟩=>by have h0:=hno j;simp only[h0]at q;cases q
  refine⟨?_,?_,Ix.drew _ _ _,fun b cb co st sz h _=>⟨h,rfl⟩,fun b=>⟨fun h=>⟨h,hnoD b⟩,fun h=>h.1⟩,rfl⟩
  ·rw[aD6 hno];exact FF.hr.drew
  ·rw[aKB hno];exact LR.sim (Ix.drew _ _ _) hs.2.1
end
end
end Go.Ev
namespace Go.Ev
open Go.RowKit
section
variable {P:Program} {G:Nat→Option Obj} {O:Hz}
theorem aDF{w:World}{S:Nat→Prop}{ρ:Bq}:∀{ps:List Nat} {vs:List AV} {cs:List Value} {tmps:List AV} {ct:Array Value},LR w S ρ vs cs→ps.length=vs.length→LR w S ρ tmps ct.toList→
 LR w S ρ (kH tmps ps vs) ((ps.zip cs).foldl (fun t (p:Nat × Value)=>t.setIfInBounds p.1 p.2) ct).toList
 | [],vs,cs,tmps,ct,_,_,h=>by simpa [kH]using h
 |p::ps,[],cs,tmps,ct,_,hl,_=>by simp at hl
 |p::ps,v::vs,cs,tmps,ct,hv,hl,h=>by
  obtain⟨c,cs',rfl,h1,h2⟩:=hv.cons_inv
  simp only[kH,List.zip_cons_cons,List.foldl_cons]
  exact aDF h2 (by simpa using hl) (by rw[Array.toList_setIfInBounds];exact h.set p h1)
theorem Ix.loop{w:World}{S:Nat→Prop}{ρ:Bq}{b l:Nat}(hb:ρ b=.lp l)(hS:¬S l){r:Loop}(hr:w.heap[l]?=some (.loop r))(st:LoopState)(pe:Option Code):
 Ix w (Ev.setB w l (.loop { r with state:=st,pending:=pe })) S S ρ ρ where
 size:=by simp[Ev.setB]
 os:=rfl
 tape:=rfl
 output:=rfl
 keep:=fun b hb=>Cd (fun e=>hS (e▸hb))
 sub:=fun _ h=>h
 le:=ρ.le_refl
 other:=fun b' _ _ hn=>Cd (fun e=>hn b (by rw[e];exact hb))
 rng:=fun id _ co st sz h=>.inr ⟨id,co,st,sz,h⟩
 grow:=fun _ h=>.inl h
 objs:=fun b o' hb ho=>by rw[Cd (fun e=>by rw[e,hr]at hb;cases hb;simp[iV]at ho)];exact hb
 loops:=fun b' r' hb'=>by
  by_cases e:b'=l
  ·subst e;rw[hr]at hb';cases hb'
   exact⟨st,pe,nG hr⟩
  ·exact⟨r'.state,r'.pending,by rw[Cd e];exact hb'⟩
 lrng:=fun id _ h=>.inr ⟨id,h⟩
theorem HR.loop{w:World}{S:Nat→Prop}{ρ:Bq}{g:HF}(H:HR w S ρ g){b l:Nat}(hb:ρ b=.lp l){r:Loop}(hr:w.heap[l]?=some (.loop r)){ps:List Nat}{asg body:Code}{tmps:List AV}{st:Yk}
 (hg:g b=some (.lp ps asg body tmps st)) {st':Yk} {x:LoopState} {y:Option Code} (hh:st'.holds x y):HR (Ev.setB w l (.loop { r with state:=x,pending:=y })) S ρ (upd g b (.lp ps asg body tmps st')):=by
 have hs:=Ix.loop hb (H.lnS b l hb) hr x y
 refine⟨fun b' cb co st sz h=>?_,fun b' h=>?_,H.inj,fun b' h=>by have:=H.old b' h;simpa [Ev.setB]using this,fun b' l' h=>?_,H.linj,H.lnS⟩
 ·obtain⟨c,e,fz,fl,rows,h1,h2,h3,h4⟩:=H.at_ b' cb co st sz h
  have hne:b'≠b:=fun e=>by rw[e,hb]at h;cases h
  refine⟨c,e,fz,fl,rows,by rw[Cd (fun e=>by rw[e,hr]at h1;cases h1)];exact h1,h2,h3.sim hs,by simpa [upd,hne]using h4⟩
 ·have hne:b'≠b:=fun e=>by rw[e,hb]at h;cases h
  simpa [upd,hne]using H.dead b' h
 ·by_cases e:b'=b
  ·subst e
   rw[hb]at h;cases h
   obtain⟨r1,ps1,asg1,body1,tmps1,st1,h1,h2,h3⟩:=H.lps _ _ hb
   rw[hr]at h1;cases h1
   rw[hg]at h2;cases h2
   cases h3 with
   |loop h3=>exact⟨_,ps,asg,body,tmps,st',nG hr,by simp[upd],.loop ⟨h3.params,h3.assign,h3.body,LR.sim hs h3.tmps,hh⟩⟩
  ·obtain⟨r1,ps1,asg1,body1,tmps1,st1,h1,h2,h3⟩:=H.lps _ _ h
   have hne:l'≠l:=fun q=>e (H.linj _ _ _ h (q▸hb))
   exact⟨r1,ps1,asg1,body1,tmps1,st1,by rw[Cd hne];exact h1,by simpa [upd,e]using h2,h3.sim hs⟩
theorem FI.loop{h0:Aa}{w0:World}{S0:Nat→Prop}{ρ0:Bq}{h:Aa}{w:World}{S:Nat→Prop}{ρ:Bq}(F:FI h0 w0 S0 ρ0 h w S ρ){b l:Nat}(hb:ρ b=.lp l){r:Loop}(hr:w.heap[l]?=some (.loop r)){ps:List Nat}{asg body:Code}{tmps:List AV}{st:Yk}
 (hg:h[b]?=some (.lp ps asg body tmps st)) {st':Yk} {x:LoopState} {y:Option Code} (hh:st'.holds x y):
 FI h0 w0 S0 ρ0 (h.set b (.lp ps asg body tmps st')) (Ev.setB w l (.loop { r with state:=x,pending:=y })) S ρ:=by
 have hlt:b<h.length:=(aAO.1 hg).1
 have hg':hf h b=some (.lp ps asg body tmps st):=hg
 have hes:Gy h [.put b (.lp ps asg body tmps st')]:=by
  refine⟨⟨hlt,trivial⟩,fun b' ⟨e,he,Jb⟩ _=>?_,fun b' hn=>?_⟩
  ·simp at he;subst he;simp[As.id]at Jb;subst Jb
   refine⟨⟨_,hg',rfl⟩,fun c hc=>?_⟩
   simp[Bt,Dq,upd]at hc;subst hc;rfl
  ·simp only[Bt,Dq,upd]
   rw[if_neg (fun e=>hn ⟨_,aqD.2 rfl,e.symm⟩)]
 have:=F.step hes (w':=Ev.setB w l (.loop { r with state:=x,pending:=y })) (S':=S) (ρ':=ρ) (F.hr.loop hb hr hg' hh) (Ix.loop hb (F.hr.lnS b l hb) hr x y)
  (fun b' cb co st sz h' _=>⟨h',Cd (fun e=>by
    obtain⟨_,_,_,_,_,q,_⟩:=F.hr.at_ _ _ _ _ _ h'
    rw[e,hr]at q;cases q)⟩)
  (fun b'=>⟨fun h'=>⟨h',fun⟨e,he,Jb⟩=>by
    simp at he;subst he;simp[As.id]at Jb;subst Jb;rw[hb]at h';cases h'⟩,fun h'=>h'.1⟩)
 exact this
theorem WF.inRound{F:Fence}(h:WF F)(l:Nat):WF (F.inRound l):=by
 rcases h with rfl|⟨l',rfl⟩
 ·exact .inr ⟨l,rfl⟩
 ·exact .inr ⟨l,rfl⟩
theorem aGE{h h':Aa}{b:Nat}{ok:Yk→Bool}{st:Yk}(hs:jH h b ok st=some h'):∃ps asg body tmps st',h[b]?=some (.lp ps asg body tmps st')∧ok st'=true∧h'=h.set b (.lp ps asg body tmps st):=by
 unfold jH at hs
 split at hs
 ·rename_i ps asg body tmps st' hb
  split at hs
  ·rename_i hok;simp at hs;exact⟨ps,asg,body,tmps,st',hb,hok,hs.symm⟩
  ·simp at hs
 ·simp at hs
theorem FI.lpAt{h0:Aa}{w0:World}{S0:Nat→Prop}{ρ0:Bq}{h:Aa}{w:World}{S:Nat→Prop}{ρ:Bq}(F:FI h0 w0 S0 ρ0 h w S ρ){b l:Nat}(hb:ρ0 b=.lp l){ps:List Nat}{asg body:Code}{tmps:List AV}{st:Yk}
 (hg:h[b]?=some (.lp ps asg body tmps st)) (hm:st≠.map) (hm2:st≠.itr):ρ b=.lp l∧∃r,w.heap[l]?=some (.loop r)∧st.holds r.state r.pending:=by
 have hρ:ρ b=.lp l:=by
  rcases F.sim.le b with q|q|q
  ·rw[hb]at q;cases q
  ·rw[q,hb]
  ·have:=F.hr.dead b q
   rw[show hf h b=some _ from hg]at this;cases this
 obtain⟨r,_,_,_,_,_,h1,h2,h3⟩:=F.hr.lps b l hρ
 rw[show hf h b=some _ from hg]at h2;cases h2
 cases h3 with
 |loop h3=>exact⟨hρ,_,h1,h3.state⟩
 |map _=>exact(hm rfl).elim
 |itr _=>exact(hm2 rfl).elim
theorem aHG(hO:Me P G O)(hL:asI P G O)(hD:ay5 P G O)(hR:ad6 P G O){args:List AV}{h h':Aa}{out:Gw}(he:aY O P args h=some (out,h')){w:World}{S:Nat→Prop}{ρ:Bq}{cargs:Array Value}{l:Nat}
 (hI:qG G w S) (H:HR w S ρ (hf h)) (dom:∀b,h.length≤b→ρ b=.fresh) (all:∀b,b<h.length→ρ b≠.fresh) (hargs:LR w S ρ args (cargs.toList++[.func (.yield l) #[] #[]])):
 ∃fn tmps asg body,(Instr.yield l cargs).run P w=.ok (.round l fn tmps asg body) w∧∀F nn,WF F→RoundIn F nn P l fn tmps asg body w (zD h w S ρ out h'):=by
 unfold aY at he
 split at he
 ·rename_i b vs hrev
  have ha:args=vs.reverse++[.yl b]:=by have:=congrArg List.reverse hrev;simpa using this
  subst ha
  have hlen:vs.reverse.length=cargs.toList.length:=by have:=hargs.1;simpa using this
  have hvs:LR w S ρ vs.reverse cargs.toList:=by have:=hargs.take vs.reverse.length;rw[a1O,hlen,a1O]at this<;>first|exact this|rfl
  have hyl:VR w S ρ (.yl b) (.func (.yield l) #[] #[]):=hargs.2 vs.reverse.length _ _ (by simp) (by rw[hlen];simp)
  split at he
  ·rename_i ps asg body tmps st0 hb
   have hρ:ρ b=.lp l:=by
    cases hyl with
    |yl q=>exact q
    |ylD q=>have:=H.dead b q;rw[show hf h b=some _ from hb]at this;cases this
   obtain⟨r,ps1,asg1,body1,tmps1,st1,h1,h2,h3⟩:=H.lps b l hρ
   rw[show hf h b=some _ from hb]at h2;cases h2
   have noR:ps=[]→asg=.skip→st0.isReady=false→False:=fun e1 e2 e3=>by
    subst e1 e2
    have hsk:∀s:St,Fp O P Wu .skip [] s=some (.normal,s):=fun s=>by rw[show Wu=4999+1 from rfl];simp[Fp,Fj]
    split at he
    ·rw[hsk]at he
     simp[jH,kH,hb,e3]at he
    ·simp at he
   rcases h3 with⟨h3⟩|h3|h3
   rotate_left
   ·exact(noR rfl rfl rfl).elim
   ·exact(noR rfl rfl rfl).elim
   rename_i r
   split at he
   ·rename_i hps
    have hsz:cargs.size=r.params.size:=by
     have e1:=congrArg List.length h3.params
     simp at e1 hlen;omega
    refine⟨_,_,_,_,run_yield h1 hsz,fun F nn hF=>roundIn_of_wpIn (hF.fn _) ?_⟩
    rw[h3.assign,h3.body]
    obtain⟨⟨e1,s1⟩,hm1,he⟩:=acL.1 he
    simp only at he
    have hT:TR w S ρ (kH tmps ps vs.reverse) ((r.params.zip cargs).foldl (fun tmps (t,a)=>tmps.setIfInBounds t a) r.tmps):=by
     have:=aDF (ps:=ps) hvs (by simpa using hps) h3.tmps
     rw[←aR1,Array.toList_zip,h3.params]
     exact this
    have hs:pA ⟨h,w,S,ρ,some l⟩ ⟨kH tmps ps vs.reverse,h⟩ { tmps:=(r.params.zip cargs).foldl (fun tmps (t,a)=>tmps.setIfInBounds t a) r.tmps,defers:=[] } w S ρ:=
     ⟨FI.start H dom all,hT,fun d hd=>by simp at hd,List.Pairwise.nil,fun l' hl'=>by cases hl';exact⟨r,h1⟩⟩
    refine wpIn_mono (vO (hF.inRound l) hO hL hD hR rfl hI Wu hm1 hs) (fun ex a1 w1 hk=>?_)
    obtain⟨m,_,e',s',hp,S1,ρ1,hs1,hex⟩:=hk
    simp only[Fj,aAN.injEq,Prod.mk.injEq]at hp
    obtain⟨rfl,rfl⟩:=hp
    cases e' with
    |normal=>
     cases ex<;>simp[ExR]at hex
     obtain⟨hb1,hset1,he⟩:=acL.1 he
     obtain⟨⟨e2,s2⟩,hm2,he⟩:=acL.1 he
     obtain⟨⟨rb,st2⟩,hre,he⟩:=acL.1 he
     obtain⟨hb2,hset2,he⟩:=acL.1 he
     simp only[aAN.injEq,Prod.mk.injEq]at he
     obtain⟨rfl,rfl⟩:=he
     obtain⟨qs,qa,qb,qt,qst,g1,g2,rfl⟩:=aGE hset1
     obtain⟨hρ1,r1,hr1,hst1⟩:=hs1.1.lpAt (show(⟨h,w,S,ρ,some l⟩:Beg).ρ0 b=.lp l from hρ) g1 (by rintro rfl;simp[Yk.isReady]at g2) (by rintro rfl;simp[Yk.isReady]at g2)
     have hready:qst=.ready:=by cases qst<;>simp[Yk.isReady]at g2;rfl
     subst hready
     refine⟨_,run_beginRound hr1 hst1.1,?_⟩
     have hFI1:=hs1.1.loop (st':=.busy) (x:=.busy) (y:=r1.pending) hρ1 hr1 g1 ⟨rfl,hst1.2⟩
     have hs2:pA ⟨h,w,S,ρ,some l⟩ ⟨s'.tmps,s'.h.set b (.lp qs qa qb qt .busy)⟩ a1 (Ev.setB w1 l (.loop { r1 with state:=.busy,pending:=r1.pending })) S1 ρ1:=
      hs1.later hFI1 (Ix.loop hρ1 (hs1.1.hr.lnS b l hρ1) hr1 .busy r1.pending)
     refine wpIn_mono (vO (hF.inRound l) hO hL hD hR rfl hI Wu hm2 hs2) (fun ex2 a2 w2 hk2=>?_)
     obtain⟨m',_,e3,s3,hp2,S2,ρ2,hs3,hex2⟩:=hk2
     simp only[Fj,aAN.injEq,Prod.mk.injEq]at hp2
     obtain⟨rfl,rfl⟩:=hp2
     obtain⟨us,ua,ub,ut,ust,j1,j2,rfl⟩:=aGE hset2
     obtain⟨hρ2,r2,hr2,hst2⟩:=hs3.1.lpAt (show(⟨h,w,S,ρ,some l⟩:Beg).ρ0 b=.lp l from hρ) j1 (by rintro rfl;simp[Yk.isBusy]at j2) (by rintro rfl;simp[Yk.isBusy]at j2)
     have last:∀(jump:Option Code),st2.holds (if jump.isNone then .ready else .done) jump→rb=jump.isNone→
      ∃v w',(Instr.endRound l jump).run P w2=.ok v w'∧zD h w S ρ (.ret (.bool rb)) (s3.h.set b (.lp us ua ub ut st2)) (.returned v) w':=fun jump hh hrb=>by
      refine⟨_,_,run_endRound jump hr2,?_⟩
      have hFI2:=hs3.1.loop hρ2 hr2 j1 hh
      subst hrb
      exact⟨_,S2,ρ2,⟨⟨_,rfl⟩,rfl⟩,hFI2.post (VR.bool _)⟩
     cases e3 with
     |normal=>
      cases ex2<;>simp[ExR]at hex2
      simp[iC]at hre
      obtain⟨rfl,rfl⟩:=hre
      exact last none ⟨rfl,rfl⟩ rfl
     |ret=>
      cases ex2<;>simp[ExR]at hex2
      simp[iC]at hre
      obtain⟨rfl,rfl⟩:=hre
      exact last (some .ret) ⟨rfl,rfl⟩ rfl
     |exit i=>
      cases ex2<;>simp[ExR]at hex2
      subst hex2
      simp[iC]at hre
      obtain⟨rfl,rfl⟩:=hre
      exact last (some (.exit i)) ⟨rfl,rfl⟩ rfl
     |pan v=>simp[iC]at hre
    |_=>simp at he
   ·simp at he
  ·simp at he
 ·simp at he
end
section
variable {P:Program} {G:Nat→Option Obj} {O:Hz}
theorem HR.endLoop{w:World}{S:Nat→Prop}{ρ:Bq}{g:HF}(H:HR w S ρ g){b l:Nat}(hb:ρ b=.lp l){r:Loop}(hr:w.heap[l]?=some (.loop r))(x:LoopState)(y:Option Code):
 HR (Ev.setB w l (.loop { r with state:=x,pending:=y })) S (ρ.put b .dead) (upd g b .dead):=by
 have hs:=(Ix.loop hb (H.lnS b l hb) hr x y).trans (Ix.kill _ S ρ b)
 have off:∀b',∀z,z≠.dead→ρ.put b .dead b'=z→b'≠b∧ρ b'=z:=fun b' z hz h=>by
  by_cases e:b'=b
  ·subst e;rw[Bq.put_same]at h;exact(hz h.symm).elim
  ·rw[Bq.put_other _ _ e]at h;exact⟨e,h⟩
 refine⟨fun b' cb co st sz h=>?_,fun b' h=>?_,fun b1 b2 cb co st sz co' st' sz' h1 h2=>?_,fun b' h=>by have:=H.old b' h;simpa [Ev.setB]using this,fun b' l' h=>?_,fun b1 b2 l' h1 h2=>?_,fun b' l' h=>?_⟩
 ·obtain⟨hne,h⟩:=off b' _ (by simp) h
  obtain⟨c,e,fz,fl,rows,h1,h2,h3,h4⟩:=H.at_ b' cb co st sz h
  exact⟨c,e,fz,fl,rows,by rw[Cd (fun e=>by rw[e,hr]at h1;cases h1)];exact h1,h2,h3.sim hs,by simpa [upd,hne]using h4⟩
 ·by_cases e:b'=b
  ·subst e;simp[upd]
  ·rw[Bq.put_other _ _ e]at h;simpa [upd,e]using H.dead b' h
 ·exact H.inj _ _ _ _ _ _ _ _ _ (off b1 _ (by simp) h1).2 (off b2 _ (by simp) h2).2
 ·obtain⟨hne,h⟩:=off b' _ (by simp) h
  obtain⟨r1,ps1,asg1,body1,tmps1,st1,h1,h2,h3⟩:=H.lps _ _ h
  have hnl:l'≠l:=fun q=>hne (H.linj _ _ _ h (q▸hb))
  exact⟨r1,ps1,asg1,body1,tmps1,st1,by rw[Cd hnl];exact h1,by simpa [upd,hne]using h2,h3.sim hs⟩
 ·exact H.linj _ _ _ (off b1 _ (by simp) h1).2 (off b2 _ (by simp) h2).2
 ·exact H.lnS _ _ (off b' _ (by simp) h).2
theorem FI.endLoop{h0:Aa}{w0:World}{S0:Nat→Prop}{ρ0:Bq}{h:Aa}{w:World}{S:Nat→Prop}{ρ:Bq}(F:FI h0 w0 S0 ρ0 h w S ρ){b l:Nat}(hb:ρ b=.lp l){r:Loop}(hr:w.heap[l]?=some (.loop r)){ps:List Nat}{asg body:Code}{tmps:List AV}{st:Yk}
 (hg:h[b]?=some (.lp ps asg body tmps st)) (x:LoopState) (y:Option Code):
 FI h0 w0 S0 ρ0 (h.set b .dead) (Ev.setB w l (.loop { r with state:=x,pending:=y })) S (ρ.put b .dead)∧Ix w (Ev.setB w l (.loop { r with state:=x,pending:=y })) S S ρ (ρ.put b .dead):=by
 have hlt:b<h.length:=(aAO.1 hg).1
 have hg':hf h b=some (.lp ps asg body tmps st):=hg
 have hs:=(Ix.loop hb (F.hr.lnS b l hb) hr x y).trans (Ix.kill _ S ρ b)
 have hes:Gy h [.put b .dead]:=by
  refine⟨⟨hlt,trivial⟩,fun b' ⟨e,he,Jb⟩ _=>?_,fun b' hn=>?_⟩
  ·simp at he;subst he;simp[As.id]at Jb;subst Jb
   refine⟨⟨_,hg',rfl⟩,fun c hc=>?_⟩
   simp[Bt,Dq,upd]at hc;subst hc;rfl
  ·simp only[Bt,Dq,upd]
   rw[if_neg (fun e=>hn ⟨_,aqD.2 rfl,e.symm⟩)]
 refine⟨F.step hes (w':=Ev.setB w l (.loop { r with state:=x,pending:=y })) (S':=S) (ρ':=ρ.put b .dead) (F.hr.endLoop hb hr x y) hs (fun b' cb co st sz h' _=>⟨?_,Cd (fun e=>?_)⟩) (fun b'=>⟨fun h'=>?_,fun h'=>?_⟩),hs⟩
 ·rw[Bq.put_other _ _ (fun e=>by rw[e,hb]at h';cases h')];exact h'
 ·obtain⟨_,_,_,_,_,q,_⟩:=F.hr.at_ _ _ _ _ _ h'
  rw[e,hr]at q;cases q
 ·by_cases e:b'=b
  ·subst e;rw[Bq.put_same]at h';cases h'
  ·rw[Bq.put_other _ _ e]at h'
   exact⟨h',fun⟨x,hx,Jb⟩=>by simp at hx;subst hx;exact e Jb.symm⟩
 ·rw[Bq.put_other _ _ (fun e=>by rw[e,hb]at h';cases h'.1)];exact h'.1
theorem Ix.extra{w:World}{S:Nat→Prop}{ρ:Bq}(hS:∀b,S b→b<w.heap.size)(o:Obj):Ix w (w.alloc o) S S ρ ρ where
 size:=by simp
 os:=rfl
 tape:=rfl
 output:=rfl
 keep:=fun b hb=>Ez (hS b hb)
 sub:=fun _ h=>h
 le:=ρ.le_refl
 other:=fun b h _ _=>Ez h
 rng:=fun id _ co st sz h=>.inr ⟨id,co,st,sz,h⟩
 grow:=fun _ h=>.inl h
 objs:=fun b o' hb _=>by rw[Ez (aCF.1 hb).1];exact hb
 loops:=fun b r hb=>⟨r.state,r.pending,by rw[Ez (aCF.1 hb).1];exact hb⟩
 lrng:=fun id _ h=>.inr ⟨id,h⟩
theorem HR.extra{w:World}{S:Nat→Prop}{ρ:Bq}{g:HF}(H:HR w S ρ g)(o:Obj):HR (w.alloc o) S ρ g where
 at_:=fun b cb co st sz h=>by
  obtain⟨c,e,fz,fl,rows,h1,h2,h3,h4⟩:=H.at_ b cb co st sz h
  exact⟨c,e,fz,fl,rows,by rw[Ez (aCF.1 h1).1];exact h1,h2,h3.sim (Ix.extra H.old o),h4⟩
 dead:=H.dead
 inj:=H.inj
 old:=fun b h=>by have:=H.old b h;simp;omega
 lps:=fun b l h=>by
  obtain⟨r,ps,asg,body,tmps,st,h1,h2,h3⟩:=H.lps b l h
  exact⟨r,ps,asg,body,tmps,st,by rw[Ez (aCF.1 h1).1];exact h1,h2,h3.sim (Ix.extra H.old o)⟩
 linj:=H.linj
 lnS:=H.lnS
theorem FI.extra{h0:Aa}{w0:World}{S0:Nat→Prop}{ρ0:Bq}{h:Aa}{w:World}{S:Nat→Prop}{ρ:Bq}(F:FI h0 w0 S0 ρ0 h w S ρ)(o:Obj):FI h0 w0 S0 ρ0 h (w.alloc o) S ρ:=
 F.step (Gy.nil h) (F.hr.extra o) (Ix.extra F.hr.old o) (fun b cb co st sz hb _=>⟨hb,Ez (F.hr.lt hb)⟩) (fun b=>⟨fun h=>⟨h,fun⟨e,he,_⟩=>by simp at he⟩,fun h=>h.1⟩)
theorem FI.newLoop{h0:Aa}{w0:World}{S0:Nat→Prop}{ρ0:Bq}{h:Aa}{w:World}{S:Nat→Prop}{ρ:Bq}(F:FI h0 w0 S0 ρ0 h w S ρ){tmps:List AV}{ct:Array Value}(T:TR w S ρ tmps ct)(fn:FuncId)(ps:Array Tmp)(asg body:Code)(D:Nat):
 FI h0 w0 S0 ρ0 (h++[.lp ps.toList asg body tmps .ready]) (w.alloc (.loop { state:=.ready,pending:=none,fn,tmps:=ct,params:=ps,assign:=asg,body,defers:=D })) S (ρ.put h.length (.lp w.heap.size))∧
 Ix w (w.alloc (.loop { state:=.ready,pending:=none,fn,tmps:=ct,params:=ps,assign:=asg,body,defers:=D })) S S ρ (ρ.put h.length (.lp w.heap.size)):=by
 have hfr:ρ h.length=.fresh:=F.dom _ (aEO _)
 generalize ho:Obj.loop { state:=.ready,pending:=none,fn,tmps:=ct,params:=ps,assign:=asg,body,defers:=D }=o
 have hs:Ix w (w.alloc o) S S ρ (ρ.put h.length (.lp w.heap.size)):=by
  have s:=Ix.extra (w:=w) (ρ:=ρ) F.hr.old o
  refine⟨s.size,s.os,s.tape,s.output,s.keep,s.sub,Bq.le_put_fresh hfr _,s.other,fun id cb co st sz hi=>?_,s.grow,s.objs,s.loops,fun id l hi=>?_⟩
  ·by_cases e:id=h.length
   ·rw[e,Bq.put_same]at hi;cases hi
   ·rw[Bq.put_other _ _ e]at hi;exact .inr ⟨id,co,st,sz,hi⟩
  ·by_cases e:id=h.length
   ·rw[e,Bq.put_same]at hi;cases hi;exact .inl (aEO _)
   ·rw[Bq.put_other _ _ e]at hi;exact .inr ⟨id,hi⟩
 have H:=F.hr
 have lplt:∀b l,ρ b=.lp l→l<w.heap.size:=fun b l hb=>by
  obtain⟨_,_,_,_,_,_,h1,_⟩:=H.lps b l hb;exact(aCF.1 h1).1
 have hH:HR (w.alloc o) S (ρ.put h.length (.lp w.heap.size)) (upd (hf h) h.length (.lp ps.toList asg body tmps .ready)):=by
  refine⟨fun b cb co st sz hb=>?_,fun b hb=>?_,fun b1 b2 cb co st sz co' st' sz' h1 h2=>?_,fun b hb=>by have:=H.old b hb;simp;omega,fun b l hb=>?_,fun b1 b2 l h1 h2=>?_,fun b l hb hS=>?_⟩
  ·by_cases e:b=h.length
   ·rw[e,Bq.put_same]at hb;cases hb
   ·rw[Bq.put_other _ _ e]at hb
    obtain⟨c,e',fz,fl,rows,h1,h2,h3,h4⟩:=H.at_ b cb co st sz hb
    exact⟨c,e',fz,fl,rows,by rw[Ez (aCF.1 h1).1];exact h1,h2,h3.sim hs,by simpa [upd,e]using h4⟩
  ·by_cases e:b=h.length
   ·rw[e,Bq.put_same]at hb;cases hb
   ·rw[Bq.put_other _ _ e]at hb;simpa [upd,e]using H.dead b hb
  ·have off:∀x c1 s1 z1,ρ.put h.length (.lp w.heap.size) x=.pl cb c1 s1 z1→ρ x=.pl cb c1 s1 z1:=fun x c1 s1 z1 hx=>by
    by_cases e:x=h.length
    ·rw[e,Bq.put_same]at hx;cases hx
    ·rw[Bq.put_other _ _ e]at hx;exact hx
   exact H.inj _ _ _ _ _ _ _ _ _ (off _ _ _ _ h1) (off _ _ _ _ h2)
  ·by_cases e:b=h.length
   ·subst e;rw[Bq.put_same]at hb;cases hb
    rw[←ho]at hs ⊢
    exact⟨_,ps.toList,asg,body,tmps,.ready,aiI,by simp[upd],.loop ⟨rfl,rfl,rfl,LR.sim hs T,rfl,rfl⟩⟩
   ·rw[Bq.put_other _ _ e]at hb
    obtain⟨r,ps',asg',body',tmps',st,h1,h2,h3⟩:=H.lps b l hb
    exact⟨r,ps',asg',body',tmps',st,by rw[Ez (aCF.1 h1).1];exact h1,by simpa [upd,e]using h2,h3.sim hs⟩
  ·by_cases e1:b1=h.length<;>by_cases e2:b2=h.length
   ·rw[e1,e2]
   ·rw[e1,Bq.put_same]at h1;cases h1;rw[Bq.put_other _ _ e2]at h2;have:=lplt _ _ h2;omega
   ·rw[e2,Bq.put_same]at h2;cases h2;rw[Bq.put_other _ _ e1]at h1;have:=lplt _ _ h1;omega
   ·rw[Bq.put_other _ _ e1]at h1;rw[Bq.put_other _ _ e2]at h2;exact H.linj _ _ _ h1 h2
  ·by_cases e:b=h.length
   ·rw[e,Bq.put_same]at hb;cases hb;have:=H.old _ hS;omega
   ·rw[Bq.put_other _ _ e]at hb;exact H.lnS _ _ hb hS
 refine⟨?_,hs⟩
 exact F.step (Gy.new h (.lp ps.toList asg body tmps .ready)) hH hs (fun b cb co st sz hb _=>⟨by rw[Bq.put_other _ _ (fun e=>by rw[e,hfr]at hb;cases hb)];exact hb,Ez (H.lt hb)⟩)
  (fun b=>⟨fun hb=>by
    by_cases e:b=h.length
    ·rw[e,Bq.put_same]at hb;cases hb
    ·rw[Bq.put_other _ _ e]at hb;exact⟨hb,fun⟨x,hx,Jb⟩=>by simp at hx;subst hx;exact e Jb.symm⟩,fun⟨h1,h2⟩=>by
    rw[Bq.put_other _ _ (show b≠h.length from fun e=>h2 ⟨_,aqD.2 rfl,e.symm⟩)];exact h1⟩)
theorem aFR(hO:Me P G O){F:Fence}{nn:Nat}(hF:WF F){f:Operand}{ps:Array Nat}{asg body:Code}{s:St}{g:Nat}{fa fb:List AV}{d:Wz}{v:AV}{ps':List Nat}{asg' body':Code}{tm':List AV}{st:Yk}{e:Ex}
 (hf:Ar s.tmps f=some (.func (.func g) fa fb))
 (hc:Jd O (Ev.hf (s.h++[.lp ps.toList asg body s.tmps .ready])) (s.h.length+1) (vW g (fa++[.yl s.h.length]++fb)) (fa++[.yl s.h.length]++fb)=some d) (hout:d.out=.ret v)
 (hlp:(Eh (s.h++[.lp ps.toList asg body s.tmps .ready]) d.es)[s.h.length]?=some (.lp ps' asg' body' tm' st)) (hex:Wm st=some e)
 {B:Beg} {a:Act} {w:World} {S:Nat→Prop} {ρ:Bq} (hI:qG G B.w0 B.S0) (hs:pA B s a w S ρ) (fn:FuncId) (D:Nat):
 ∃dd args,(resolve a.eval (rangeCall f w.heap.size) 0).run P (w.alloc (.loop { state:=.ready,pending:=none,fn,tmps:=a.tmps,params:=ps,assign:=asg,body,defers:=D }))=.ok dd (w.alloc (.loop { state:=.ready,pending:=none,fn,tmps:=a.tmps,params:=ps,assign:=asg,body,defers:=D }))∧
  (invoke dd.target dd.args).run P (w.alloc (.loop { state:=.ready,pending:=none,fn,tmps:=a.tmps,params:=ps,assign:=asg,body,defers:=D }))=.ok (.enter g args) (w.alloc (.loop { state:=.ready,pending:=none,fn,tmps:=a.tmps,params:=ps,assign:=asg,body,defers:=D }))∧
  CallsIn F (nn-1) P g args (w.alloc (.loop { state:=.ready,pending:=none,fn,tmps:=a.tmps,params:=ps,assign:=asg,body,defers:=D }))
   (rangePost F nn P w.heap.size (aNX B e ⟨s.tmps,(Eh (s.h++[.lp ps.toList asg body s.tmps .ready]) d.es).set s.h.length .dead⟩) a):=by
 obtain⟨hFI,hsim⟩:=hs.1.newLoop hs.2.1 fn ps asg body D
 generalize hw1:w.alloc (.loop { state:=.ready,pending:=none,fn,tmps:=a.tmps,params:=ps,assign:=asg,body,defers:=D })=w1 at *
 have hs1:=hs.later hFI hsim
 have hfr:=Bl hs1.2.1 hf
 generalize hfe:a.eval f=cf at hfr
 cases hfr with
 | @func _ _ _ _ va vc q1 q2 q3 q4=>
   have hlr:LR w1 S (ρ.put s.h.length (.lp w.heap.size)) (fa++[.yl s.h.length]++fb) (va++#[Value.func (.yield w.heap.size) #[] #[]]++vc).toList:=by
    have e1:(va++#[Value.func (.yield w.heap.size) #[] #[]]++vc).toList=va.toList++[Value.func (.yield w.heap.size) #[] #[]]++vc.toList:=by simp
    rw[e1]
    exact(LR.append (LR.append ⟨by simpa using q1,fun i x v hx hv=>q3 i x v hx (by simpa using hv)⟩ (.cons (.yl (Bq.put_same _ _ _)) .nil)) ⟨by simpa using q2,fun i x v hx hv=>q4 i x v hx (by simpa using hv)⟩)
   obtain⟨henter,hcalls⟩:=aCV hO hI hFI (aF2 _ _) hlr (by simpa using hc)
   refine⟨{ target:=.fn (.func g) vc,args:=va++#[Value.func (.yield w.heap.size) #[] #[]] },va++#[Value.func (.yield w.heap.size) #[] #[]]++vc,?_,?_,?_⟩
   ·simp only[resolve,rangeCall,hfe]
    try simp[go_sem]
   ·simp[invoke,go_sem,henter]
   ·refine hF.calls (hcalls.mono fun en w' ⟨cv,S',ρ',he,hv,hFI2,hsim2⟩=>?_)
    cases en with
    |panicked ch=>obtain⟨⟨x,hx⟩,_⟩:=he;rw[hout]at hx;cases hx
    |outgrown=>exact he.elim
    |returned rv=>
     have hρ':ρ' s.h.length=.lp w.heap.size:=by
      rcases hsim2.le s.h.length with q|q|q
      ·rw[Bq.put_same]at q;cases q
      ·rw[q,Bq.put_same]
      ·have:=hFI2.hr.dead _ q
       rw[show Ev.hf _ s.h.length=some _ from hlp]at this;cases this
     obtain⟨r,_,_,_,_,_,hr,h2,h3⟩:=hFI2.hr.lps _ _ hρ'
     rw[show Ev.hf _ s.h.length=some _ from hlp]at h2;cases h2
     rcases h3 with⟨h3⟩|h3|h3
     rotate_left
     ·simp[Wm]at hex
     ·simp[Wm]at hex
     rename_i r
     have hnb:r.state≠.busy:=by
      cases st with
      |ready=>rw[h3.state.1];simp
      |busy=>simp[Wm]at hex
      |done c=>rw[h3.state.1];simp
      |map=>simp[Wm]at hex
      |itr=>simp[Wm]at hex
     refine⟨r.pending,_,run_endLoop hr hnb,?_⟩
     obtain⟨hFI3,hsim3⟩:=hFI2.endLoop hρ' hr hlp .exhausted r.pending
     have hs3:=(hs1.later hFI2 hsim2).later hFI3 hsim3
     cases st with
     |ready=>
      rw[h3.state.2]at hs3 ⊢
      simp[Wm]at hex;subst hex
      exact⟨_,_,hs3,trivial⟩
     |busy=>simp[Wm]at hex
     |done c=>
      rw[h3.state.2]at hs3 ⊢
      cases c<;>simp[Wm]at hex<;>subst hex
      ·exact wpIn_exit ⟨_,_,hs3,rfl⟩
      ·exact wpIn_ret ⟨_,_,hs3,trivial⟩
     |map=>simp[Wm]at hex
     |itr=>simp[Wm]at hex
theorem aI1(hO:Me P G O):ad6 P G O:=by
 intro f ps asg body s g fa fb d v ps' asg' body' tm' st e hf hc hout hlp hex F nn hF B a w S ρ hB hI hs
 refine wpIn_rangeFunc (fun fn _=>?_)
 rcases hF with rfl|⟨l,rfl⟩
 ·have hs':pA B s { a with defers:={ target:=.collected w.heap.size,args:=#[] }::a.defers } (w.alloc (.deferred (some []))) S ρ:=by
   have hm:=hs.later (hs.1.extra (.deferred (some []))) (Ix.extra hs.1.hr.old _)
   refine⟨hm.1,hm.2.1,fun d hd=>?_,?_,hm.2.2.2.2⟩
   ·rcases aIC.1 hd with rfl|hd
    ·exact⟨w.heap.size,rfl,aiI,fun h=>Nat.lt_irrefl _ (hs.1.hr.old _ h),hs.1.sim.size⟩
    ·exact hm.2.2.1 d hd
   ·refine aXG.2 ⟨fun d hd=>?_,hs.2.2.2.1⟩
    obtain⟨r,rfl,k2,_⟩:=hs.2.2.1 d hd
    have:=(aCF.1 k2).1
    simp[aOJ];omega
  obtain⟨dd,args,k1,k2,k3⟩:=aFR (nn:=nn) hO (.inl rfl) hf hc hout hlp hex hI hs' fn w.heap.size
  have hsz:(w.alloc (.deferred (some []))).heap.size=w.heap.size+1:=by simp
  rw[hsz]at k1 k3
  exact⟨_,_,_,dd,_,g,args,_,run_enterLoop_outer _ _ _ _ _,k1,fun _ _=>trivial,k2,fun h=>by simp[Fence.wide]at h,k3⟩
 ·obtain⟨r₀,hr₀⟩:=hs.2.2.2.2 l hB
  obtain⟨dd,args,k1,k2,k3⟩:=aFR (nn:=nn) hO (F:=Fence.wide.inRound l) (.inr ⟨l,rfl⟩) hf hc hout hlp hex hI hs fn r₀.defers
  exact⟨_,_,_,dd,_,g,args,_,run_enterLoop_inner hr₀ _ _ _ _ _,k1,fun _ _=>trivial,k2,fun h=>by simp[Fence.wide,Fence.inRound]at h,k3⟩
end
end Go.Ev
