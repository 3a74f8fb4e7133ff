/- The evaluator and its soundness. -/
import Derived.Test.YtfkokgjfpojeoaaLibB
import Derived.RangeFuncLeaves
import Derived.RangeFuncRecord
import Derived.OrdersIn
import Derived.RangeFuncNested
open Option renaming bind_eq_some_iff→aaA,map_eq_some_iff→aaK,some→abO,map_some→aqJ,bind_some→avO,getD_some→avZ
open List renaming getElem?_eq_getElem→aa0,mem_singleton→aa3,mem_flatMap→aa9,getElem?_eq_some_iff→acI,mem_cons_of_mem→acM,mem_cons_self→adV,mem_iff_getElem→afR,mem_range→af5,filter_cons_of_pos→af6,mem_cons→af7,length_cons→af8,replicate→af9,mem_map→agA,mem_append_right→aiO,getElem?_set→ai2,filter_cons_of_neg→aj8,flatMap_cons→alV,mem_append→alX,any_eq_false→alY,mem_of_getElem?→alZ,getElem?_eq_none→al0,prefix_refl→al1,getElem?_drop→al2,mem_append_left→apM,all_eq_true→aqG,range→aqS,mem_filter→aq7,any_eq_true→arW,getD_eq_getElem?_getD→arX,getElem_mem→asS,length_map→auX,mapM_cons→avP,pairwise_cons→avQ,getElem?_replicate→avR,ext_getElem?→avS,getElem?_take→avU,mem_filterMap→avV,getElem?_map→avX,take_left'→av1
open Array renaming getElem?_eq_some_iff→acY,getD_eq_getD_getElem?→ae2,replicate→ae7,getElem?_toList→anV,foldl_toList→aqB,all_eq_true'→arQ,getElem?_eq_none→avW,getElem?_eq_getElem→avY,getElem?_replicate→av0
open Nat renaming le_refl→ae4,le_trans→agB,lt_or_ge→am9,strongRecOn→an6,lt_of_lt_of_le→apR,lt_trichotomy→ap6
open Bool renaming false_eq_true→af4,and_eq_true→ajM,not_eq_true→aqF,and_assoc→avT
set_option linter.unusedSimpArgs false
set_option linter.unusedVariables false
namespace Go.Ev
noncomputable section
open Go.RowKit
def WF(F:Fence):Prop:=F=Fence.wide∨∃l,F=Fence.wide.inRound l
theorem WF.fn{F:Fence}(h:WF F)(f:FuncId):F.fn f:=by
 rcases h with rfl|⟨l,rfl⟩<;>exact trivial
theorem WF.depth{F:Fence}(h:WF F):F.depth=none:=by
 rcases h with rfl|⟨l,rfl⟩<;>rfl
theorem WF.calls{F:Fence}(h:WF F){n:Nat}{P:Program}{f:FuncId}{args:Array Value}{w:World}{R:Ending→World→Prop}(k:Calls P f args w R):CallsIn F n P f args w R:=by
 rcases h with rfl|⟨l,rfl⟩
 ·exact callsIn_wide.2 k
 ·exact(callsIn_wide (n:=n)).2 k
def sM(out:Dk)(cv:Value):Ending→Prop
 | .returned v=>(∃x,out=.ret x)∧v=cv
 | .panicked ch=>(∃x,out=.pan x)∧ch=[{ v:=cv,recovered:=false }]
 | .outgrown=>False
def Ss(h0:Aa)(w:World)(S:Nat→Prop)(ρ:Ao)(out:Dk)(h':Aa)(e:Ending)(w':World):Prop:=
 ∃cv S' ρ',sM out cv e∧Xf h0 w S ρ out.v h' cv w' S' ρ'
def Qp(G:Nat→Option Obj)(w:World)(S:Nat→Prop):Prop:=∀b o,G b=some o→S b∧w.heap[b]?=some o
theorem Qp.sim{G:Nat→Option Obj}{w w':World}{S S':Nat→Prop}{ρ ρ':Ao}(h:Qp G w S)(hs:Ep w w' S S' ρ ρ'):Qp G w' S':=fun b o hb=>
 ⟨hs.sub b (h b o hb).1,by rw[hs.keep b (h b o hb).1];exact(h b o hb).2⟩
theorem Qp.mono{G:Nat→Option Obj}{w:World}{S S':Nat→Prop}(h:Qp G w S)(hS:∀b,S b→S' b):Qp G w S':=fun b o hb=>⟨hS b (h b o hb).1,(h b o hb).2⟩
def ayR(P:Program)(G:Nat→Option Obj)(O:Ea):Prop:=∀f args h out h',O.call (.fn f) args h=some (out,h')→
 (∀args w,(callFunc f args).run P w=.ok (.enter f args) w)∧
 ∀w S ρ (cargs:Array Value),Qp G w S→HR w S ρ (hf h)→(∀b,h.length≤b→ρ b=.fresh)→(∀b,b<h.length→ρ b≠.fresh)→LR w S ρ args cargs.toList→Calls P f cargs w (Ss h w S ρ out h')
def aw6(P:Program)(G:Nat→Option Obj)(O:Ea):Prop:=∀f args h out h',O.call (.sh f) args h=some (out,h')→
 (∀args w,(callFunc f args).run P w=.ok (.enter f args) w)∧
 ∀w S ρ (cargs:Array Value),Qp G w S→HR w S ρ (hf h)→(∀b,h.length≤b→ρ b=.fresh)→(∀b,b<h.length→ρ b≠.fresh)→LR w S ρ args cargs.toList→Calls P f cargs w (Ss h w S ρ out h')
def ajA(P:Program)(G:Nat→Option Obj)(O:Ea):Prop:=∀args h out h',O.call .round args h=some (out,h')→
 ∀w S ρ (cargs:Array Value) l,Qp G w S→HR w S ρ (hf h)→(∀b,h.length≤b→ρ b=.fresh)→(∀b,b<h.length→ρ b≠.fresh)→LR w S ρ args (cargs.toList++[.func (.yield l) #[] #[]])→
 ∃fn tmps asg body,(Instr.yield l cargs).run P w=.ok (.round l fn tmps asg body) w∧∀F nn,WF F→RoundIn F nn P l fn tmps asg body w (Ss h w S ρ out h')
def Gi(P:Program)(G:Nat→Option Obj)(O:Ea):Prop:=ayR P G O∧ajA P G O∧aw6 P G O
def jX(c:Qr)(f:Nat):Prop:=c=.fn f∨c=.sh f
theorem jM(f:Nat)(args:List AV):jX (Uc f args) f:=by
 unfold Uc jX
 split
 ·exact .inr rfl
 ·exact .inr rfl
 ·exact .inr rfl
 ·exact .inr rfl
 ·exact .inr rfl
 ·exact .inl rfl
def aiL(f c:Qr):Prop:=c=f∨∃n,f=.sh n∧c=.fn n
theorem jX.to{c c':Qr}{f:Nat}(h:jX c f)(k:aiL c c'):jX c' f:=by
 rcases k with rfl|⟨n,rfl,rfl⟩
 ·exact h
 ·rcases h with h|h
  ·cases h
  ·cases h;exact .inl rfl
def Vd(O:Ea)(f:Qr)(args:List AV):Prop:=∃n,f=.fn n∨f=.sh n∧(Td args||O.md n)=false
theorem Vd.eq{O:Ea}{f:Qr}{args:List AV}(h:Vd O f args):∃n,aiL f (.fn n)∧∀g base,Et O g base f args=Db O g base (.fn n) args:=by
 obtain⟨n,rfl|⟨rfl,h⟩⟩:=h
 ·exact⟨n,.inl rfl,fun g base=>rfl⟩
 ·exact⟨n,.inr ⟨n,rfl,rfl⟩,fun g base=>by simp only[Et,h,cond_false]⟩
theorem Ui{O:Ea}{f:Qr}{args:List AV}(h:¬Vd O f args)(g:HF)(base:Nat):Et O g base f args=It O g base f args:=by
 cases f with
 |fn n=>exact(h ⟨n,.inl rfl⟩).elim
 |round=>rfl
 |sh n=>
  cases hq:(Td args||O.md n)with
  |true=>simp only[Et,hq,cond_true]
  |false=>exact(h ⟨n,.inr ⟨rfl,hq⟩⟩).elim
section
variable {P:Program} {G:Nat→Option Obj} {O:Ea}
theorem dZ{g:HF}{args:List AV}{x:AV}{b:Nat}(hx:x∈args)(hb:b∈Bd 12 g x):b∈args.flatMap (Bd 12 g):=aa9.2 ⟨x,hx,hb⟩
theorem Yi{g:HF}:∀{d:Nat} {x x':AV},Eu d g x=some x'→∀b∈Bd d g x,g b≠none
 |0,_,_,h,_,_=>by simp[Eu]at h
 |d+1,x,x',h,b,hb=>by
  cases x with
  |slr st0 b0 r len=>
   simp only[Eu,aaA]at h
   obtain⟨⟨st,fl,rows⟩,hr,h⟩:=h
   simp only at h
   have hg:g b0≠none:=fun e=>by simp[Fb,e]at hr
   simp only[Bd,hr]at hb
   rcases af7.1 hb with rfl|hb
   ·exact hg
   ·split at h
    ·rename_i hfl;simp[hfl]at hb
    ·rename_i hfl
     simp only[hfl]at hb
     obtain⟨rows',ho,_⟩:=aaK.1 h
     obtain⟨row,hrow,hb⟩:=aa9.1 hb
     obtain⟨y,hy,hb⟩:=aa9.1 hb
     obtain⟨i,hi,rfl⟩:=afR.1 hrow
     obtain⟨row',h1,h2⟩:=Jw ho (aa0 hi)
     obtain⟨j,hj,rfl⟩:=afR.1 hy
     obtain⟨y',h3,h4⟩:=Jw h2 (aa0 hj)
     exact Yi h4 b hb
  |agg cs=>
   obtain⟨cs',ho,_⟩:=aaK.1 h
   simp only[Bd]at hb
   obtain⟨y,hy,hb⟩:=aa9.1 hb
   obtain⟨j,hj,rfl⟩:=afR.1 hy
   obtain⟨y',h3,h4⟩:=Jw ho (aa0 hj)
   exact Yi h4 b hb
  |iface t y=>
   obtain⟨y',ho,_⟩:=aaK.1 h
   exact Yi ho b (by simpa [Bd]using hb)
  |_=>simp[Bd]at hb
theorem cL{g:HF}:∀{d:Nat} {x x':AV},Gy d g x=some x'→∀b∈Bd d g x,g b≠none
 |0,_,_,h,_,_=>by simp[Gy]at h
 |d+1,x,x',h,b,hb=>by
  cases x with
  |slr st0 b0 r len=>exact Yi (d:=d+1) (by simpa [Gy]using h) b hb
  |agg cs=>
   obtain⟨cs',ho,_⟩:=aaK.1 h
   simp only[Bd]at hb
   obtain⟨y,hy,hb⟩:=aa9.1 hb
   obtain⟨j,hj,rfl⟩:=afR.1 hy
   obtain⟨y',h3,h4⟩:=Jw ho (aa0 hj)
   exact cL h4 b hb
  |iface t y=>
   obtain⟨y',ho,_⟩:=aaK.1 h
   exact cL ho b (by simpa [Bd]using hb)
  |_=>simp[Bd]at hb
theorem yG{w:World}{S:Nat→Prop}{ρ:Ao}{g:HF}(H:HR w S ρ g){base z:Nat}(hz:ρ z=.fresh)(hgf:∀b,g b≠none→ρ b≠.fresh){f:Qr}{args:List AV}{cargs:List Value}
 (hargs:LR w S ρ args cargs) (hmb:∀vs vs' cs m,Au (Gy 12 g) args=some vs→Hz g [] vs=some (vs',cs,m)→∀b∈m,b<base) {d:Jf} (hc:Db O g base f args=some d)
 (hnew:∀b c,Af.new b c∈d.es→ρ b=.fresh):
 ∃vs' h0 out h' Sc ρc,(∀b,S b→Sc b)∧O.call f vs' h0=some (out,h')∧HR w Sc ρc (hf h0)∧(∀b,h0.length≤b→ρc b=.fresh)∧(∀b,b<h0.length→ρc b≠.fresh)∧LR w Sc ρc vs' cargs∧
 ∀e w',Ss h0 w Sc ρc out h' e w'→∃cv S' ρ',sM d.out cv e∧VR w' S' ρ' d.out.v cv∧HR w' S' ρ' (As g d.es)∧Ep w w' S S' ρ ρ'∧Oj (Fv d.es) w w' ρ ρ'∧Ph d.es ρ ρ':=by
 unfold Db at hc
 simp only[aaA]at hc
 obtain⟨vs,hvs,⟨vs',cs,m⟩,hp,hc⟩:=hc
 simp only at hc
 have hmb:=hmb vs vs' cs m hvs hp
 split at hc
 ·simp at hc
 ·rename_i hlm0
  obtain⟨⟨out,h'⟩,hcall,hu⟩:=aaA.1 hc
  simp only at hu
  have hlm:∀b∈args.flatMap (Bd 12 g),b∉m:=fun b hb hm=>hlm0 (by
   rw[arW];exact⟨b,hb,by simpa using hm⟩)
  obtain⟨p1,p2,p3,p4,p5,p6⟩:=fX hp
  have hnd:=p2 (by simp)
  have hmf:∀b∈m,ρ b≠.fresh:=fun b hb=>by
   obtain⟨j,hj,rfl⟩:=afR.1 hb
   obtain⟨b',c,k1,k2,_⟩:=p4 j _ (aa0 (by omega:j<cs.length))
   rw[aa0 hj]at k1;cases k1
   exact hgf _ (by rw[k2];simp)
  have hlf:∀b∈args.flatMap (Bd 12 g),ρ b≠.fresh:=fun b hb=>by
   obtain⟨x,hx,hb⟩:=aa9.1 hb
   obtain⟨j,hj,rfl⟩:=afR.1 hx
   obtain⟨y',h3,h4⟩:=Jw hvs (aa0 hj)
   exact hgf b (cL h4 b hb)
  have hSc:∀b,S b→(S b∨abV ρ (args.flatMap (Bd 12 g)) b):=fun b hb=>.inl hb
  have H1:=aaW (Sc:=fun b=>S b∨abV ρ (args.flatMap (Bd 12 g)) b) H hz hSc
   (fun b hb=>by rcases hb with hb|⟨id,_,co,st,sz,hρ⟩;exact H.old b hb;exact H.lt hρ) hnd p3 p4
   (fun b hb cb co st sz hρ hnS hs=>by
     rcases hs with hs|⟨id,En,co',st',sz',hρ'⟩
     ·exact hnS hs
     ·exact hlm id En ((H.inj _ _ _ _ _ _ _ _ _ hρ hρ')▸hb))
   (fun b l hρ hs=>by
     rcases hs with hs|⟨id,En,co',st',sz',hρ'⟩
     ·exact H.lnS _ _ hρ hs
     ·exact H.apart hρ hρ')
  have hlr:LR w (fun b=>S b∨abV ρ (args.flatMap (Bd 12 g)) b) (ρ.via m z) vs' cargs:=by
   obtain⟨o1,o2⟩:=Dz hvs
   refine⟨by rw[←p5,←o1];exact hargs.1,fun i x v hx hv=>?_⟩
   have hi:i<vs.length:=by rw[p5];exact(acI.1 hx).1
   obtain⟨m1,m2,k1,k2⟩:=p6 i _ x (aa0 hi) hx
   obtain⟨y,hy1,hy2⟩:=o2 i _ (aa0 hi)
   refine k1.vr z k2 (Zn H hSc hy2 (hargs.2 i y v hy1 hv) (fun b hb cb co st sz hρ=>.inr ⟨b,dZ (alZ hy1) hb,co,st,sz,hρ⟩))
  have hdomc:∀b,(cs.map CB.clean).length≤b→ρ.via m z b=.fresh:=fun b hb=>by
   simp at hb
   unfold Ao.via
   rw[arX,al0 (by omega)]
   exact hz
  have hallc:∀b,b<(cs.map CB.clean).length→ρ.via m z b≠.fresh:=fun b hb=>by
   simp at hb
   have hb':b<m.length:=by omega
   rw[Ao.via_at (al1 _) (aa0 hb')]
   exact hmf _ (asS hb')
  have hnew':∀b,base≤b→b<base+(h'.length-m.length)→ρ b=.fresh:=fun b hb1 hb2=>by
   unfold Jr at hu
   simp only[aaA]at hu
   obtain⟨v,_,ps,_,ns,hns,hu⟩:=hu
   simp only[abO.injEq]at hu;subst hu
   obtain⟨c',_,_,k3⟩:=(Vm hns g b).2 (b-base) _ (by rw[al2];exact aa0 (by omega:m.length+(b-base)<h'.length)) (by omega)
   exact hnew b c' (aiO _ k3)
  refine⟨vs',_,out,h',_,ρ.via m z,hSc,hcall,H1,hdomc,hallc,hlr,fun e w' ⟨cv,Sc',ρc',he,CP⟩=>?_⟩
  obtain⟨S',ρ',k1,k2,k3,k4,k5⟩:=pT H hz hnd p3 p4 hmb hlm hmf hlf CP hnew' hu
  refine⟨cv,S',ρ',?_,k1,k2,k3,k4,k5⟩
  have hout:(∃x,out=.ret x)→∃x,d.out=.ret x:=by
   intro ⟨x,hx⟩
   unfold Jr at hu
   simp only[aaA]at hu
   obtain⟨v,_,ps,_,ns,_,hu⟩:=hu
   simp only[abO.injEq]at hu;subst hu;subst hx;exact⟨_,rfl⟩
  have hout2:(∃x,out=.pan x)→∃x,d.out=.pan x:=by
   intro ⟨x,hx⟩
   unfold Jr at hu
   simp only[aaA]at hu
   obtain⟨v,_,ps,_,ns,_,hu⟩:=hu
   simp only[abO.injEq]at hu;subst hu;subst hx;exact⟨_,rfl⟩
  cases e with
  |returned v=>exact⟨hout he.1,he.2⟩
  |panicked ch=>exact⟨hout2 he.1,he.2⟩
  |outgrown=>exact he
theorem nW{w:World}{S:Nat→Prop}{ρ:Ao}{g:HF}(H:HR w S ρ g){base z:Nat}(hz:ρ z=.fresh)(hgf:∀b,g b≠none→ρ b≠.fresh){f:Qr}{args:List AV}{cargs:List Value}
 (hargs:LR w S ρ args cargs) (hmb:∀vs vs' cs m,Au (Gy 12 g) args=some vs→Hz g [] vs=some (vs',cs,m)→Vd O f args→∀b∈m,b<base) {d:Jf} (hc:Et O g base f args=some d) (hall:Bf.all∈d.fs→∀b,base≤b→g b=none)
 (hnew:∀b c,Af.new b c∈d.es→ρ b=.fresh):
 ∃c' vs' h0 out h' Sc ρc,aiL f c'∧(∀b,S b→Sc b)∧O.call c' vs' h0=some (out,h')∧HR w Sc ρc (hf h0)∧(∀b,h0.length≤b→ρc b=.fresh)∧(∀b,b<h0.length→ρc b≠.fresh)∧LR w Sc ρc vs' cargs∧
 ∀e w',Ss h0 w Sc ρc out h' e w'→∃cv S' ρ',sM d.out cv e∧VR w' S' ρ' d.out.v cv∧HR w' S' ρ' (As g d.es)∧Ep w w' S S' ρ ρ'∧Oj (Fv d.es) w w' ρ ρ'∧Ph d.es ρ ρ':=by
 have sh:It O g base f args=some d→∃vs' h0 out h' Sc ρc,(∀b,S b→Sc b)∧O.call f vs' h0=some (out,h')∧HR w Sc ρc (hf h0)∧(∀b,h0.length≤b→ρc b=.fresh)∧(∀b,b<h0.length→ρc b≠.fresh)∧LR w Sc ρc vs' cargs∧
  ∀e w',Ss h0 w Sc ρc out h' e w'→∃cv S' ρ',sM d.out cv e∧VR w' S' ρ' d.out.v cv∧HR w' S' ρ' (As g d.es)∧Ep w w' S S' ρ ρ'∧Oj (Fv d.es) w w' ρ ρ'∧Ph d.es ρ ρ':=fun hc=>by
  unfold It at hc
  obtain⟨h,hh,hc⟩:=aaA.1 hc
  obtain⟨⟨out,h'⟩,hcall,hc⟩:=aaA.1 hc
  obtain⟨es,hes,rfl⟩:=aaK.1 hc
  obtain⟨hl,hg⟩:=ao7 hh
  have hno:∀b,h.length≤b→g b=none:=fun b hb=>hall (by simp) b (by omega)
  have nof:∀b,ρ b≠.fresh→b<h.length:=fun b hb=>by
   rcases am9 b h.length with h1|h1
   ·exact h1
   ·have hn:=hno b h1
    cases hρ:ρ b with
    |fresh=>exact(hb hρ).elim
    |dead=>rw[H.dead b hρ]at hn;cases hn
    |lp l=>obtain⟨_,_,_,_,_,_,_,q,_⟩:=H.lps b l hρ;rw[q]at hn;cases hn
    |pl cb co st sz=>
     obtain⟨_,_,_,_,_,_,_,_,q⟩:=H.at_ b cb co st sz hρ
     rcases q with⟨⟨wr,q⟩,_⟩|⟨q,_⟩<;>(rw[q]at hn;cases hn)
  refine⟨args,h.map CB.clean,out,h',S,ρ,fun _ h=>h,hcall,(H.listed hg nof).clean,fun b hb=>?_,fun b hb=>?_,hargs,fun e w' ⟨cv,S',ρ',he,CP⟩=>?_⟩
  ·simp only[auX]at hb
   by_cases hρ:ρ b=.fresh
   ·exact hρ
   ·have:=nof b hρ;omega
  ·simp only[auX]at hb
   exact hgf b (by rw[hg b _ (aa0 hb)];simp)
  ·obtain⟨k1,k2,k3,k4,k5⟩:=qQ H hg hno CP hes
   exact⟨cv,S',ρ',he,k1,k2,k3,k4,k5⟩
 by_cases hp:Vd O f args
 ·obtain⟨n,k1,k2⟩:=hp.eq
  rw[k2]at hc
  obtain⟨vs',h0,out,h',Sc,ρc,q⟩:=yG (f:=.fn n) H hz hgf hargs (fun vs vs' cs m h1 h2=>hmb vs vs' cs m h1 h2 hp) hc hnew
  exact⟨_,vs',h0,out,h',Sc,ρc,k1,q⟩
 ·rw[Ui hp]at hc
  obtain⟨vs',h0,out,h',Sc,ρc,q⟩:=sh hc
  exact⟨f,vs',h0,out,h',Sc,ρc,.inl rfl,q⟩
theorem jE(hO:Gi P G O){w:World}{S:Nat→Prop}(hI:Qp G w S){ρ:Ao}{g:HF}(H:HR w S ρ g){base z:Nat}(hz:ρ z=.fresh)(hgf:∀b,g b≠none→ρ b≠.fresh){c:Qr}{f:Nat}(hcf:jX c f){args:List AV}{cargs:Array Value}
 (hargs:LR w S ρ args cargs.toList) (hmb:∀vs vs' cs m,Au (Gy 12 g) args=some vs→Hz g [] vs=some (vs',cs,m)→Vd O c args→∀b∈m,b<base) {d:Jf} (hc:Et O g base c args=some d) (hall:Bf.all∈d.fs→∀b,base≤b→g b=none)
 (hnew:∀b c,Af.new b c∈d.es→ρ b=.fresh):
 (∀args w,(callFunc f args).run P w=.ok (.enter f args) w)∧
 Calls P f cargs w fun e w'=>∃cv S' ρ',sM d.out cv e∧VR w' S' ρ' d.out.v cv∧HR w' S' ρ' (As g d.es)∧Ep w w' S S' ρ ρ'∧Oj (Fv d.es) w w' ρ ρ'∧Ph d.es ρ ρ':=by
 obtain⟨c',vs',h0,out,h',Sc,ρc,kc,k0,k1,k2,k3,k4,k5,k6⟩:=nW H hz hgf hargs hmb hc hall hnew
 rcases hcf.to kc with rfl|rfl
 ·obtain⟨henter,hok⟩:=hO.1 f vs' _ out h' k1
  exact⟨henter,(hok w _ _ cargs (hI.mono k0) k2 k3 k4 k5).mono k6⟩
 ·obtain⟨henter,hok⟩:=hO.2.2 f vs' _ out h' k1
  exact⟨henter,(hok w _ _ cargs (hI.mono k0) k2 k3 k4 k5).mono k6⟩
theorem fH(hO:Gi P G O){w:World}{S:Nat→Prop}(hI:Qp G w S){ρ:Ao}{g:HF}(H:HR w S ρ g){base z:Nat}(hz:ρ z=.fresh)(hgf:∀b,g b≠none→ρ b≠.fresh){args:List AV}{cargs:Array Value}{l:Nat}
 (hargs:LR w S ρ args (cargs.toList++[.func (.yield l) #[] #[]])) {d:Jf} (hc:Et O g base .round args=some d) (hall:Bf.all∈d.fs→∀b,base≤b→g b=none)
 (hnew:∀b c,Af.new b c∈d.es→ρ b=.fresh):
 ∃fn tmps asg body,(Instr.yield l cargs).run P w=.ok (.round l fn tmps asg body) w∧∀F nn,WF F→RoundIn F nn P l fn tmps asg body w fun e w'=>∃cv S' ρ',sM d.out cv e∧VR w' S' ρ' d.out.v cv∧HR w' S' ρ' (As g d.es)∧Ep w w' S S' ρ ρ'∧Oj (Fv d.es) w w' ρ ρ'∧Ph d.es ρ ρ':=by
 obtain⟨c',vs',h0,out,h',Sc,ρc,kc,k0,k1,k2,k3,k4,k5,k6⟩:=nW H hz hgf hargs (fun _ _ _ _ _ _ ⟨_,h⟩=>by rcases h with h|h<;>simp at h) hc hall hnew
 obtain rfl:c'=.round:=by
  rcases kc with rfl|⟨n,h,_⟩
  ·rfl
  ·cases h
 obtain⟨fn,tmps,asg,body,q1,q2⟩:=hO.2.1 vs' _ out h' k1 w _ _ cargs l (hI.mono k0) k2 k3 k4 k5
 exact⟨fn,tmps,asg,body,q1,fun F nn hF=>(q2 F nn hF).mono k6⟩
theorem uZ{h:Aa}{c:Qr}{args:List AV}{d:Jf}(hc:Db O (hf h) h.length c args=some d):Dt h d.es:=by
 unfold Db at hc
 simp only[aaA]at hc
 obtain⟨vs,hvs,⟨vs',cs,m⟩,hp,hc⟩:=hc
 simp only at hc
 split at hc
 ·simp at hc
 ·rename_i hlm0
  obtain⟨⟨out,h'⟩,hcall,hu⟩:=aaA.1 hc
  obtain⟨p1,p2,p3,p4,p5,p6⟩:=fX hp
  exact uG (p2 (by simp)) p3 p4 (fun b hb hm=>hlm0 (by rw[arW];exact⟨b,hb,by simpa using hm⟩)) hu
theorem sV{h:Aa}{c:Qr}{args:List AV}{d:Jf}(hc:It O (hf h) h.length c args=some d):Dt h d.es:=by
 unfold It at hc
 rw[akG]at hc
 simp only[avO]at hc
 obtain⟨⟨out,h'⟩,hcall,hc⟩:=aaA.1 hc
 obtain⟨es,hes,rfl⟩:=aaK.1 hc
 exact sG hes
theorem Zm{h:Aa}{c:Qr}{args:List AV}{d:Jf}(hc:Et O (hf h) h.length c args=some d):Dt h d.es:=by
 by_cases hp:Vd O c args
 ·obtain⟨n,_,k2⟩:=hp.eq
  rw[k2]at hc
  exact uZ hc
 ·rw[Ui hp]at hc
  exact sV hc
theorem aaM{h:Aa}{vs vs':List AV}{cs:List CB}{m:List Nat}(hp:Hz (hf h) [] vs=some (vs',cs,m)):∀b∈m,b<h.length:=fun b hb=>by
 obtain⟨p1,p2,p3,p4,p5,p6⟩:=fX hp
 obtain⟨j,hj,rfl⟩:=afR.1 hb
 obtain⟨b',c,k1,k2,_⟩:=p4 j _ (aa0 (by omega:j<cs.length))
 rw[aa0 hj]at k1;cases k1
 exact Ii k2
theorem Tj:∀{es:List Af} {n:Nat},Xl n es→∀b c,Af.new b c∈es→n≤b
 | [],_,_,b,c,h=>by simp at h
 | .new i c'::es,n,ok,b,c,h=>by
   rcases af7.1 h with h|h
   ·cases h;exact Nat.le_of_eq ok.1.symm
   ·have:=Tj ok.2 b c h;omega
 | .cells i r o vs::es,n,ok,b,c,h=>by
   rcases af7.1 h with h|h
   ·cases h
   ·exact Tj ok.2 b c h
 | .put i c'::es,n,ok,b,c,h=>by
   rcases af7.1 h with h|h
   ·cases h
   ·exact Tj ok.2 b c h
theorem qV{h:Aa}{b:Nat}(hb:h.length≤b):hf h b=none:=al0 hb
theorem eL(hO:Gi P G O){h0:Aa}{w0:World}{S0:Nat→Prop}(hI:Qp G w0 S0){ρ0:Ao}{h:Aa}{w:World}{S:Nat→Prop}{ρ:Ao}(FF:FI h0 w0 S0 ρ0 h w S ρ){c:Qr}{f:Nat}(hcf:jX c f){args:List AV}{cargs:Array Value}
 (hargs:LR w S ρ args cargs.toList) {d:Jf} (hc:Et O (hf h) h.length c args=some d):
 (∀args w,(callFunc f args).run P w=.ok (.enter f args) w)∧
 Calls P f cargs w fun e w'=>∃cv S' ρ',sM d.out cv e∧VR w' S' ρ' d.out.v cv∧FI h0 w0 S0 ρ0 (Bo h d.es) w' S' ρ'∧Ep w w' S S' ρ ρ':=by
 have hgood:=Zm hc
 obtain⟨h1,h2⟩:=jE hO (hI.sim FF.sim) FF.hr (FF.dom _ (ae4 _)) (fun b hb=>FF.all b (by
  cases hg:hf h b with
  |none=>exact(hb hg).elim
  |some c=>exact Ii hg)) hcf hargs (fun vs vs' cs m _ hp _=>aaM hp) hc (fun _ b hb=>qV hb) (fun b c hb=>FF.dom b (Tj hgood.ok b c hb))
 exact⟨h1,h2.mono fun e w' ⟨cv,S',ρ',q1,q2,q3,q4,q5,q6⟩=>⟨cv,S',ρ',q1,q2,FF.step hgood q3 q4 q5 q6,q4⟩⟩
theorem rE(hO:Gi P G O){h0:Aa}{w0:World}{S0:Nat→Prop}(hI:Qp G w0 S0){ρ0:Ao}{h:Aa}{w:World}{S:Nat→Prop}{ρ:Ao}(FF:FI h0 w0 S0 ρ0 h w S ρ){args:List AV}{cargs:Array Value}{l:Nat}
 (hargs:LR w S ρ args (cargs.toList++[.func (.yield l) #[] #[]])) {d:Jf} (hc:Et O (hf h) h.length .round args=some d):
 ∃fn tmps asg body,(Instr.yield l cargs).run P w=.ok (.round l fn tmps asg body) w∧∀F nn,WF F→RoundIn F nn P l fn tmps asg body w fun e w'=>∃cv S' ρ',sM d.out cv e∧VR w' S' ρ' d.out.v cv∧FI h0 w0 S0 ρ0 (Bo h d.es) w' S' ρ'∧Ep w w' S S' ρ ρ':=by
 have hgood:=Zm hc
 obtain⟨fn,tmps,asg,body,h1,h2⟩:=fH hO (hI.sim FF.sim) FF.hr (FF.dom _ (ae4 _)) (fun b hb=>FF.all b (by
  cases hg:hf h b with
  |none=>exact(hb hg).elim
  |some c=>exact Ii hg)) hargs hc (fun _ b hb=>qV hb) (fun b c hb=>FF.dom b (Tj hgood.ok b c hb))
 exact⟨fn,tmps,asg,body,h1,fun F nn hF=>(h2 F nn hF).mono fun e w' ⟨cv,S',ρ',q1,q2,q3,q4,q5,q6⟩=>⟨cv,S',ρ',q1,q2,FF.step hgood q3 q4 q5 q6,q4⟩⟩
theorem Fa(isG:Bool)(v:AV)(k:AV→R):aaQ isG v k=k v:=by
 unfold aaQ
 cases isG with
 |false=>rfl
 |true=>
  cases v with
  |bool b=>cases b<;>rfl
  |_=>rfl
theorem Pe{ops:Array Oper}{w:World}{S:Nat→Prop}{ρ:Ao}{tmps:List AV}{a:Act}(T:TR w S ρ tmps a.tmps){o:Oper}{b:Bool}(h:Ey ops.toList tmps o=some b):Region.wanted o (yielded ops a.tmps)=b:=by
 unfold Ey at h
 unfold Region.wanted
 cases hg:o.guard with
 |none=>rw[hg]at h;simp at h;subst h;rfl
 |some jw=>
  obtain⟨j,want⟩:=jw
  rw[hg]at h
  simp only at h ⊢
  rw[anV]at h
  unfold yielded
  cases hd:(ops[j]?).bind (·.dst)with
  |none=>rw[hd]at h;simp at h
  |some d=>
   rw[hd]at h
   simp only[avO]at h ⊢
   have hv:=Vk T d
   cases hx:a.tmps[d]? with
   |none=>
    have hu:a.tmps.getD d undef=undef:=by rw[ae2,hx];rfl
    rw[hu]at hv
    split at h
    ·rename_i b' ht;rw[ht]at hv;unfold undef at hv;cases hv
    ·simp at h;subst h;rfl
    ·simp at h
   |some x=>
    have hu:a.tmps.getD d undef=x:=by rw[ae2,hx];rfl
    rw[hu]at hv
    split at h
    ·rename_i b' ht;rw[ht]at hv;cases hv;simp at h;subst h;rfl
    ·rename_i ht;rw[ht]at hv;cases hv;simp at h;subst h;rfl
    ·simp at h
end
end
noncomputable section
open Go.RowKit
def wU:Target→Option Nat
 | .collected r=>some r
 |_=>none
structure Beg where
 h0:Aa
 w0:World
 S0:Nat→Prop
 ρ0:Ao
 ro:Option Nat
def wW(w0 w:World)(S:Nat→Prop)(ds:List Deferred):Prop:=∀d∈ds,∃r,d={ target:=.collected r,args:=#[] }∧w.heap[r]?=some (.deferred (some []))∧¬S r∧w0.heap.size≤r
def Ql(B:Beg)(s:St)(a:Act)(w:World)(S:Nat→Prop)(ρ:Ao):Prop:=
 FI B.h0 B.w0 B.S0 B.ρ0 s.h w S ρ∧TR w S ρ s.tmps a.tmps∧wW B.w0 w S a.defers∧a.defers.Pairwise (fun d e=>wU d.target≠wU e.target)∧∀l,B.ro=some l→∃r,w.heap[l]?=some (.loop r)
def gY(w:World)(S:Nat→Prop)(ρ:Ao):Ex→Exit→Prop
 | .normal,.normal=>True
 | .exit i,.exit j=>i=j
 | .ret,.ret=>True
 | .pan v,.panic ch=>∃cv,VR w S ρ v cv∧ch=[{ v:=cv,recovered:=false }]
 |_,_=>False
def sN(B:Beg)(e:Ex)(s:St)(ex:Exit)(a:Act)(w:World):Prop:=∃S ρ,Ql B s a w S ρ∧gY w S ρ e ex
def OQ(B:Beg)(k:St→Qy→R)(kp:AV→St→R)(r:Ex × St):Exit→Act→World→Prop
 | .normal,a,w=>∃s log S ρ,k s log=some r∧Ql B s a w S ρ
 | .panic ch,a,w=>∃v s S ρ cv,kp v s=some r∧Ql B s a w S ρ∧VR w S ρ v cv∧ch=[{ v:=cv,recovered:=false }]
 |_,_,_=>False
section
variable {P:Program} {G:Nat→Option Obj} {O:Ea} {F:Fence} {nn:Nat}
theorem cC{o:Op}{d:Ft}{g:HF}{base:Nat}{tmps:List AV}(h:exec P g base tmps o=some d):∀c,o≠.defer c:=fun c e=>by subst e;simp[exec]at h
theorem lE(a:Act)(d:Option Nat)(v:Value):(a.put d v).defers=a.defers:=by cases d<;>rfl
theorem Ql.put{B:Beg}{s:St}{a:Act}{w:World}{S:Nat→Prop}{ρ:Ao}(h:Ql B s a w S ρ)(d:Option Nat){x:AV}{v:Value}(k:VR w S ρ x v):Ql B ⟨Ev.put s.tmps d x,s.h⟩ (a.put d v) w S ρ:=
 ⟨h.1,nG h.2.1 d k,by rw[lE];exact h.2.2⟩
theorem wW.later{w0 w w':World}{S S':Nat→Prop}{ρ ρ':Ao}{g:HF}{ds:List Deferred}(h:wW w0 w S ds)(H:HR w S ρ g)(hs:Ep w w' S S' ρ ρ'):wW w0 w' S' ds:=fun d hd=>by
 obtain⟨r,k1,k2,k3,k4⟩:=h d hd
 refine⟨r,k1,hs.objs r _ k2 rfl,fun h'=>?_,k4⟩
 rcases hs.grow r h' with q|q|⟨id,co,st,sz,q⟩
 ·exact k3 q
 ·have:=(acY.1 k2).1;omega
 ·obtain⟨c,e,fz,fl,rows,q1,_⟩:=H.at_ _ _ _ _ _ q
  rw[k2]at q1;cases q1
theorem Ql.later{B:Beg}{s:St}{a:Act}{w w':World}{S S':Nat→Prop}{ρ ρ':Ao}(h:Ql B s a w S ρ){h':Aa}(hF:FI B.h0 B.w0 B.S0 B.ρ0 h' w' S' ρ')(hs:Ep w w' S S' ρ ρ'):Ql B ⟨s.tmps,h'⟩ a w' S' ρ':=
 ⟨hF,LR.sim hs h.2.1,h.2.2.1.later h.1.hr hs,h.2.2.2.1,fun l hl=>by
   obtain⟨r,hr⟩:=h.2.2.2.2 l hl
   obtain⟨st,pe,k⟩:=hs.loops l r hr
   exact⟨_,k⟩⟩
theorem xR{ty:TypeId}{name:String}{f:FuncId}(h:bB P ty name=some f)(cv:Value)(w:World):(Go.method (P.types.size+Made.depth) ty cv name).run P w=.ok (f,cv) w:=by
 unfold bB at h
 simp only[aaA]at h
 obtain⟨i,hi,m,hm,h⟩:=h
 split at h
 ·rename_i f' e hp hf hu
  simp at h;subst h
  obtain⟨k,hk⟩:∃k,P.types.size+Made.depth=k+1:=⟨P.types.size+(Made.depth-1),by simp only[Made.depth]⟩
  rw[hk]
  simp[Go.method,typeInfo,hi,hm,hp,hf,Go.follow,Go.receiverAt,run_underlying hu,Go.Place.get]
 ·simp at h
theorem bP{o:Oper}{c:Call}{t:List AV}{a:Act}{w:World}{S:Nat→Prop}{ρ:Ao}(hop:o.op=.call c)(T:TR w S ρ t a.tmps){fc:Qr}{args:List AV}(h:callee P t c=some (fc,args)):
 (∃f car,fc=Uc f args∧LR w S ρ args (Array.toList car)∧((callFunc f car).run P w=.ok (.enter f car) w→(execOp a.eval o).run P w=.ok (.enter f car) w))∨
 (∃car l,fc=.round∧LR w S ρ args (Array.toList car++[.func (.yield l) #[] #[]])∧(∃vs b,args=vs++[.yl b])∧∀r,(Instr.yield l car).run P w=.ok r w→(execOp a.eval o).run P w=.ok r w):=by
 unfold callee at h
 split at h
 ·rename_i fo hfo
  simp only[aaA]at h
  obtain⟨fv,hfv,vs,hvs,h⟩:=h
  have hfr:=Ak T hfv
  have hvr:=Iz T hvs
  generalize hfe:a.eval fo=cf at hfr
  split at h
  ·rename_i f fa fb
   simp only[abO.injEq,Prod.mk.injEq]at h
   obtain⟨rfl,rfl⟩:=h
   cases hfr with
   | @func _ _ _ _ va vc q1 q2 q3 q4=>
     refine .inl ⟨f,va++c.args.map a.eval++vc,rfl,?_,fun he=>?_⟩
     ·have e1:(va++c.args.map a.eval++vc).toList=va.toList++c.args.toList.map a.eval++vc.toList:=by simp
      rw[e1]
      exact(LR.append (LR.append ⟨by simpa using q1,fun i x v hx hv=>q3 i x v hx (by simpa using hv)⟩ hvr) ⟨by simpa using q2,fun i x v hx hv=>q4 i x v hx (by simpa using hv)⟩)
     ·simp only[execOp,hop,Sem.run_bind,resolve,hfo,hfe,Deferred.ofValue,Sem.run_pure,Result.andThen_ok,invoke]
      rw[he]
  ·rename_i b
   simp only[abO.injEq,Prod.mk.injEq]at h
   obtain⟨rfl,rfl⟩:=h
   have hyl:∃l,cf=.func (.yield l) #[] #[]:=by cases hfr<;>exact⟨_,rfl⟩
   obtain⟨l,rfl⟩:=hyl
   refine .inr ⟨c.args.map a.eval,l,rfl,LR.append (by simpa using hvr) (.cons hfr .nil),⟨vs,b,rfl⟩,fun r hr=>?_⟩
   simp only[execOp,hop,Sem.run_bind,resolve,hfo,hfe,Deferred.ofValue,Sem.run_pure,Result.andThen_ok,invoke]
   simpa using hr
  ·simp at h
 ·rename_i ro name hro
  simp only[aaA]at h
  obtain⟨rv,hrv,vs,hvs,h⟩:=h
  have hrr:=Ak T hrv
  have hvr:=Iz T hvs
  generalize hre:a.eval ro=cr at hrr
  split at h
  ·rename_i ty v
   obtain⟨f,hf,h⟩:=aaK.1 h
   simp only[Prod.mk.injEq]at h
   obtain⟨rfl,rfl⟩:=h
   cases hrr with
   | @iface _ _ _ cv hy=>
     refine .inl ⟨f,#[cv]++c.args.map a.eval,rfl,?_,fun he=>?_⟩
     ·have e1:(#[cv]++c.args.map a.eval).toList=cv::c.args.toList.map a.eval:=by simp
      rw[e1];exact .cons hy hvr
     ·have hx:(#[Value.iface ty cv]++c.args.map a.eval).extract 1 (#[Value.iface ty cv]++c.args.map a.eval).size=c.args.map a.eval:=by
       apply Array.ext'
       simp
       rw[List.take_of_length_le (by simp)]
      have h0:(#[Value.iface ty cv]++c.args.map a.eval)[0]?=some (.iface ty cv):=by rw[Array.getElem?_append_left (by simp)];rfl
      simp only[execOp,hop,Sem.run_bind,resolve,hro,hre,Sem.run_pure,Result.andThen_ok,invoke,h0,hx,callMethod,run_program,xR hf]
      rw[he]
  ·simp at h
 ·simp at h
theorem fD(hF:WF F)(hO:Gi P G O){ops:Array Oper}{B:Beg}(hI:Qp G B.w0 B.S0){k:St→Qy→R}{kp:AV→St→R}{r:Ex × St}:∀{rest:List Oper} {i:Nat} {s:St} {log:Qy} {a:Act} {w:World} {S:Nat→Prop} {ρ:Ao},
 (∀j o,rest[j]?=some o→ops[i+j]?=some o)→Ez O P ops.toList (Rz ops.toList) rest i s log k kp=some r→Ql B s a w S ρ→wpOpsIn F nn P ops (OQ B k kp r) (List.range' i rest.length) a w
 | [],i,s,log,a,w,S,ρ,_,h,hs=>⟨s,log,S,ρ,h,hs⟩
 |o::rest,i,s,log,a,w,S,ρ,hops,h,hs=>by
  have ho:ops[i]?=some o:=by have:=hops 0 o rfl;simpa using this
  have hrest:∀j o',rest[j]?=some o'→ops[i+1+j]?=some o':=fun j o' hj=>by have:=hops (j+1) o' (by simpa using hj);rw[←this];congr 1;omega
  have IH:∀{s':St} {log':Qy} {a':Act} {w':World} {S':Nat→Prop} {ρ':Ao},Ez O P ops.toList (Rz ops.toList) rest (i+1) s' log' k kp=some r→Ql B s' a' w' S' ρ'→wpOpsIn F nn P ops (OQ B k kp r) (List.range' (i+1) rest.length) a' w':=fun h' hs'=>fD hF hO hI hrest h' hs'
  have habout:∀f,o.about P w a.eval=some f→F.fn f:=fun f _=>hF.fn f
  simp only[af8,List.range'_succ]
  unfold wpOpsIn
  simp only[ho]
  unfold Ez at h
  split at h
  ·simp at h
  ·rename_i hw
   rw[Pe hs.2.1 hw]
   simp only[af4,if_false]
   exact⟨habout,IH h (hs.put o.dst Nv)⟩
  ·rename_i hw
   rw[Pe hs.2.1 hw]
   simp only[if_true]
   refine⟨habout,?_⟩
   cases hk:Fo o.op with
   |call c=>
    rw[hk]at h
    simp only[aaA]at h
    obtain⟨⟨fc,args⟩,hcal,d,hd,h⟩:=h
    have hop:o.op=.call c∧∀b,c.callee≠.builtin b:=by
     unfold Fo at hk
     split at hk<;>simp at hk
     rename_i c' hnb hop
     subst hk
     exact⟨hop,fun b e=>by obtain⟨cal,as,ts⟩:=c';simp at e;subst e;exact hnb b as ts rfl⟩
    obtain⟨hop,hnb⟩:=hop
    have hsem:o.semAt F.round a.eval=execOp a.eval o:=Oper.semAt_eq _ _ _ (fun c e=>by rw[hop]at e;cases e)
    rw[hsem]
    rcases bP hop hs.2.1 hcal with⟨f,car,rfl,hlr,hrn⟩|⟨car,l,rfl,hlr,⟨vs,b,rfl⟩,hrn⟩
    ·simp only at hd
     obtain⟨henter,hcalls⟩:=eL hO hI hs.1 (jM _ _) hlr hd
     rw[hrn (henter _ _)]
     refine⟨fun hdp=>by rw[hF.depth]at hdp;simp at hdp,hF.calls (hcalls.mono fun e w' ⟨cv,S',ρ',he,hv,hFI,hsim⟩=>?_)⟩
     have hs':=hs.later hFI hsim
     cases e with
     |returned v=>
      obtain⟨⟨x,hx⟩,rfl⟩:=he
      rw[hx]at h hv
      simp only[Fa]at h
      exact IH h (hs'.put o.dst hv)
     |panicked ch=>
      obtain⟨⟨x,hx⟩,rfl⟩:=he
      rw[hx]at h hv
      exact⟨x,_,S',ρ',cv,h,hs',hv,rfl⟩
     |outgrown=>exact he.elim
    ·simp only at hd
     obtain⟨fn,tmps,asg,body,hy,hround⟩:=rE hO hI hs.1 hlr hd
     rw[hrn _ hy]
     refine⟨fun hdp=>by rw[hF.depth]at hdp;simp at hdp,(hround F _ hF).mono fun e w' ⟨cv,S',ρ',he,hv,hFI,hsim⟩=>?_⟩
     have hs':=hs.later hFI hsim
     cases e with
     |returned v=>
      obtain⟨⟨x,hx⟩,rfl⟩:=he
      rw[hx]at h hv
      simp only[Fa]at h
      exact IH h (hs'.put o.dst hv)
     |panicked ch=>
      obtain⟨⟨x,hx⟩,rfl⟩:=he
      rw[hx]at h hv
      exact⟨x,_,S',ρ',cv,h,hs',hv,rfl⟩
     |outgrown=>exact he.elim
   |panic x=>
    rw[hk]at h
    simp only[aaA]at h
    obtain⟨v,hv,h⟩:=h
    have hop:o.op=.panic x:=by
     unfold Fo at hk
     split at hk<;>simp at hk
     rename_i x' hop;subst hk;exact hop
    have hsem:o.semAt F.round a.eval=execOp a.eval o:=Oper.semAt_eq _ _ _ (fun c e=>by rw[hop]at e;cases e)
    rw[hsem]
    have hvr:=Ak hs.2.1 hv
    split at h
    ·rename_i t' y'
     generalize hce:a.eval x=cc at hvr
     cases hvr with
     | @iface _ _ _ cv' hy=>
       have hrun:(execOp a.eval o).run P w=.halt (.panic (.iface t' cv')) w:=by
        simp only[execOp,hop,Sem.run_bind,hce,Instr.panic,run_goPanic,Result.andThen_halt]
       rw[hrun]
       exact⟨_,s,S,ρ,_,h,hs,.iface hy,rfl⟩
    ·simp at h
   |other=>
    rw[hk]at h
    simp only[aaA,Fa]at h
    obtain⟨d,hd,h⟩:=h
    have hsem:o.semAt F.round a.eval=execOp a.eval o:=Oper.semAt_eq _ _ _ (cC hd)
    rw[hsem]
    obtain⟨cv,w',ρ',hran,hv,hHR,hsim,hloc,hfrs⟩:=iS hs.1.hr (hs.1.dom _ (ae4 _)) hs.2.1 hd
    have hFI:=hs.1.step (oH hd) hHR hsim hloc hfrs
    have hs':=(hs.later hFI hsim).put o.dst hv
    rcases hran with hran|⟨hran,rfl⟩
    ·rw[hran];exact IH h hs'
    ·rw[hran];exact IH h hs'
def aM(P:Program)(G:Nat→Option Obj)(O:Ea):Prop:=∀c s e s',O.loop c s=some (e,s')→∀(F:Fence) (nn:Nat),WF F→∀B a w S ρ,B.ro=F.round→Qp G B.w0 B.S0→Ql B s a w S ρ→(Code.loop c).wpIn F nn P (sN B e s') a w
def bG(P:Program)(G:Nat→Option Obj)(O:Ea):Prop:=∀(ops:Array Oper) (B:Beg) (k:St→Qy→R) (r:Ex × St) (s:St) (a:Act) (w:World) (S:Nat→Prop) (ρ:Ao) (id:Nat) (F:Fence) (nn:Nat),WF F→
 Nh ops.toList=true→Ez O P ops.toList (Rz ops.toList) ops.toList 0 s [] (fun s log=>Gg (Dp ops.toList log) (k s log)) (fun _ _=>none)=some r→Qp G B.w0 B.S0→Ql B s a w S ρ→
 (Code.region id ops true).wpIn F nn P (OQ B k (fun _ _=>none) r) a w
def Iy:Ju→Option Ex
 | .ready=>some .normal
 | .done .ret=>some .ret
 | .done (.exit i)=>some (.exit i)
 |_=>none
def Wt(P:Program)(G:Nat→Option Obj)(O:Ea):Prop:=∀f (ps:Array Nat) asg body (s:St) g fa fb d v ps' asg' body' tm' st e,Ae s.tmps f=some (.func (.func g) fa fb)→
 Et O (hf (s.h++[.lp ps.toList asg body s.tmps .ready])) (s.h.length+1) (Uc g (fa++[.yl s.h.length]++fb)) (fa++[.yl s.h.length]++fb)=some d→d.out=.ret v→
 (Bo (s.h++[.lp ps.toList asg body s.tmps .ready]) d.es)[s.h.length]?=some (.lp ps' asg' body' tm' st)→Iy st=some e→
 ∀(F:Fence) (nn:Nat),WF F→∀B a w S ρ,B.ro=F.round→Qp G B.w0 B.S0→Ql B s a w S ρ→
  (Code.rangeFunc f ps asg body).wpIn F nn P (sN B e ⟨s.tmps,(Bo (s.h++[.lp ps.toList asg body s.tmps .ready]) d.es).set s.h.length .dead⟩) a w
theorem Ks{b:Frame}{a:Act}{k:List Item}{cs:List Frame}{w:World}{c:Code}:step P (lone (b.atR a (.code (.scope c)::k)) cs w)=.next (lone (b.atR a (.code c::.inScope c::k)) cs w):=
 step_lone_go (by simp[stepG,stepG.exec,Frame.atR])
theorem mJ{b:Frame}{a:Act}{k:List Item}{cs:List Frame}{w:World}{c:Code}:step P (lone (b.atR a (.inScope c::k)) cs w)=.next (lone (b.atR a k) cs w):=
 step_lone_go (by simp[stepG,stepG.exec,Frame.atR])
def auN(Q:Exit→Act→World→Prop):Exit→Act→World→Prop
 | .goto _,_,_=>False
 |e,a,w=>Q e a w
theorem xQ{F:Fence}{n:Nat}{c:Code}{Q:Exit→Act→World→Prop}{a:Act}{w:World}(h:c.wpIn F n P (auN Q) a w):(Code.scope c).wpIn F n P Q a w:=by
 intro b k cs hro hb hr
 have h0:(lone (b.atR a (.code (.scope c)::k)) cs w).fenced P F:=fenced_calm hb hr rfl
 obtain⟨e,a₁,w₁,hq,harr⟩:=h b (.inScope c::k) cs hro hb hr
 cases e with
 |normal=>exact⟨.normal,a₁,w₁,hq,.head h0 Ks (StepsIn.trans harr (.one (fenced_calm hb hr rfl) mJ))⟩
 |exit id'=>
  have hx:exitTo id' (.inScope c::k)=exitTo id' k:=by simp[exitTo]
  exact⟨.exit id',a₁,w₁,hq,fun k' hk=>.head h0 Ks (harr.1 k' (by rw[hx];exact hk)),
   fun hr' hk=>let ⟨k₁,h1,h2⟩:=harr.2 hr' (by rw[hx];exact hk);⟨k₁,h1,.head h0 Ks h2⟩⟩
 |goto l=>exact hq.elim
 |ret=>exact⟨_,a₁,w₁,hq,.of_steps (.one h0 Ks) harr⟩
 |panic ch=>exact⟨_,a₁,w₁,hq,.of_steps (.one h0 Ks) harr⟩
 |outgrown=>exact⟨_,a₁,w₁,hq,.of_steps (.one h0 Ks) harr⟩
def jJ(P:Program)(O:Ea)(B:Beg)(n:Nat)(k:List Ar)(r:Ex × St)(ex:Exit)(a:Act)(w:World):Prop:=∃m,m<n∧∃e s,Cd (Ce O P m) k e s=some r∧sN B e s ex a w
theorem jJ.le{B:Beg}{n n':Nat}{k:List Ar}{r:Ex × St}{ex:Exit}{a:Act}{w:World}(h:jJ P O B n k r ex a w)(hn:n≤n'):jJ P O B n' k r ex a w:=by
 obtain⟨m,hm,rest⟩:=h;exact⟨m,by omega,rest⟩
theorem Tc(hF:WF F)(hO:Gi P G O)(hL:aM P G O)(hD:bG P G O)(hR:Wt P G O){B:Beg}(hB:B.ro=F.round)(hI:Qp G B.w0 B.S0){r:Ex × St}:∀(n:Nat) {c:Code} {k:List Ar} {s:St} {a:Act} {w:World} {S:Nat→Prop} {ρ:Ao},
 Ce O P n c k s=some r→Ql B s a w S ρ→c.wpIn F nn P (jJ P O B n k r) a w:=by
 intro n
 induction n using an6 with
 |_ n IH=>
  intro c k s a w S ρ h hs
  cases n with
  |zero=>simp[Ce]at h
  |succ n=>
   have leaf:∀{e:Ex} {s':St} {ex:Exit} {a':Act} {w':World},Cd (Ce O P n) k e s'=some r→sN B e s' ex a' w'→jJ P O B (n+1) k r ex a' w':=fun h1 h2=>⟨n,by omega,_,_,h1,h2⟩
   cases c with
   |skip=>exact wpIn_skip (leaf h ⟨S,ρ,hs,trivial⟩)
   |label l=>exact wpIn_label (leaf h ⟨S,ρ,hs,trivial⟩)
   |region id ops draw=>
    have fin:∀(kp:AV→St→R),(∀v s',kp v s'=some r→Cd (Ce O P n) k (.pan v) s'=some r)→∀(ex:Exit) (a':Act) (w':World),
     OQ B (fun s _=>Cd (Ce O P n) k .normal s) kp r ex a' w'→jJ P O B (n+1) k r ex a' w':=fun kp hkp ex a' w' hq=>by
     cases ex with
     |normal=>obtain⟨s',log,S',ρ',h1,h2⟩:=hq;exact leaf h1 ⟨S',ρ',h2,trivial⟩
     |panic ch=>obtain⟨v,s',S',ρ',cv,h1,h2,h3,h4⟩:=hq;exact leaf (hkp v s' h1) ⟨S',ρ',h2,cv,h3,h4⟩
     |_=>exact hq.elim
    cases draw with
    |false=>
     have:=fD (nn:=nn) hF hO hI (ops:=ops) (i:=0) (rest:=ops.toList) (fun j o hj=>by simpa using hj) h hs
     refine wpIn_mono (wpIn_region (by rw[List.range_eq_range'];simpa using this)) (fin _ (fun v s' h=>h))
    |true=>
     have hst:Nh ops.toList=true∧Ez O P ops.toList (Rz ops.toList) ops.toList 0 s [] (fun s log=>Gg (Dp ops.toList log) (Cd (Ce O P n) k .normal s)) (fun _ _=>none)=some r:=by
      simp only[Ce,Gg]at h
      cases hd:Nh ops.toList with
      |true=>rw[hd]at h;exact⟨rfl,h⟩
      |false=>rw[hd]at h;simp at h
     exact wpIn_mono (hD ops B (fun s _=>Cd (Ce O P n) k .normal s) r s a w S ρ id F nn hF hst.1 hst.2 hI hs) (fin _ (fun v s' h=>by simp at h))
   |seq x y=>
    have h1:=IH n (by omega) (c:=x) (k:=.code y::k) h hs
    refine wpIn_seq (wpIn_mono h1 fun ex a' w' hk=>?_)
    obtain⟨m,hm,e,s',hp,S',ρ',hs',he⟩:=hk
    cases e with
    |normal=>
     cases ex<;>simp[gY]at he
     exact wpIn_mono (IH m (by omega) (c:=y) (k:=k) hp hs') (fun ex a' w' hk=>hk.le (by omega))
    |exit i=>
     cases ex<;>simp[gY]at he
     exact⟨m,by omega,_,_,hp,S',ρ',hs',he⟩
    |ret=>
     cases ex<;>simp[gY]at he
     exact⟨m,by omega,_,_,hp,S',ρ',hs',trivial⟩
    |pan v=>
     cases ex with
     |panic ch=>exact⟨m,by omega,_,_,hp,S',ρ',hs',he⟩
     |_=>simp[gY]at he
   |cond oc x y=>
    simp only[Ce,abB]at h
    split at h
    ·rename_i b hb
     have hv:=Ak hs.2.1 hb
     generalize hce:a.eval oc=cc at hv
     cases hv
     cases b with
     |true=>exact wpIn_cond_true hce (wpIn_mono (IH n (by omega) (c:=x) (k:=k) h hs) (fun ex a' w' hk=>hk.le (by omega)))
     |false=>exact wpIn_cond_false hce (wpIn_mono (IH n (by omega) (c:=y) (k:=k) h hs) (fun ex a' w' hk=>hk.le (by omega)))
    ·simp at h
   |block id x=>
    have h1:=IH n (by omega) (c:=x) (k:=.blk id::k) h hs
    refine wpIn_block (wpIn_mono h1 fun ex a' w' hk=>?_)
    obtain⟨m,hm,e,s',hp,S',ρ',hs',he⟩:=hk
    cases e with
    |normal=>
     cases ex<;>simp[gY]at he
     exact⟨m,by omega,.normal,s',hp,S',ρ',hs',trivial⟩
    |exit i=>
     cases ex<;>simp[gY]at he
     subst he
     simp only[Exit.inBlock]
     by_cases hi:i=id
     ·subst hi
      simp only[Cd,beq_self_eq_true,cond_true]at hp
      rw[if_pos rfl]
      exact⟨m,by omega,.normal,s',hp,S',ρ',hs',trivial⟩
     ·have hb:(i==id)=false:=by simpa using hi
      simp only[Cd,hb,cond_false]at hp
      rw[if_neg hi]
      exact⟨m,by omega,.exit i,s',hp,S',ρ',hs',rfl⟩
    |ret=>
     cases ex<;>simp[gY]at he
     exact⟨m,by omega,.ret,s',hp,S',ρ',hs',trivial⟩
    |pan v=>
     cases ex with
     |panic ch=>exact⟨m,by omega,.pan v,s',hp,S',ρ',hs',he⟩
     |_=>simp[gY]at he
   |loop x=>
    simp only[Ce,Xt]at h
    split at h
    ·rename_i e s' hl
     exact wpIn_mono (hL x s e s' hl F nn hF B a w S ρ hB hI hs) (fun ex a' w' hp=>leaf h hp)
    ·simp at h
   |exit id=>exact wpIn_exit (leaf h ⟨S,ρ,hs,rfl⟩)
   |ret=>exact wpIn_ret (leaf h ⟨S,ρ,hs,trivial⟩)
   |rangeFunc f ps asg body=>
    simp only[Ce,aaA]at h
    obtain⟨fv,hfv,h⟩:=h
    split at h
    ·rename_i g fa fb
     obtain⟨d,hd,h⟩:=aaA.1 h
     simp only[List.length_append,af8,List.length_nil]at hd
     cases hout:d.out with
     |pan v=>rw[hout]at h;simp at h
     |ret v=>
      rw[hout]at h
      simp only at h
      have go:∀ps' asg' body' tm' st e,(Bo (s.h++[.lp ps.toList asg body s.tmps .ready]) d.es)[s.h.length]?=some (.lp ps' asg' body' tm' st)→Iy st=some e→
       Cd (Ce O P n) k e ⟨s.tmps,(Bo (s.h++[.lp ps.toList asg body s.tmps .ready]) d.es).set s.h.length .dead⟩=some r→(Code.rangeFunc f ps asg body).wpIn F nn P (jJ P O B (n+1) k r) a w:=fun ps' asg' body' tm' st e h1 h2 h3=>
       wpIn_mono (hR f ps asg body s g fa fb d v ps' asg' body' tm' st e hfv hd hout h1 h2 F nn hF B a w S ρ hB hI hs) (fun ex a' w' hp=>leaf h3 hp)
      split at h
      ·rename_i hb;exact go _ _ _ _ _ _ hb rfl h
      ·rename_i hb;exact go _ _ _ _ _ _ hb rfl h
      ·rename_i hb;exact go _ _ _ _ _ _ hb rfl h
      ·simp at h
    ·simp at h
   |scope b=>
    have h1:=IH n (by omega) (c:=b) (k:=k) h hs
    refine xQ (wpIn_mono h1 fun ex a' w' hk=>?_)
    obtain⟨m,hm,e,s',hp,S',ρ',hs',he⟩:=hk
    cases ex with
    |goto l=>cases e<;>simp[gY]at he
    |_=>exact⟨m,by omega,e,s',hp,S',ρ',hs',he⟩
   |goto l=>simp[Ce]at h
   |refuse s=>simp[Ce]at h
end
end
noncomputable section
open Go.RowKit
section
variable {P:Program} {G:Nat→Option Obj} {O:Ea}
theorem HR.unclean{w:World}{S:Nat→Prop}{ρ:Ao}{cs:Aa}(H:HR w S ρ (hf (cs.map CB.clean))):HR w S ρ (hf cs):=by
 have get:∀(i:Nat),hf (cs.map CB.clean) i=(hf cs i).map CB.clean:=fun i=>by simp[hf]
 refine⟨fun b cb co st sz h=>?_,fun b h=>?_,H.inj,H.old,fun b l h=>?_,H.linj,H.lnS⟩
 ·obtain⟨c,e,fz,fl,rows,h1,h2,h3,h4⟩:=H.at_ b cb co st sz h
  refine⟨c,e,fz,fl,rows,h1,h2,h3,?_⟩
  rcases h4 with⟨⟨wr,h4⟩,h5⟩|⟨h4,h5⟩
  ·rw[get,aaK]at h4
   obtain⟨x,hx,hx2⟩:=h4
   cases x<;>simp[CB.clean]at hx2
   obtain⟨rfl,rfl,_,rfl⟩:=hx2
   exact .inl ⟨⟨_,hx⟩,h5⟩
  ·rw[get,aaK]at h4
   obtain⟨x,hx,hx2⟩:=h4
   cases x<;>simp[CB.clean]at hx2
   obtain⟨rfl,rfl,rfl⟩:=hx2
   exact .inr ⟨hx,h5⟩
 ·have h4:=H.dead b h
  rw[get,aaK]at h4
  obtain⟨x,hx,hx2⟩:=h4
  cases x<;>simp[CB.clean]at hx2
  exact hx
 ·obtain⟨r,ps,asg,body,tmps,st,h1,h4,h3⟩:=H.lps b l h
  rw[get,aaK]at h4
  obtain⟨x,hx,hx2⟩:=h4
  cases x<;>simp[CB.clean]at hx2
  obtain⟨rfl,rfl,rfl,rfl,rfl⟩:=hx2
  exact⟨r,_,_,_,_,_,h1,hx,h3⟩
theorem Yo.same{m:List Nat}{c x y:CB}(h:Yo m x y)(hs:c.same y=true):c.same x=true:=by
 cases h with
 | @lp ps asg body tmps tmps' st ok key=>
   cases c with
   |lp _ _ _ _ st'=>cases st<;>cases st'<;>first|exact hs|(simp[CB.same]at hs;obtain rfl:=key _ hs;exact hs)
   |_=>cases st<;>simp[CB.same]at hs
 |_=>cases c<;>first|exact hs|(rename_i st';cases st'<;>simp[CB.same]at hs)|(simp[CB.same]at hs)
theorem bZ{B:Beg}{h:Aa}{w:World}{S:Nat→Prop}{ρ:Ao}(FF:FI B.h0 B.w0 B.S0 B.ρ0 h w S ρ)(hdom:∀b,B.h0.length≤b→B.ρ0 b=.fresh){v v':AV}{cv:Value}{h':Aa}(hv:VR w S ρ v cv)
 (hf':Lc B.h0.length v h=some (v',h')):∃ρ',Xf B.h0 B.w0 B.S0 B.ρ0 v' h' cv w S ρ':=by
 unfold Lc at hf'
 simp only[aaA]at hf'
 obtain⟨⟨vs,cs,m⟩,hp,hf'⟩:=hf'
 simp only at hf'
 split at hf'
 ·rename_i v1
  simp at hf';obtain⟨rfl,rfl⟩:=hf'
  obtain⟨p1,p2,p3,p4,p5,p6⟩:=fX hp
  have hnd:=p2 List.nodup_range
  have hbf:ρ h.length=.fresh:=FF.dom _ (ae4 _)
  have hmb:∀b∈m,b<h.length:=fun b hb=>by
   obtain⟨j,hj,rfl⟩:=afR.1 hb
   obtain⟨b',c,k1,k2,_⟩:=p4 j _ (aa0 (by omega:j<cs.length))
   rw[aa0 hj]at k1;cases k1
   exact Ii k2
  have H1:=(aaW (Sc:=S) FF.hr hbf (fun _ h=>h) FF.hr.old hnd p3 p4 (fun b _ cb co st sz _ h=>h) FF.hr.lnS).unclean
  have mi:∀i,i<B.h0.length→m[i]?=some i:=fun i hi=>Ih p1 (by simp[hi])
  have vi:∀i,i<B.h0.length→ρ.via m h.length i=ρ i:=fun i hi=>Ao.via_at (al1 _) (mi i hi)
  have viaAt:∀j cb co st sz,ρ.via m h.length j=.pl cb co st sz→∃b,m[j]?=some b∧ρ b=.pl cb co st sz:=fun i cb co st sz h=>by
   refine⟨m.getD i _,getD_some rfl (fun e=>?_),h⟩
   unfold Ao.via at h;rw[e,hbf]at h;cases h
  obtain⟨m1,m2,k1,k2⟩:=p6 0 v v1 rfl rfl
  refine⟨ρ.via m h.length,k1.vr _ k2 hv,H1,?_,fun b hb=>?_,fun b hb=>?_,?_,fun i c c' hc hc' hsame=>?_⟩
  ·have s:=FF.sim
   refine⟨s.size,s.os,s.tape,s.output,s.keep,s.sub,fun b=>?_,s.other,fun id cb co st sz En=>?_,s.grow,s.objs,s.loops,fun id l En=>?_⟩
   ·rcases am9 b B.h0.length with hb|hb
    ·rw[vi b hb];exact s.le b
    ·exact .inl (hdom b hb)
   ·obtain⟨b,_,hb2⟩:=viaAt _ _ _ _ _ En;exact s.rng _ _ _ _ _ hb2
   ·exact s.lrng _ _ En
  ·unfold Ao.via
   rw[arX,al0 (by omega)];exact hbf
  ·have hb':b<m.length:=by omega
   rw[Ao.via_at (al1 _) (aa0 hb')]
   exact FF.all _ (hmb _ (asS hb'))
  ·have:=p1.length_le;simp at this;omega
  ·have hi:i<B.h0.length:=(acI.1 hc).1
   obtain⟨b',c2,q1,q2,q3⟩:=p4 i c' hc'
   rw[mi i hi]at q1;cases q1
   obtain⟨u1,u2⟩:=FF.unw i c c2 hc q2 (q3.same hsame)
   exact⟨by rw[vi i hi];exact u1,u2⟩
 ·simp at hf'
theorem dT{w:World}{S:Nat→Prop}{ρ:Ao}{s:St}{a:Act}(H:HR w S ρ (hf s.h))(T:TR w S ρ s.tmps a.tmps):∀{rs:List ResultVar} {vs:List AV},Qs P s rs=some vs→
 ∃cvs:List Value,(rs.mapM (fun| .tmp t=>pure (a.tmps.getD t undef)| .cell x t=>do loadVar t (←asAddr (a.tmps.getD x undef))):Sem (List Value)).run P w=.ok cvs w∧LR w S ρ vs cvs
 | [],vs,h=>by simp[Qs]at h;subst h;exact⟨[],by simp,.nil⟩
 | .tmp t::rs,vs,h=>by
   obtain⟨vs',h1,rfl⟩:=aaK.1 h
   obtain⟨cvs,k1,k2⟩:=dT H T h1
   refine⟨a.tmps.getD t undef::cvs,?_,.cons (Vk T t) k2⟩
   rw[avP]
   simp only[Sem.run_bind,Sem.run_pure,Result.andThen_ok,k1]
 | .cell x t::rs,vs,h=>by
   simp only[Qs,aaA,aaK]at h
   obtain⟨d,hd,vs',h1,rfl⟩:=h
   obtain⟨cvs,k1,k2⟩:=dT H T h1
   have hp:=Vk T x
   obtain⟨cv,h2,h3,_⟩:=jT (P:=P) H hd hp
   refine⟨cv::cvs,?_,.cons h3 k2⟩
   have h4:(do loadVar t (←asAddr (a.tmps.getD x undef)):Sem Value).run P w=.ok cv w:=by
    generalize a.tmps.getD x undef=cx at hp h2
    cases cx with
    |pointer p=>
     cases p with
     |some ad=>simpa [Instr.loadAt,Instr.sureAddr,asAddr]using h2
     |none=>simp[Instr.loadAt,Instr.sureAddr]at h2
    |_=>simp[Instr.loadAt,Instr.sureAddr]at h2
   rw[avP]
   simp only[Sem.run_bind]at h4 ⊢
   rw[h4]
   simp only[Result.andThen_ok,k1,Sem.run_pure]
theorem Zc{w:World}{S:Nat→Prop}{ρ:Ao}{s:St}{a:Act}(H:HR w S ρ (hf s.h))(T:TR w S ρ s.tmps a.tmps){fn:Func}{vs:List AV}(h:Qs P s fn.results.toList=some vs):
 ∃cv,(results fn a.tmps).run P w=.ok cv w∧VR w S ρ (Om vs) cv:=by
 obtain⟨cvs,k1,k2⟩:=dT H T h
 have hrun:(results fn a.tmps).run P w=.ok (if h:cvs.toArray.size=1 then cvs.toArray[0]else .tuple cvs.toArray) w:=by
  unfold results
  rw[Sem.run_bind,Array.mapM_eq_mapM_toList,Sem.run_map]
  refine Eq.trans (congrArg (fun z:Result (List Value)=>(z.andThen fun a w'=>Result.ok a.toArray w').andThen fun a w'=>Sem.run P (pure (if h:a.size=1 then a[0]else Value.tuple a)) w') k1) ?_
  rfl
 refine⟨_,hrun,?_⟩
 cases vs with
 |nil=>rw[k2.nil_inv];exact .tup rfl (fun i x v hx=>by simp at hx)
 |cons v vs=>
  obtain⟨c,cs',rfl,q1,q2⟩:=k2.cons_inv
  cases vs with
  |nil=>rw[q2.nil_inv];exact q1
  |cons v' vs=>
   obtain⟨c',cs'',rfl,q3,q4⟩:=q2.cons_inv
   rw[dif_neg (by simp)]
   exact .tup (by have:=k2.1;simpa using this) (fun i x v hx hv=>k2.2 i x v hx (by simpa using hv))
theorem VR.aside{w:World}{S:Nat→Prop}{ρ:Ao}{x:AV}{v:Value}(h:VR w S ρ x v){r:Nat}(hr:¬S r)(o:Obj):VR (setB w r o) S ρ x v:=
 h.mono (fun b hb=>Aw (fun e=>by subst e;exact hr hb)) (fun _ h=>h) ρ.le_refl
theorem FI.aside{h0:Aa}{w0:World}{S0:Nat→Prop}{ρ0:Ao}{h:Aa}{w:World}{S:Nat→Prop}{ρ:Ao}(F:FI h0 w0 S0 ρ0 h w S ρ){r:Nat}{o':Obj}(hr:w.heap[r]?=some o')(hc:Og o'=false)(hS:¬S r)(h0r:w0.heap.size≤r)(o:Obj):
 FI h0 w0 S0 ρ0 h (setB w r o) S ρ:=by
 have cbr:∀b cb co st sz,ρ b=.pl cb co st sz→cb≠r:=fun b cb co st sz hb e=>by
  obtain⟨c,e',fz,fl,rows,h1,_⟩:=F.hr.at_ b cb co st sz hb
  rw[e,hr]at h1;cases h1;simp[Og]at hc
 refine⟨⟨fun b cb co st sz hb=>?_,F.hr.dead,F.hr.inj,fun b hb=>by have:=F.hr.old b hb;simpa [setB]using this,fun b l hb=>?_,F.hr.linj,F.hr.lnS⟩,?_,F.dom,F.all,F.all0,F.len,F.kind,fun i c c' hc1 hc2 hs=>?_⟩
 ·obtain⟨c,e',fz,fl,rows,h1,h2,h3,h4⟩:=F.hr.at_ b cb co st sz hb
  refine⟨c,e',fz,fl,rows,by rw[Aw (cbr b cb co st sz hb)];exact h1,h2,⟨h3.len,h3.wide,h3.flat,fun i r' j x hr' hx=>?_,h3.isCell⟩,h4⟩
  obtain⟨v,q1,q2⟩:=h3.cell i r' j x hr' hx
  exact⟨v,q1,q2.aside hS o⟩
 ·obtain⟨r1,ps,asg,body,tmps,st,h1,h2,h3⟩:=F.hr.lps b l hb
  have lr:∀{xs:List AV} {vs:List Value},LR w S ρ xs vs→LR (setB w r o) S ρ xs vs:=fun k=>⟨k.1,fun i x v hx hv=>(k.2 i x v hx hv).aside hS o⟩
  refine⟨r1,ps,asg,body,tmps,st,?_,h2,?_⟩
  ·rw[Aw (fun e=>by rw[e,hr]at h1;cases h1;cases h3<;>simp[Og]at hc)];exact h1
  ·cases h3 with
   |loop h3=>exact .loop ⟨h3.params,h3.assign,h3.body,lr h3.tmps,h3.state⟩
   |map h3=>exact .map (lr h3)
   |itr h3=>exact .itr (lr h3)
 ·have s:=F.sim
  refine⟨by simpa [setB]using s.size,s.os,s.tape,s.output,fun b hb=>?_,s.sub,s.le,fun b hb hn hl=>?_,s.rng,s.grow,fun b o2 hb ho=>?_,fun b r1 hb=>?_,s.lrng⟩
  ·rw[Aw (fun e=>by subst e;exact hS (s.sub _ hb))];exact s.keep b hb
  ·rw[Aw (by omega)];exact s.other b hb hn hl
  ·have:=(acY.1 hb).1
   rw[Aw (by omega)];exact s.objs b o2 hb ho
  ·have:=(acY.1 hb).1
   rw[Aw (by omega)];exact s.loops b r1 hb
 ·obtain⟨u1,u2⟩:=F.unw i c c' hc1 hc2 hs
  refine⟨u1,fun cb co st sz hρ=>?_⟩
  rw[Aw (cbr i cb co st sz (by rw[u1];exact hρ))];exact u2 cb co st sz hρ
theorem Ld{F:Fence}{n:Nat}{fn:Func}{tmps:Array Value}{R:Ending→World→Prop}{u:FrameMode}(hu:u≠.run){w0:World}{S:Nat→Prop}{Φ:World→Prop}
 (hstep:∀w r,Φ w→w.heap[r]?=some (.deferred (some []))→¬S r→w0.heap.size≤r→Φ (setB w r (.deferred none))) (hend:∀w,Φ w→LeavesIn F n P fn tmps R [] u w):
 ∀(ds:List Deferred) (w:World),Φ w→wW w0 w S ds→ds.Pairwise (fun d e=>wU d.target≠wU e.target)→LeavesInM F n P fn tmps R ds u w
 | [],w,h,_,_=>hend w h
 |d::ds,w,h,hm,hp=>by
  obtain⟨r,rfl,k2,k3,k4⟩:=hm d (adV ..)
  have hp':=avQ.1 hp
  refine⟨hu,.inl ⟨r,setB w r (.deferred none),rfl,run_takeDeferred k2,?_⟩⟩
  refine Ld hu hstep hend ds _ (hstep w r h k2 k3 k4) (fun e he=>?_) hp'.2
  obtain⟨r',q1,q2,q3,q4⟩:=hm e (acM _ he)
  have hne:r'≠r:=fun e1=>hp'.1 e he (by rw[q1,e1])
  exact⟨r',q1,by rw[Aw hne];exact q2,q3,q4⟩
def zE(P:Program):Prop:=∀(f:Nat) (fn:Func),P.funcs[f]?=some fn→(fn.name== "runtime.NumGoroutine")=false
theorem yR(hN:zE P){f:Nat}{fn:Func}{c:Code}(hfn:P.funcs[f]?=some fn)(hb:fn.body=some c)(args:Array Value)(w:World):(callFunc f args).run P w=.ok (.enter f args) w:=by
 have h':¬fn.name= "runtime.NumGoroutine" :=by simpa using hN f fn hfn
 simp[callFunc,hfn,hb,h']
theorem FI.post{h0:Aa}{w0:World}{S0:Nat→Prop}{ρ0:Ao}{h:Aa}{w:World}{S:Nat→Prop}{ρ:Ao}(F:FI h0 w0 S0 ρ0 h w S ρ){v:AV}{cv:Value}(hv:VR w S ρ v cv):Xf h0 w0 S0 ρ0 v h cv w S ρ:=
 ⟨hv,F.hr,F.sim,F.dom,F.all,F.len,F.unw⟩
theorem adT(hN:zE P)(hO:Gi P G O)(hL:aM P G O)(hD:bG P G O)(hR:Wt P G O){f:Nat}{args:List AV}{h:Aa}{out:Dk}{h':Aa}(he:evF O P f args h=some (out,h')):
 (∀args w,(callFunc f args).run P w=.ok (.enter f args) w)∧
 ∀w S ρ (cargs:Array Value),Qp G w S→HR w S ρ (hf h)→(∀b,h.length≤b→ρ b=.fresh)→(∀b,b<h.length→ρ b≠.fresh)→LR w S ρ args cargs.toList→Calls P f cargs w (Ss h w S ρ out h'):=by
 unfold evF at he
 split at he
 ·simp at he
 ·rename_i fn hfn
  split at he
  ·simp at he
  ·rename_i c hb
   obtain⟨⟨e,s⟩,hm,he⟩:=aaA.1 he
   refine⟨fun args w=>yR hN hfn hb args w,fun w S ρ cargs hI H dom all hargs=>?_⟩
   have hasz:args.length=cargs.size:=by simpa using hargs.1
   have hT:TR w S ρ (args++af9 (fn.ntmps-args.length) (.tup [])) (cargs++ae7 (fn.ntmps-cargs.size) undef):=by
    have e1:(cargs++ae7 (fn.ntmps-cargs.size) undef).toList=cargs.toList++af9 (fn.ntmps-args.length) undef:=by simp[hasz]
    show LR _ _ _ _ _
    rw[e1]
    refine hargs.append ⟨by simp,fun i x v hx hv=>?_⟩
    rw[avR]at hx hv
    split at hx
    ·rename_i hi;rw[if_pos hi]at hv;simp at hx hv;subst hx hv;exact Nv
    ·simp at hx
   have hs:Ql ⟨h,w,S,ρ,none⟩ ⟨args++af9 (fn.ntmps-args.length) (.tup []),h⟩ { tmps:=cargs++ae7 (fn.ntmps-cargs.size) undef,defers:=[] } w S ρ:=⟨FI.start H dom all,hT,fun d hd=>by simp at hd,List.Pairwise.nil,fun l hl=>by simp at hl⟩
   refine(callsIn_wide (n:=0)).1 (callsIn_of_wp_marks hfn hb trivial (wpIn_mono (Tc (nn:=0) (.inl rfl) hO hL hD hR rfl hI Jd hm hs) fun ex a' w' hk=>?_))
   obtain⟨m,_,e',s',hp,S',ρ',hs',hex⟩:=hk
   simp only[Cd,abO.injEq,Prod.mk.injEq]at hp
   obtain⟨rfl,rfl⟩:=hp
   have ret:(Qs P s' fn.results.toList).bind (fun vs=>(Lc h.length (Om vs) s'.h).map fun(v,h)=>(Dk.ret v,h))=some (out,h')→
    LeavesInM Fence.wide 0 P fn a'.tmps (Ss h w S ρ out h') a'.defers .returning w':=fun he=>by
    obtain⟨vs,hr,he⟩:=aaA.1 he
    obtain⟨⟨v',h1⟩,hfin,heq⟩:=aaK.1 he
    simp only[Prod.mk.injEq]at heq
    obtain⟨rfl,rfl⟩:=heq
    refine Ld (w0:=w) (S:=S') (by simp) (Φ:=fun w1=>FI h w S ρ s'.h w1 S' ρ'∧TR w1 S' ρ' s'.tmps a'.tmps) (fun w1 r ⟨q1,q2⟩ q3 q4 q5=>⟨q1.aside q3 rfl q4 q5 _,⟨q2.1,fun i x v hx hv=>(q2.2 i x v hx hv).aside q4 _⟩⟩)
     (fun w1 ⟨q1,q2⟩=>?_) a'.defers w' ⟨hs'.1,hs'.2.1⟩ hs'.2.2.1 hs'.2.2.2.1
    obtain⟨cv,k1,k2⟩:=Zc (P:=P) q1.hr q2 hr
    obtain⟨ρ'',CP⟩:=bZ (B:=⟨h,w,S,ρ,none⟩) q1 dom k2 hfin
    exact⟨cv,k1,cv,S',ρ'',⟨⟨_,rfl⟩,rfl⟩,CP⟩
   cases e' with
   |normal=>
    cases ex<;>simp[gY]at hex
    exact ret he
   |ret=>
    cases ex<;>simp[gY]at hex
    exact ret he
   |pan v=>
    cases ex with
    |panic ch=>
     obtain⟨cv,k1,rfl⟩:=hex
     obtain⟨⟨v',h1⟩,hfin,heq⟩:=aaK.1 he
     simp only[Prod.mk.injEq]at heq
     obtain⟨rfl,rfl⟩:=heq
     refine Ld (w0:=w) (S:=S') (by simp) (Φ:=fun w1=>FI h w S ρ s'.h w1 S' ρ'∧VR w1 S' ρ' v cv) (fun w1 r ⟨q1,q2⟩ q3 q4 q5=>⟨q1.aside q3 rfl q4 q5 _,q2.aside q4 _⟩)
      (fun w1 ⟨q1,q2⟩=>?_) a'.defers w' ⟨hs'.1,k1⟩ hs'.2.2.1 hs'.2.2.2.1
     obtain⟨ρ'',CP⟩:=bZ (B:=⟨h,w,S,ρ,none⟩) q1 dom q2 hfin
     exact⟨cv,S',ρ'',⟨⟨_,rfl⟩,rfl⟩,CP⟩
    |_=>simp[gY]at hex
   |exit i=>simp at he
theorem aeG(hN:zE P)(hO:Gi P G O)(hL:aM P G O)(hD:bG P G O)(hR:Wt P G O){f:Nat}{args:List AV}{h:Aa}{out:Dk}{h':Aa}(he:evS O P f args h=some (out,h')):
 (∀args w,(callFunc f args).run P w=.ok (.enter f args) w)∧
 ∀w S ρ (cargs:Array Value),Qp G w S→HR w S ρ (hf h)→(∀b,h.length≤b→ρ b=.fresh)→(∀b,b<h.length→ρ b≠.fresh)→LR w S ρ args cargs.toList→Calls P f cargs w (Ss h w S ρ out h'):=by
 unfold evS at he
 split at he
 ·simp at he
 ·rename_i fn hfn
  split at he
  ·simp at he
  ·rename_i c hb
   obtain⟨⟨e,s⟩,hm,he⟩:=aaA.1 he
   refine⟨fun args w=>yR hN hfn hb args w,fun w S ρ cargs hI H dom all hargs=>?_⟩
   have hasz:args.length=cargs.size:=by simpa using hargs.1
   have hT:TR w S ρ (args++af9 (fn.ntmps-args.length) (.tup [])) (cargs++ae7 (fn.ntmps-cargs.size) undef):=by
    have e1:(cargs++ae7 (fn.ntmps-cargs.size) undef).toList=cargs.toList++af9 (fn.ntmps-args.length) undef:=by simp[hasz]
    show LR _ _ _ _ _
    rw[e1]
    refine hargs.append ⟨by simp,fun i x v hx hv=>?_⟩
    rw[avR]at hx hv
    split at hx
    ·rename_i hi;rw[if_pos hi]at hv;simp at hx hv;subst hx hv;exact Nv
    ·simp at hx
   have hs:Ql ⟨h,w,S,ρ,none⟩ ⟨args++af9 (fn.ntmps-args.length) (.tup []),h⟩ { tmps:=cargs++ae7 (fn.ntmps-cargs.size) undef,defers:=[] } w S ρ:=⟨FI.start H dom all,hT,fun d hd=>by simp at hd,List.Pairwise.nil,fun l hl=>by simp at hl⟩
   refine(callsIn_wide (n:=0)).1 (callsIn_of_wp_marks hfn hb trivial (wpIn_mono (Tc (nn:=0) (.inl rfl) hO hL hD hR rfl hI Jd hm hs) fun ex a' w' hk=>?_))
   obtain⟨m,_,e',s',hp,S',ρ',hs',hex⟩:=hk
   simp only[Cd,abO.injEq,Prod.mk.injEq]at hp
   obtain⟨rfl,rfl⟩:=hp
   have ret:(Qs P s' fn.results.toList).map (fun vs=>(Dk.ret (Om vs),s'.h))=some (out,h')→
    LeavesInM Fence.wide 0 P fn a'.tmps (Ss h w S ρ out h') a'.defers .returning w':=fun he=>by
    obtain⟨vs,hr,heq⟩:=aaK.1 he
    simp only[Prod.mk.injEq]at heq
    obtain⟨rfl,rfl⟩:=heq
    refine Ld (w0:=w) (S:=S') (by simp) (Φ:=fun w1=>FI h w S ρ s'.h w1 S' ρ'∧TR w1 S' ρ' s'.tmps a'.tmps) (fun w1 r ⟨q1,q2⟩ q3 q4 q5=>⟨q1.aside q3 rfl q4 q5 _,⟨q2.1,fun i x v hx hv=>(q2.2 i x v hx hv).aside q4 _⟩⟩)
     (fun w1 ⟨q1,q2⟩=>?_) a'.defers w' ⟨hs'.1,hs'.2.1⟩ hs'.2.2.1 hs'.2.2.2.1
    obtain⟨cv,k1,k2⟩:=Zc (P:=P) q1.hr q2 hr
    exact⟨cv,k1,cv,S',ρ',⟨⟨_,rfl⟩,rfl⟩,q1.post k2⟩
   cases e' with
   |normal=>
    cases ex<;>simp[gY]at hex
    exact ret he
   |ret=>
    cases ex<;>simp[gY]at hex
    exact ret he
   |pan v=>
    cases ex with
    |panic ch=>
     obtain⟨cv,k1,rfl⟩:=hex
     simp only[abO.injEq,Prod.mk.injEq]at he
     obtain⟨rfl,rfl⟩:=he
     refine Ld (w0:=w) (S:=S') (by simp) (Φ:=fun w1=>FI h w S ρ s'.h w1 S' ρ'∧VR w1 S' ρ' v cv) (fun w1 r ⟨q1,q2⟩ q3 q4 q5=>⟨q1.aside q3 rfl q4 q5 _,q2.aside q4 _⟩)
      (fun w1 ⟨q1,q2⟩=>?_) a'.defers w' ⟨hs'.1,k1⟩ hs'.2.2.1 hs'.2.2.2.1
     exact⟨cv,S',ρ',⟨⟨_,rfl⟩,rfl⟩,q1.post q2⟩
    |_=>simp[gY]at hex
   |exit i=>simp at he
end
end
noncomputable section
open Go.RowKit
theorem lY(cs:List AV){vs us:List AV}{o p:Nat}(hd:o+vs.length≤p∨p+us.length≤o):
 Da (Da cs o vs) p us=Da (Da cs p us) o vs:=by
 apply avS
 intro j
 rw[Hm (Da cs o vs),Hm (Da cs p us),Hm cs vs,Hm cs us,Ht,Ht]
 by_cases a1:p≤j∧j<p+us.length∧j<cs.length
 ·rw[if_pos a1,if_neg (by omega),if_pos a1]
 ·rw[if_neg a1]
  by_cases a2:o≤j∧j<o+vs.length∧j<cs.length
  ·rw[if_pos a2,if_pos a2]
  ·rw[if_neg a2,if_neg a2,if_neg a1]
theorem vQ(rows:List (List AV)){r q:Nat}{vs us:List AV}{o p:Nat}(hd:o+vs.length≤p∨p+us.length≤o):
 Je (Je rows r o vs) q p us=Je (Je rows q p us) r o vs:=by
 unfold Je
 by_cases hrq:r=q
 ·subst hrq
  cases h:rows[r]? with
  |none=>simp[h]
  |some cs=>
   have hr:r<rows.length:=(acI.1 h).1
   simp[hr,lY cs hd]
 ·cases h:rows[r]? with
  |none=>
   cases h2:rows[q]? with
   |none=>simp[h,h2]
   |some cs2=>simp[ai2,Ne.symm hrq,h,h2]
  |some cs=>
   cases h2:rows[q]? with
   |none=>simp[ai2,hrq,h,h2]
   |some cs2=>simp only[ai2,hrq,Ne.symm hrq,if_false,h,h2];rw[List.set_comm _ _ hrq]
def Af.eff:Af→Option CB→Option CB
 | .new _ c,_=>some c
 | .put _ c,_=>some c
 | .cells _ r o vs,x=>match x with
   |some (.live st fl _ rows)=>some (.live st (fl&&vs.all AV.flat) true (Je rows r o vs))
   |x=>x
theorem Iu(g:HF)(e:Af)(i:Nat):Bi g e i=if i=e.id then e.eff (g i)else g i:=by
 cases e with
 |new b c=>by_cases hi:i=b<;>simp[Bi,upd,Af.id,Af.eff,hi]
 |put b c=>by_cases hi:i=b<;>simp[Bi,upd,Af.id,Af.eff,hi]
 |cells b r o vs=>
  by_cases hi:i=b
  ·subst hi
   simp only[Bi,Af.id,Af.eff,if_true]
   cases hg:g i with
   |none=>simp[hg]
   |some c=>cases c<;>simp[hg,upd]
  ·have e:∀(x:Option CB) (y:HF),(match x with
    |some (.live st fl _ rows)=>upd y b (.live st (fl&&vs.all AV.flat) true (Je rows r o vs))
    |_=>y) i=y i:=fun x y=>by
    cases x with
    |none=>rfl
    |some c=>cases c<;>simp[upd,hi]
   rw[if_neg (show ¬i=(Af.cells b r o vs).id from hi)]
   exact e (g b) g
theorem agY{e e':Af}(En:e.id=e'.id)(h:e.foot.meets e'.foot=false)(x:Option CB):e'.eff (e.eff x)=e.eff (e'.eff x):=by
 cases e<;>cases e'<;>simp[Af.id]at En<;>subst En<;>simp[Af.foot,Bf.meets]at h
 rename_i b r o vs r' o' vs'
 cases x with
 |none=>rfl
 |some c=>
  cases c with
  |live st fl w rows=>
   simp only[Af.eff]
   rw[vQ rows (by omega)]
   rw[avT,Bool.and_comm (vs.all AV.flat),←avT]
  |_=>rfl
theorem yP(g:HF){e e':Af}(h:e.foot.meets e'.foot=false):Bi (Bi g e) e'=Bi (Bi g e') e:=by
 funext i
 rw[Iu,Iu,Iu,Iu]
 by_cases h1:i=e'.id
 ·by_cases h2:i=e.id
  ·rw[if_pos h1,if_pos h2,if_pos h2,if_pos h1];exact agY (h2.symm.trans h1) h _
  ·rw[if_pos h1,if_neg h2,if_neg h2,if_pos h1]
 ·by_cases h2:i=e.id
  ·rw[if_neg h1,if_pos h2,if_pos h2,if_neg h1]
  ·rw[if_neg h1,if_neg h2,if_neg h2,if_neg h1]
theorem iW(g:HF){e:Af}:∀{es:List Af},(∀x∈es,e.foot.meets x.foot=false)→As (Bi g e) es=Bi (As g es) e
 | [],_=>rfl
 |x::es,h=>by
  simp only[As]
  rw[yP g (h x (adV ..))]
  exact iW (Bi g x) (fun y hy=>h y (acM _ hy))
theorem oY:∀{es es':List Af} (g:HF),(∀x∈es,∀y∈es',x.foot.meets y.foot=false)→As (As g es) es'=As (As g es') es
 | [],es',g,_=>rfl
 |e::es,es',g,h=>by
  simp only[As]
  rw[oY (Bi g e) (fun x hx=>h x (acM _ hx)),iW g (h e (adV ..))]
inductive Hr(o n:Nat):Option CB→Option CB→Prop
 |refl (x:Option CB):Hr o n x x
 |live {st st':Nat} {fl fl' w w':Bool} {rows rows':List (List AV)}:rows.length=rows'.length→
   (∀(r:Nat) cs cs',rows[r]?=some cs→rows'[r]?=some cs'→cs.length=cs'.length∧∀j,o≤j→j<o+n→cs[j]?=cs'[j]?)→Hr o n (some (.live st fl w rows)) (some (.live st' fl' w' rows'))
def Cc(g g':HF):Bf→Prop
 | .blk b=>g' b=g b
 | .cells b o n=>Hr o n (g b) (g' b)
 | .all=>g'=g
theorem Hr.trans{o n:Nat}{x y z:Option CB}(h:Hr o n x y)(k:Hr o n y z):Hr o n x z:=by
 cases h with
 |refl=>exact k
 |live a b=>
  cases k with
  |refl=>exact .live a b
  |live c d=>
   refine .live (a.trans c) (fun r cs cs' h1 h2=>?_)
   have hr:=(acI.1 h1).1
   have h3:=aa0 (a▸hr)
   obtain⟨b1,b2⟩:=b r _ _ h1 h3
   obtain⟨d1,d2⟩:=d r _ _ h3 h2
   exact⟨b1.trans d1,fun j q1 q2=>(b2 j q1 q2).trans (d2 j q1 q2)⟩
theorem Cc.refl(g:HF)(f:Bf):Cc g g f:=by
 cases f with
 |blk b=>rfl
 |cells b o n=>exact Hr.refl _
 |all=>rfl
theorem Cc.trans{g g' g'':HF}{f:Bf}(h:Cc g g' f)(k:Cc g' g'' f):Cc g g'' f:=by
 cases f with
 |blk b=>exact Eq.trans k h
 |cells b o n=>exact Hr.trans h k
 |all=>exact Eq.trans k h
theorem Sr(rows:List (List AV))(r o:Nat)(vs:List AV):(Je rows r o vs).length=rows.length:=by
 unfold Je;split<;>simp
theorem aB{rows:List (List AV)}{r o:Nat}{vs:List AV}{q:Nat}{cs':List AV}(h:(Je rows r o vs)[q]?=some cs'):∃cs,rows[q]?=some cs∧cs'=if q=r then Da cs o vs else cs:=by
 unfold Je at h
 split at h
 ·rename_i cs hr
  rw[ai2]at h
  by_cases hq:r=q
  ·subst hq
   have hlt:r<rows.length:=(acI.1 hr).1
   simp[hlt]at h;subst h
   exact⟨cs,hr,by simp⟩
  ·rw[if_neg hq]at h;exact⟨cs',h,by rw[if_neg (Ne.symm hq)]⟩
 ·rename_i hr
  refine⟨cs',h,?_⟩
  rw[if_neg (fun e=>by subst e;rw[hr]at h;cases h)]
theorem Cc.edit(g:HF){e:Af}{f:Bf}(h:e.foot.meets f=false):Cc g (Bi g e) f:=by
 cases f with
 |all=>cases e<;>simp[Af.foot,Bf.meets]at h
 |blk b=>
  show Bi g e b=g b
  rw[Iu,if_neg]
  intro hb
  cases e<;>simp[Af.foot,Bf.meets,Af.id]at h hb<;>omega
 |cells b o n=>
  show Hr o n (g b) (Bi g e b)
  rw[Iu]
  by_cases hb:b=e.id
  ·rw[if_pos hb]
   cases e with
   |new b' c=>simp[Af.foot,Bf.meets,Af.id]at h hb;omega
   |put b' c=>simp[Af.foot,Bf.meets,Af.id]at h hb;omega
   |cells b' r o' vs=>
    simp only[Af.id]at hb
    subst hb
    simp only[Af.foot,Bf.meets,beq_self_eq_true,Bool.true_and,Bool.and_eq_false_iff,decide_eq_false_iff_not]at h
    cases hg:g b with
    |none=>exact .refl _
    |some c=>
     cases c with
     |live st fl w rows=>
      refine .live (Sr ..).symm (fun q cs cs' h1 h2=>?_)
      obtain⟨cs0,k1,k2⟩:=aB h2
      rw[h1]at k1;cases k1
      subst k2
      by_cases hq:q=r
      ·rw[if_pos hq]
       refine⟨(Ht ..).symm,fun j q1 q2=>?_⟩
       rw[Hm,if_neg (by omega)]
      ·rw[if_neg hq];exact⟨rfl,fun _ _ _=>rfl⟩
     |_=>exact .refl _
  ·rw[if_neg hb];exact .refl _
theorem Cc.both{g g':HF}{f:Bf}(h:Cc g g' f)(e:Af):Cc (Bi g e) (Bi g' e) f:=by
 cases f with
 |all=>show Bi g' e=Bi g e;rw[show g'=g from h]
 |blk b=>
  show Bi g' e b=Bi g e b
  rw[Iu,Iu,show g' b=g b from h]
 |cells b o n=>
  show Hr o n (Bi g e b) (Bi g' e b)
  have h':Hr o n (g b) (g' b):=h
  rw[Iu,Iu]
  by_cases hb:b=e.id
  ·rw[if_pos hb,if_pos hb]
   generalize g b=x at h'
   generalize g' b=y at h'
   cases e with
   |new b' c=>exact .refl _
   |put b' c=>exact .refl _
   |cells b' r o' vs=>
    cases h' with
    |refl=>exact .refl _
    |live a d=>
     refine .live (by rw[Sr,Sr];exact a) (fun q cs cs' h1 h2=>?_)
     obtain⟨c1,k1,k2⟩:=aB h1
     obtain⟨c2,k3,k4⟩:=aB h2
     obtain⟨d1,d2⟩:=d q c1 c2 k1 k3
     subst k2 k4
     by_cases hq:q=r
     ·rw[if_pos hq,if_pos hq]
      refine⟨by rw[Ht,Ht];exact d1,fun j q1 q2=>?_⟩
      rw[Hm,Hm,d1]
      split
      ·rfl
      ·exact d2 j q1 q2
     ·rw[if_neg hq,if_neg hq];exact⟨d1,d2⟩
  ·rw[if_neg hb,if_neg hb];exact h'
theorem Cc.edits{f:Bf}:∀{es:List Af} (g:HF),(∀e∈es,e.foot.meets f=false)→Cc g (As g es) f
 | [],g,_=>.refl g f
 |e::es,g,h=>(Cc.edit g (h e (adV ..))).trans (Cc.edits _ (fun x hx=>h x (acM _ hx)))
theorem Cc.boths{f:Bf}:∀{es:List Af} {g g':HF},Cc g g' f→Cc (As g es) (As g' es) f
 | [],_,_,h=>h
 |e::es,_,_,h=>Cc.boths (es:=es) (h.both e)
theorem Cc.symm{g g':HF}{f:Bf}(h:Cc g g' f):Cc g' g f:=by
 cases f with
 |all=>exact Eq.symm h
 |blk b=>exact Eq.symm h
 |cells b o n=>
  have h':Hr o n (g b) (g' b):=h
  show Hr o n (g' b) (g b)
  generalize g b=x at h'
  generalize g' b=y at h'
  cases h' with
  |refl=>exact .refl _
  |live a d=>exact .live a.symm (fun r cs cs' h1 h2=>⟨(d r cs' cs h2 h1).1.symm,fun j q1 q2=>((d r cs' cs h2 h1).2 j q1 q2).symm⟩)
end
noncomputable section
open Go.RowKit
section
variable {P:Program}
theorem Gn{t t':List AV}:∀{xs:List Operand},(∀x∈xs,Ae t x=Ae t' x)→Bq t xs=Bq t' xs
 | [],_=>rfl
 |x::xs,h=>by
  simp only[Bq]
  rw[h x (adV ..),Gn (fun y hy=>h y (acM _ hy))]
theorem kV{t t':List AV}{x:Option Operand}(h:∀y,x=some y→Ae t y=Ae t' y):cT t x=cT t' x:=by
 cases x with
 |none=>rfl
 |some y=>simp only[cT];rw[h y rfl]
theorem adN{g:HF}{base:Nat}{t t':List AV}{o:Op}(h:∀x∈o.operands.toList,Ae t x=Ae t' x):exec P g base t o=exec P g base t' o:=by
 cases o with
 |alloc t=>rfl
 |build ty ps=>simp only[exec];rw[Gn (t:=t) (t':=t') (xs:=ps.toList.map (·.2)) (fun x hx=>h x (by simp only[Op.operands];exact hx))]
 |buildSlice ty n ps=>simp only[exec];rw[Gn (t:=t) (t':=t') (xs:=ps.toList.map (·.2)) (fun x hx=>h x (by simp only[Op.operands];exact hx))]
 |makeFunc fn xs ys=>
  cases fn with
  |func f=>
   simp only[exec]
   rw[Gn (xs:=xs.toList) (fun x hx=>h x (by simp[Op.operands];exact .inl (by simpa using hx))),Gn (xs:=ys.toList) (fun x hx=>h x (by simp[Op.operands];exact .inr (by simpa using hx)))]
  |_=>simp[exec]
 |slice ty x lo hi mx=>
  cases mx with
  |some m=>simp[exec]
  |none=>
   simp only[exec]
   rw[h x (by simp[Op.operands]),kV (x:=lo) (fun y hy=>h y (by subst hy;simp[Op.operands])),kV (x:=hi) (fun y hy=>h y (by subst hy;simp[Op.operands]))]
 |call c=>
  obtain⟨cal,args,ts⟩:=c
  cases cal with
  |builtin b=>simp only[exec];rw[Gn (xs:=args.toList) (fun x hx=>h x (by simpa [Op.operands,Call.operands]using hx))]
  |_=>simp[exec]
 |pick c a b=>simp only[exec];rw[h c (by simp[Op.operands]),h a (by simp[Op.operands]),h b (by simp[Op.operands])]
 |store _ a b=>simp only[exec];rw[h a (by simp[Op.operands]),h b (by simp[Op.operands])]
 |binOp _ _ a b _=>simp only[exec];rw[h a (by simp[Op.operands]),h b (by simp[Op.operands])]
 |makeSlice _ a b=>simp only[exec];rw[h a (by simp[Op.operands]),h b (by simp[Op.operands])]
 |indexAddr _ a b=>simp only[exec];rw[h a (by simp[Op.operands]),h b (by simp[Op.operands])]
 |index _ a b=>simp only[exec];rw[h a (by simp[Op.operands]),h b (by simp[Op.operands])]
 |move a=>simp only[exec];rw[h a (by simp[Op.operands])]
 |assign a=>simp only[exec];rw[h a (by simp[Op.operands])]
 |box _ a=>simp only[exec];rw[h a (by simp[Op.operands])]
 |load _ a=>simp only[exec];rw[h a (by simp[Op.operands])]
 |nilCheck a=>simp only[exec];rw[h a (by simp[Op.operands])]
 |unOp _ _ a=>simp only[exec];rw[h a (by simp[Op.operands])]
 |convert _ _ a=>simp only[exec];rw[h a (by simp[Op.operands])]
 |makeInterface _ a=>simp only[exec];rw[h a (by simp[Op.operands])]
 |fieldAddr _ a _=>simp only[exec];rw[h a (by simp[Op.operands])]
 |field _ a _=>simp only[exec];rw[h a (by simp[Op.operands])]
 |extract a _=>simp only[exec];rw[h a (by simp[Op.operands])]
 |range _ a=>simp only[exec];rw[h a (by simp[Op.operands])]
 |next a s=>cases s<;>simp only[exec];rw[h a (by simp[Op.operands])]
 |makeMap _ r=>cases r<;>rfl
 |lookup _ a b _=>simp only[exec];rw[h a (by simp[Op.operands]),h b (by simp[Op.operands])]
 |mapUpdate _ a b c=>simp only[exec];rw[h a (by simp[Op.operands]),h b (by simp[Op.operands]),h c (by simp[Op.operands])]
 |insert _ a b c=>simp only[exec];rw[h a (by simp[Op.operands]),h b (by simp[Op.operands]),h c (by simp[Op.operands])]
 |_=>rfl
theorem tL{t t':List AV}{c:Call}(h:∀x∈c.operands.toList,Ae t x=Ae t' x):callee P t c=callee P t' c:=by
 obtain⟨cal,args,ts⟩:=c
 cases cal with
 |value f=>simp only[callee];rw[h f (by simp[Call.operands]),Gn (xs:=args.toList) (fun x hx=>h x (by simp[Call.operands];exact .inr (by simpa using hx)))]
 |invoke r name=>simp only[callee];rw[h r (by simp[Call.operands]),Gn (xs:=args.toList) (fun x hx=>h x (by simp[Call.operands];exact .inr (by simpa using hx)))]
 |builtin b=>rfl
theorem Hr.row{o n:Nat}{g g':HF}{b:Nat}(h:Hr o n (g b) (g' b)){r:Nat}{cs:List AV}(hr:Yu g b r=some cs):
 ∃cs',Yu g' b r=some cs'∧cs'.length=cs.length∧∀j,o≤j→j<o+n→cs'[j]?=cs[j]?:=by
 unfold Yu at hr ⊢
 generalize g b=x at h hr
 generalize g' b=y at h
 cases h with
 |refl=>exact⟨cs,hr,rfl,fun _ _ _=>rfl⟩
 | @live st st' fl fl' w w' rows rows' a d=>
   simp only at hr ⊢
   have hlt:=(acI.1 hr).1
   have h3:=aa0 (a▸hlt)
   obtain⟨d1,d2⟩:=d r _ _ hr h3
   exact⟨_,h3,d1.symm,fun j q1 q2=>(d2 j q1 q2).symm⟩
theorem mS{cs cs':List AV}{o n:Nat}(h1:cs'.length=cs.length)(h2:∀j,o≤j→j<o+n→cs'[j]?=cs[j]?):(cs'.drop o).take n=(cs.drop o).take n:=by
 apply avS
 intro j
 rw[avU,avU]
 split
 ·rw[al2,al2];exact h2 _ (by omega) (by omega)
 ·rfl
theorem afP{g g':HF}{t:TypeId}{p:AV}{d:Ft}(h:Nz P g t p=some d)(ha:∀f∈d.fs,Cc g g' f):Nz P g' t p=some d:=by
 unfold Nz at h ⊢
 simp only[aaA]at h ⊢
 obtain⟨isA,h1,n,h2,h⟩:=h
 refine⟨isA,h1,n,h2,?_⟩
 cases p with
 |iptr cs=>cases isA<;>cases cs<;>exact h
 |ptr b r o=>
  cases isA with
  |true=>
   simp only[aaA]at h ⊢
   obtain⟨cs,h3,h⟩:=h
   split at h<;>simp at h
   rename_i hle
   subst h
   obtain⟨cs',k1,k2,k3⟩:=Hr.row (ha (.cells b o n) (aa3.2 rfl)) h3
   exact⟨cs',k1,by rw[if_pos (by omega),mS k2 k3]⟩
  |false=>
   simp only[aaA,aaK]at h ⊢
   obtain⟨cs,h3,v,h4,rfl⟩:=h
   obtain⟨cs',k1,k2,k3⟩:=Hr.row (ha (.cells b o 1) (aa3.2 rfl)) h3
   exact⟨cs',k1,v,by rw[k3 o (ae4 _) (by omega)];exact h4,rfl⟩
 |_=>cases isA<;>simp at h
theorem yL{g g':HF}{t:TypeId}{p v:AV}{d:Ft}(h:Qm P g t p v=some d)(ha:∀f∈d.fs,Cc g g' f):Qm P g' t p v=some d:=by
 unfold Qm at h ⊢
 simp only[aaA]at h ⊢
 obtain⟨n,h2,h⟩:=h
 refine⟨n,h2,?_⟩
 cases p with
 |ptr b r o=>
  simp only at h ⊢
  split at h
  ·rename_i st fl w rows hg
   simp only[aaA]at h
   obtain⟨cs,h3,h⟩:=h
   split at h<;>simp at h
   rename_i hc
   subst h
   have hA:Hr o n (g b) (g' b):=ha (.cells b o n) (aa3.2 rfl)
   rw[hg]at hA
   generalize hy:g' b=y at hA
   cases hA with
   |refl=>simp only[aaA];exact⟨cs,h3,by rw[if_pos hc]⟩
   | @live _ _ _ _ _ _ _ rows' a d=>
     have hlt:=(acI.1 h3).1
     have h4:=aa0 (a▸hlt)
     obtain⟨d1,d2⟩:=d r _ _ h3 h4
     simp only[aaA]
     exact⟨_,h4,by rw[if_pos (by rw[←d1];exact hc)]⟩
  ·simp at h
 |_=>simp at h
theorem bI{g g':HF}{b r len:Nat}(h:g' b=g b):Fb g' b r len=Fb g b r len:=by unfold Fb;rw[h]
theorem eK{g g':HF}{e:TypeId}{x:AV}{fl:Bool}{rows:List (List AV)}{fs:List Bf}(h:Dv P g e x=some (fl,rows,fs))(ha:∀f∈fs,Cc g g' f):Dv P g' e x=some (fl,rows,fs):=by
 cases x with
 |slr st b r len=>
  simp only[Dv,aaA]at h ⊢
  obtain⟨⟨st',fl',rows'⟩,h1,h⟩:=h
  simp only at h
  split at h<;>simp at h
  rename_i hs
  obtain⟨rfl,rfl,rfl⟩:=h
  refine⟨_,by rw[bI (ha (.blk b) (aa3.2 rfl))];exact h1,?_⟩
  simp only;rw[if_pos hs]
 |_=>exact h
theorem eJ{g g':HF}{base:Nat}{t:TypeId}{s x:AV}{d:Ft}(h:Gq P g base t s x=some d)(ha:∀f∈d.fs,Cc g g' f):Gq P g' base t s x=some d:=by
 unfold Gq at h ⊢
 simp only[aaA]at h ⊢
 obtain⟨e,h1,n,h2,by_,h3,z,h4,⟨nfl,new,fs⟩,h5,h⟩:=h
 have hfs:(∀f∈fs,f∈d.fs):=by
  simp only at h
  split at h
  ·simp at h
  ·split at h
   ·split at h<;>simp at h<;>subst h<;>exact fun f hf=>hf
   ·split at h<;>simp at h
    subst h;exact fun f hf=>hf
   ·split at h
    ·split at h<;>simp at h
     subst h;exact fun f hf=>acM _ hf
    ·simp at h
   ·simp at h
 refine⟨e,h1,n,h2,by_,h3,z,h4,(nfl,new,fs),eK h5 (fun f hf=>ha f (hfs f hf)),?_⟩
 simp only at h ⊢
 split at h
 ·simp at h
 ·rename_i hn
  rw[if_neg hn]
  cases new with
  |nil=>exact h
  |cons n0 new=>
   cases s with
   |slr st b r len=>
    simp only at h ⊢
    split at h
    ·rename_i st' fl' w' rows' hg
     split at h
     ·rename_i hc
      simp at h
      subst h
      have hb:g' b=g b:=ha (.blk b) (adV ..)
      rw[hb,hg]
      simp only
      rw[if_pos hc]
      rfl
     ·simp at h
    ·simp at h
   |_=>exact h
theorem eF{g g':HF}{b:Nat}(h:g' b=g b):Wu g' b=Wu g b:=by unfold Wu;rw[h]
theorem aj2{g g':HF}{x:AV}{d:Ft}(h:eQ g x=some d)(ha:∀f∈d.fs,Cc g g' f):eQ g' x=some d:=by
 unfold eQ at h ⊢
 split at h
 ·rename_i b
  split at h
  ·rename_i s p hg
   have hb:g' b=g b:=by
    split at h
    ·obtain rfl:=abO.inj h
     exact ha (.blk b) (aa3.2 rfl)
    ·obtain rfl:=abO.inj h
     exact ha (.blk b) (aa3.2 rfl)
   rw[hb,hg];exact h
  ·simp at h
 ·simp at h
theorem yN{g g':HF}{t:TypeId}{m k:AV}{ok:Bool}{d:Ft}(h:Ix P g t m k ok=some d)(ha:∀f∈d.fs,Cc g g' f):Ix P g' t m k ok=some d:=by
 unfold Ix at h ⊢
 split at h
 ·rename_i kt vt b hu
  split at h
  ·rename_i hk
   rw[if_pos hk]
   simp only[aaA]at h ⊢
   obtain⟨kvs,h1,r,h2,z,h3,h⟩:=h
   have hb:g' b=g b:=by
    simp only[abO.injEq]at h;subst h
    exact ha (.blk b) (aa3.2 rfl)
   exact⟨kvs,by rw[eF hb];exact h1,r,h2,z,h3,h⟩
  ·simp at h
 ·simp at h
theorem jW{g g':HF}{t:TypeId}{m k v:AV}{d:Ft}(h:Ia P g t m k v=some d)(ha:∀f∈d.fs,Cc g g' f):Ia P g' t m k v=some d:=by
 unfold Ia at h ⊢
 split at h
 ·rename_i kt vt b hu
  split at h
  ·rename_i hk
   rw[if_pos hk]
   simp only[aaA]at h ⊢
   obtain⟨kvs,h1,r,h2,h⟩:=h
   have hb:g' b=g b:=by
    refine ha (.blk b) ?_
    split at h
    ·split at h<;>simp at h
     subst h;exact aa3.2 rfl
    ·simp at h;subst h;exact aa3.2 rfl
   exact⟨kvs,by rw[eF hb];exact h1,r,h2,h⟩
  ·simp at h
 ·simp at h
theorem aeB{g g':HF}{s d:TypeId}{x:AV}{dd:Ft}(h:Rr P g s d x=some dd)(ha:∀f∈dd.fs,Cc g g' f):Rr P g' s d x=some dd:=by
 unfold Rr at h ⊢
 split at h
 ·rename_i e hs hd
  split at h
  ·rename_i he
   try rw[he]
   try simp only
   split at h
   ·simp at h
   ·rename_i hns
    have:∀{y:Option Ft},((Dv P g' e x).bind fun(_,rows,fs)=>(Nl rows).map fun l=>(⟨.str l,[],fs⟩:Ft))=some dd:=by
     intro _
     simp only[aaA,aaK]at h ⊢
     obtain⟨⟨fl,rows,fs⟩,h1,l,h2,rfl⟩:=h
     exact⟨_,eK h1 (fun f hf=>ha f hf),l,h2,rfl⟩
    cases x with
    |str q=>exact(hns _ rfl).elim
    |_=>exact this (y:=none)
  ·simp at h
 ·exact h
theorem akE{g g':HF}{base:Nat}{t:List AV}{o:Op}{d:Ft}(h:exec P g base t o=some d)(ha:∀f∈d.fs,Cc g g' f):exec P g' base t o=some d:=by
 cases o with
 |load ty x=>
  simp only[exec,aaA]at h ⊢
  obtain⟨p,h1,h2⟩:=h
  exact⟨p,h1,afP h2 ha⟩
 |store ty x y=>
  simp only[exec,aaA]at h ⊢
  obtain⟨p,h1,v,h2,h3⟩:=h
  exact⟨p,h1,v,h2,yL h3 ha⟩
 |lookup ty x y ok=>
  simp only[exec,aaA]at h ⊢
  obtain⟨p,h1,v,h2,h3⟩:=h
  exact⟨p,h1,v,h2,yN h3 ha⟩
 |mapUpdate ty x y z=>
  simp only[exec,aaA]at h ⊢
  obtain⟨p,h1,v,h2,u,h3,h4⟩:=h
  exact⟨p,h1,v,h2,u,h3,jW h4 ha⟩
 |insert ty x y z=>
  simp only[exec,aaA]at h ⊢
  obtain⟨p,h1,v,h2,u,h3,h4⟩:=h
  exact⟨p,h1,v,h2,u,h3,jW h4 ha⟩
 |convert s ty x=>
  simp only[exec,aaA]at h ⊢
  obtain⟨p,h1,h2⟩:=h
  exact⟨p,h1,aeB h2 ha⟩
 |range ty x=>exact h
 |next x is=>
  cases is with
  |false=>exact h
  |true=>
   simp only[exec,aaA]at h ⊢
   obtain⟨p,h1,h2⟩:=h
   exact⟨p,h1,aj2 h2 ha⟩
 |makeMap ty r=>cases r<;>exact h
 |makeFunc fn xs ys=>cases fn<;>exact h
 |slice ty x lo hi mx=>cases mx<;>exact h
 |call c=>
  obtain⟨cal,args,ts⟩:=c
  cases cal with
  |builtin b=>
   simp only[exec,aaA]at h ⊢
   obtain⟨vs,h1,h⟩:=h
   refine⟨vs,h1,?_⟩
   split at h
   ·exact h
   ·simp only[aaA]at h ⊢
    obtain⟨t0,h2,t1,h3,h⟩:=h
    refine⟨t0,h2,t1,h3,?_⟩
    split at h
    ·exact eJ h ha
    ·exact eJ h ha
    ·simp at h
   ·exact h
   ·exact h
   ·exact h
   ·exact h
   ·simp at h
  |_=>exact h
 |_=>exact h
def Sl(base:Nat)(F:Nat→Option Ft)(d:Ft):Prop:=(∀b c,Af.new b c∈d.es→b=base)∧((∀b c,Af.new b c∉d.es)→∀base',F base'=some d)
theorem nB{base:Nat}{v:AV}{d:Ft}(h:cM base v=some d):Sl base (fun b=>cM b v) d:=by
 unfold cM at h
 split at h<;>simp at h
 subst h
 exact⟨fun b c hb=>by simp at hb;exact hb.1,fun hn=>(hn _ _ (aa3.2 rfl)).elim⟩
theorem dI{base:Nat}{t:TypeId}{len:Nat}{parts:List (Nat × AV)}{d:Ft}(h:Bm P base t len parts=some d):Sl base (fun b=>Bm P b t len parts) d:=by
 unfold Bm at h
 simp only[aaA]at h
 obtain⟨e,h1,n,h2,z,h3,h⟩:=h
 split at h
 ·simp at h
 ·obtain⟨rows,h4,h⟩:=aaA.1 h
  split at h<;>simp at h
  subst h
  exact⟨fun b c hb=>by simp at hb;exact hb.1,fun hn=>(hn _ _ (aa3.2 rfl)).elim⟩
theorem fP{base:Nat}{t:TypeId}{l c:AV}{d:Ft}(h:Gx P base t l c=some d):Sl base (fun b=>Gx P b t l c) d:=by
 unfold Gx at h
 simp only[aaA]at h
 obtain⟨e,h1,n,h2,b,h3,z,h4,h⟩:=h
 split at h
 ·split at h<;>simp at h
  subst h
  exact⟨fun b c hb=>by simp at hb;exact hb.1,fun hn=>(hn _ _ (aa3.2 rfl)).elim⟩
 ·simp at h
theorem cD{g:HF}{base:Nat}{t:TypeId}{s x:AV}{d:Ft}(h:Gq P g base t s x=some d):Sl base (fun b=>Gq P g b t s x) d:=by
 have h0:=h
 unfold Gq at h
 simp only[aaA]at h
 obtain⟨e,h1,n,h2,by_,h3,z,h4,⟨nfl,new,fs⟩,h5,h⟩:=h
 simp only at h
 split at h
 ·simp at h
 ·rename_i hn
  cases new with
  |nil=>
   refine⟨fun b c hb=>?_,fun _ base'=>?_⟩
   ·simp only at h
    split at h<;>simp at h<;>subst h<;>simp at hb
   ·unfold Gq
    simp only[aaA]
    refine⟨e,h1,n,h2,by_,h3,z,h4,(nfl,[],fs),h5,?_⟩
    simp only;rw[if_neg hn];exact h
  |cons n0 new=>
   cases s with
   |nils=>
    simp only at h
    split at h<;>simp at h
    subst h
    exact⟨fun b c hb=>by simp at hb;exact hb.1,fun hn=>(hn _ _ (aa3.2 rfl)).elim⟩
   |slr st b r len=>
    simp only at h
    split at h
    ·split at h<;>simp at h
     subst h
     exact⟨fun b c hb=>by simp at hb;exact hb.1,fun hn=>(hn _ _ (acM _ (aa3.2 rfl))).elim⟩
    ·simp at h
   |_=>simp at h
theorem ab4{g:HF}{base:Nat}{t:List AV}{o:Op}{d:Ft}(h:exec P g base t o=some d):Sl base (fun b=>exec P g b t o) d:=by
 have still:(∀base',exec P g base' t o=exec P g base t o)→d.es=[]→Sl base (fun b=>exec P g b t o) d:=fun h1 h2=>
  ⟨fun b c hb=>by rw[h2]at hb;simp at hb,fun _ base'=>(h1 base').trans h⟩
 have pure':∀{x:Option AV} {d:Ft},Gl x=some d→d.es=[]:=fun hx=>by
  obtain⟨v,_,rfl⟩:=aaK.1 hx;rfl
 have lift:∀{α:Type} {x:Option α} {F:Nat→α→Option Ft} (v:α),x=some v→Sl base (fun b=>F b v) d→Sl base (fun b=>x.bind (F b)) d:=fun v hv k=>by
  subst hv;exact k
 have goodE:(∀(he:exec P g base t o=some d),d.es=[])→(∀base',exec P g base' t o=exec P g base t o)→Sl base (fun b=>exec P g b t o) d:=fun h1 h2=>still h2 (h1 h)
 cases o with
 |alloc ty=>obtain⟨z,h1,h⟩:=aaA.1 h;exact lift z h1 (nB h)
 |box ty x=>obtain⟨z,h1,h⟩:=aaA.1 h;exact lift z h1 (nB h)
 |buildSlice ty n ps=>obtain⟨z,h1,h⟩:=aaA.1 h;exact lift z h1 (dI h)
 |makeSlice ty x y=>
  obtain⟨p,h1,h⟩:=aaA.1 h
  obtain⟨q,h2,h⟩:=aaA.1 h
  exact lift p h1 (lift q h2 (fP h))
 |makeFunc fn xs ys=>
  cases fn with
  |func f=>
   refine still (fun _=>rfl) ?_
   simp only[exec,aaA]at h
   obtain⟨p,_,v,_,h⟩:=h
   simp at h;subst h;rfl
  |_=>simp[exec]at h
 |slice ty x lo hi mx=>
  cases mx with
  |some m=>simp[exec]at h
  |none=>
   refine still (fun _=>rfl) ?_
   simp only[exec,aaA]at h
   obtain⟨p,_,v,_,u,_,h⟩:=h
   exact pure' h
 |call c=>
  obtain⟨cal,args,ts⟩:=c
  cases cal with
  |builtin b=>
   obtain⟨vs,hvs,he⟩:=aaA.1 h
   have hx:Sl base (fun b'=>exec P g b' t (.call ⟨.builtin b,args,ts⟩)) d:=by
    simp only[exec]
    refine lift vs hvs ?_
    split at he
    ·obtain⟨t0,q1,q2⟩:=aaA.1 he
     exact⟨fun b c hb=>by rw[pure' q2]at hb;simp at hb,fun _ _=>he⟩
    ·obtain⟨t0,q1,q2⟩:=aaA.1 he
     obtain⟨t1,q3,q4⟩:=aaA.1 q2
     refine lift t0 q1 (lift t1 q3 ?_)
     split at q4
     ·exact cD q4
     ·exact cD q4
     ·simp at q4
    ·exact⟨fun b c hb=>by rw[pure' he]at hb;simp at hb,fun _ _=>he⟩
    ·exact⟨fun b c hb=>by rw[pure' he]at hb;simp at hb,fun _ _=>he⟩
    ·exact⟨fun b c hb=>by rw[pure' he]at hb;simp at hb,fun _ _=>he⟩
    ·exact⟨fun b c hb=>by rw[pure' he]at hb;simp at hb,fun _ _=>he⟩
    ·simp at he
   exact hx
  |_=>simp[exec]at h
 |load ty x=>
  refine still (fun _=>rfl) ?_
  obtain⟨p,_,he⟩:=aaA.1 h
  unfold Nz at he
  simp only[aaA]at he
  obtain⟨isA,_,n,_,he⟩:=he
  split at he
  ·split at he<;>simp at he;subst he;rfl
  ·obtain⟨cs,_,he⟩:=aaA.1 he
   split at he<;>simp at he;subst he;rfl
  ·simp at he;subst he;rfl
  ·obtain⟨cs,_,he⟩:=aaA.1 he
   obtain⟨v,_,rfl⟩:=aaK.1 he;rfl
  ·simp at he
 |store ty x y=>
  refine⟨fun b c hb=>?_,fun _ _=>h⟩
  simp only[exec,aaA]at h
  obtain⟨p,_,v,_,he⟩:=h
  unfold Qm at he
  obtain⟨n,_,he⟩:=aaA.1 he
  cases p with
  |ptr b r o=>
   simp only at he
   split at he
   ·obtain⟨cs,_,he⟩:=aaA.1 he
    split at he<;>simp at he
    subst he;simp at hb
   ·simp at he
  |_=>simp at he
 |move x=>exact still (fun _=>rfl) (pure' h)
 |assign x=>exact still (fun _=>rfl) (pure' h)
 |pick a b c=>
  refine still (fun _=>rfl) ?_
  simp only[exec,aaA]at h
  obtain⟨c,_,x,_,y,_,he⟩:=h
  split at he<;>simp at he
  subst he;rfl
 |build ty ps=>obtain⟨z,_,he⟩:=aaA.1 h;exact still (fun _=>rfl) (pure' he)
 |nilCheck x=>
  refine still (fun _=>rfl) ?_
  obtain⟨p,_,he⟩:=aaA.1 h
  split at he<;>simp at he<;>subst he<;>rfl
 |binOp op ty x y yt=>
  refine still (fun _=>rfl) ?_
  simp only[exec,aaA]at h
  obtain⟨p,_,v,_,he⟩:=h;exact pure' he
 |unOp op ty x=>obtain⟨z,_,he⟩:=aaA.1 h;exact still (fun _=>rfl) (pure' he)
 |convert s ty x=>obtain⟨z,_,he⟩:=aaA.1 h;exact still (fun _=>rfl) (kE he)
 |lookup ty x y ok=>
  refine still (fun _=>rfl) ?_
  simp only[exec,aaA]at h
  obtain⟨p,_,v,_,he⟩:=h;exact dU he
 |mapUpdate ty x y z=>
  refine⟨fun b c hb=>?_,fun _ _=>h⟩
  simp only[exec,aaA]at h
  obtain⟨p,_,v,_,u,_,he⟩:=h
  obtain⟨b',kvs,kvs',_,h2⟩:=Yl he
  rw[h2]at hb;simp at hb
 |insert ty x y z=>
  refine⟨fun b c hb=>?_,fun _ _=>h⟩
  simp only[exec,aaA]at h
  obtain⟨p,_,v,_,u,_,he⟩:=h
  obtain⟨b',kvs,kvs',_,h2⟩:=Yl he
  rw[h2]at hb;simp at hb
 |range ty x=>
  obtain⟨z,_,he⟩:=aaA.1 h
  obtain⟨s,hs⟩:=sC he
  exact⟨fun b c hb=>by rw[hs]at hb;simp at hb;exact hb.1,fun hn=>(hn _ _ (by rw[hs];exact aa3.2 rfl)).elim⟩
 |next x is=>
  cases is with
  |false=>simp[exec]at h
  |true=>
   refine⟨fun b c hb=>?_,fun _ _=>h⟩
   obtain⟨z,_,he⟩:=aaA.1 h
   rcases aaZ he with e|⟨b',kvs,kvs',_,e⟩
   ·rw[e]at hb;simp at hb
   ·rw[e]at hb;simp at hb
 |makeMap ty r=>
  cases r with
  |some r=>simp[exec]at h
  |none=>
   simp[exec]at h;subst h
   exact⟨fun b c hb=>by simp at hb;exact hb.1,fun hn=>(hn _ _ (aa3.2 rfl)).elim⟩
 |makeInterface ty x=>
  refine still (fun _=>rfl) ?_
  obtain⟨z,_,he⟩:=aaA.1 h
  split at he<;>simp at he;subst he;rfl
 |fieldAddr ty x f=>obtain⟨z,_,he⟩:=aaA.1 h;exact still (fun _=>rfl) (pure' he)
 |field ty x f=>obtain⟨z,_,he⟩:=aaA.1 h;exact still (fun _=>rfl) (pure' he)
 |indexAddr ty x y=>
  refine still (fun _=>rfl) ?_
  simp only[exec,aaA]at h
  obtain⟨p,_,v,_,he⟩:=h;exact pure' he
 |index ty x y=>
  refine still (fun _=>rfl) ?_
  simp only[exec,aaA]at h
  obtain⟨p,_,v,_,he⟩:=h;exact pure' he
 |extract x i=>
  refine still (fun _=>rfl) ?_
  obtain⟨z,_,he⟩:=aaA.1 h
  split at he
  ·exact pure' he
  ·simp at he
 |_=>simp[exec]at h
end
end
end Go.Ev
namespace Go.Ev
open Go.RowKit
section
variable {P:Program} {O:Ea} {g g':HF}
theorem Lu{α β:Type}{f f':α→Option β}:∀{l:List α},(∀a∈l,f a=f' a)→Au f l=Au f' l
 | [],_=>rfl
 |a::l,h=>by
  simp only[Au]
  rw[h a (adV ..),Lu (fun b hb=>h b (acM _ hb))]
theorem Ip{α β:Type}{f f':α→List β}:∀{l:List α},(∀a∈l,f a=f' a)→l.flatMap f=l.flatMap f'
 | [],_=>rfl
 |a::l,h=>by
  simp only[alV]
  rw[h a (adV ..),Ip (fun b hb=>h b (acM _ hb))]
theorem Wl:∀{d:Nat} {v:AV},(∀b∈Bd d g v,g' b=g b)→Eu d g' v=Eu d g v∧Bd d g' v=Bd d g v
 |0,v,_=>⟨rfl,rfl⟩
 |d+1,v,h=>by
  cases v with
  |slr st b r len=>
   have hb:Fb g' b r len=Fb g b r len:=bI (h b (by simp[Bd]))
   simp only[Eu,Bd,hb]
   cases hr:Fb g b r len with
   |none=>exact⟨rfl,rfl⟩
   |some x=>
    obtain⟨st',fl,rows⟩:=x
    cases fl with
    |true=>exact⟨rfl,rfl⟩
    |false=>
     have hin:∀cs∈rows,∀c∈cs,Eu d g' c=Eu d g c∧Bd d g' c=Bd d g c:=fun cs hcs c hc=>Wl fun b' hb'=>h b' (by
      simp only[Bd,hr]
      exact acM _ (aa9.2 ⟨cs,hcs,aa9.2 ⟨c,hc,hb'⟩⟩))
     refine⟨?_,?_⟩
     ·show(Au (Au (Eu d g')) rows).map (AV.imm st' false)=(Au (Au (Eu d g)) rows).map (AV.imm st' false)
      rw[Lu (fun cs hcs=>Lu (fun c hc=>(hin cs hcs c hc).1))]
     ·show b::rows.flatMap (fun cs=>cs.flatMap (Bd d g'))=b::rows.flatMap (fun cs=>cs.flatMap (Bd d g))
      rw[Ip (fun cs hcs=>Ip (fun c hc=>(hin cs hcs c hc).2))]
  |agg cs=>
   have hin:∀c∈cs,Eu d g' c=Eu d g c∧Bd d g' c=Bd d g c:=fun c hc=>Wl fun b' hb'=>h b' (by simp only[Bd];exact aa9.2 ⟨c,hc,hb'⟩)
   simp only[Eu,Bd]
   rw[Lu (fun c hc=>(hin c hc).1),Ip (fun c hc=>(hin c hc).2)]
   exact⟨rfl,rfl⟩
  |iface t x=>
   have:=Wl (d:=d) (v:=x) (fun b' hb'=>h b' (by simpa only[Bd]using hb'))
   simp only[Eu,Bd]
   rw[this.1,this.2]
   exact⟨rfl,rfl⟩
  |func fn a b=>cases a<;>cases b<;>exact⟨rfl,rfl⟩
  |_=>exact⟨rfl,rfl⟩
theorem hZ:∀{d:Nat} {v:AV},(∀b∈Bd d g v,g' b=g b)→Gy d g' v=Gy d g v
 |0,v,_=>rfl
 |d+1,v,h=>by
  cases v with
  |slr st b r len=>exact(Wl h).1
  |agg cs=>
   have hin:∀c∈cs,Gy d g' c=Gy d g c:=fun c hc=>hZ fun b' hb'=>h b' (by simp only[Bd];exact aa9.2 ⟨c,hc,hb'⟩)
   simp only[Gy]
   rw[Lu hin]
  |iface t x=>
   have:=hZ (d:=d) (v:=x) (fun b' hb'=>h b' (by simpa only[Bd]using hb'))
   simp only[Gy]
   rw[this]
  |_=>rfl
theorem lK:∀{n i:Nat} {m m':List Nat} {cs:List CB},Hh n g i m=some (cs,m')→i≤m.length→(∀b∈m',g' b=g b)→Hh n g' i m=some (cs,m')
 |0,_,_,_,_,h,_,_=>by simp[Hh]at h
 |n+1,i,m,m',cs,h,hi,hm=>by
  have hpre:=(dE h hi).1
  unfold Hh at h ⊢
  cases hb:m[i]? with
  |none=>rw[hb]at h;exact h
  |some b=>
   rw[hb]at h
   simp only[aaA,aaK]at h ⊢
   obtain⟨c,h1,⟨c',m1⟩,h2,⟨cs',m2⟩,h3,h4⟩:=h
   simp at h4
   obtain⟨rfl,rfl⟩:=h4
   have hlt:=(acI.1 hb).1
   have hmem:b∈m2:=(List.IsPrefix.subset hpre) (alZ hb)
   refine⟨c,by rw[hm b hmem];exact h1,(c',m1),h2,(cs',m2),?_,rfl⟩
   have hl:i+1≤m1.length:=by have:=((vT h2).1).length_le;omega
   exact lK h3 hl hm
theorem uT{m m':List Nat}{vs vs':List AV}{cs:List CB}(h:Hz g m vs=some (vs',cs,m'))(hm:∀b∈m',g' b=g b):Hz g' m vs=some (vs',cs,m'):=by
 unfold Hz at h ⊢
 simp only[aaA,aaK]at h ⊢
 obtain⟨⟨v1,m1⟩,h1,⟨c1,m2⟩,h2,h3⟩:=h
 simp at h3
 obtain⟨rfl,rfl,rfl⟩:=h3
 exact⟨_,h1,_,lK h2 (Nat.zero_le _) hm,rfl⟩
theorem fG:∀{l:List Nat},(∀b∈l,g' b=g b)→Dn g' l=Dn g l
 | [],_=>rfl
 |b::l,h=>by
  simp only[Dn]
  rw[h b (adV ..),fG (fun x hx=>h x (acM _ hx))]
theorem oO{base:Nat}{lent m:List Nat}{cs:List CB}{out:Dk}{h':Aa}{d:Jf}(h:Jr g base lent m cs out h'=some d):d.fs=(lent++m).map .blk:=by
 unfold Jr at h
 simp only[aaA]at h
 obtain⟨v,_,ps,_,ns,_,h⟩:=h
 simp at h
 subst h;simp
theorem xO{base:Nat}{f:Qr}{args:List AV}{d:Jf}(h:Db O g base f args=some d)(ha:∀x∈d.fs,Cc g g' x):
 Db O g' base f args=some d∧Au (Gy 12 g') args=Au (Gy 12 g) args∧∀vs vs' cs m,Au (Gy 12 g) args=some vs→Hz g' [] vs=some (vs',cs,m)→Hz g [] vs=some (vs',cs,m):=by
 unfold Db at h ⊢
 simp only[aaA]at h
 obtain⟨vs,hvs,⟨vs',cs,m⟩,hp,h⟩:=h
 simp only at h
 split at h
 ·simp at h
 ·rename_i hlm
  simp only[aaA]at h
  obtain⟨⟨out,h'⟩,hc,hu⟩:=h
  simp only at hu
  have hfs:=oO hu
  have hl:∀b∈args.flatMap (Bd 12 g),g' b=g b:=fun b hb=>ha (.blk b) (by rw[hfs];exact agA.2 ⟨b,apM _ hb,rfl⟩)
  have hm:∀b∈m,g' b=g b:=fun b hb=>ha (.blk b) (by rw[hfs];exact agA.2 ⟨b,aiO _ hb,rfl⟩)
  have hin:∀x∈args,Eu 12 g' x=Eu 12 g x∧Bd 12 g' x=Bd 12 g x:=fun x hx=>Wl fun b hb=>hl b (aa9.2 ⟨x,hx,hb⟩)
  have hlen:args.flatMap (Bd 12 g')=args.flatMap (Bd 12 g):=Ip fun x hx=>(hin x hx).2
  have harg:Au (Gy 12 g') args=Au (Gy 12 g) args:=Lu fun x hx=>hZ fun b hb=>hl b (aa9.2 ⟨x,hx,hb⟩)
  have hp':=uT hp hm
  refine⟨?_,harg,fun vs1 vs1' cs1 m1 q1 q2=>?_⟩
  ·simp only[aaA]
   refine⟨vs,by rw[harg];exact hvs,(vs',cs,m),hp',?_⟩
   simp only[hlen]
   rw[if_neg hlm]
   simp only[aaA]
   refine⟨(out,h'),hc,?_⟩
   simp only
   unfold Jr at hu ⊢
   rw[fG hl]
   exact hu
  ·rw[hvs]at q1;cases q1
   rw[hp']at q2
   rw[hp];exact q2
theorem Yg{base:Nat}{f:Qr}{args:List AV}{d:Jf}(h:It O g base f args=some d):d.fs=[.all]:=by
 unfold It at h
 obtain⟨_,_,h⟩:=aaA.1 h
 obtain⟨_,_,h⟩:=aaA.1 h
 obtain⟨_,_,rfl⟩:=aaK.1 h
 rfl
theorem adQ{base:Nat}{f:Qr}{args:List AV}{d:Jf}(h:Et O g base f args=some d)(ha:∀x∈d.fs,Cc g g' x):
 Et O g' base f args=some d∧Au (Gy 12 g') args=Au (Gy 12 g) args∧∀vs vs' cs m,Au (Gy 12 g) args=some vs→Hz g' [] vs=some (vs',cs,m)→Hz g [] vs=some (vs',cs,m):=by
 have sh:It O g base f args=some d→g'=g:=fun h=>ha .all (by rw[Yg h];simp)
 by_cases hp:Vd O f args
 ·obtain⟨n,_,k2⟩:=hp.eq
  rw[k2]at h ⊢
  exact xO h ha
 ·rw[Ui hp]at h ⊢
  have:=sh h
  subst this
  exact⟨h,rfl,fun _ _ _ _ _ q=>q⟩
end
end Go.Ev
namespace Go.Ev
noncomputable section
open Go.RowKit
section
variable {P:Program} {O:Ea}
def iU(O:Ea)(P:Program)(ops:List Oper)(t:List AV)(g:HF)(base:Nat)(o:Oper):Option Ft:=
 match Ey ops t o with
 |none=>none
 |some false=>some ⟨.tup [],[],[]⟩
 |some true=>
  match Fo o.op with
  | .call c=>(callee P t c).bind fun(f,args)=>(Et O g base f args).bind fun d=>match d.out with
    | .ret v=>some ⟨v,d.es,d.fs⟩
    | .pan _=>none
  | .panic _=>none
  | .other=>exec P g base t o.op
inductive iM(O:Ea)(P:Program)(ops:List Oper):List (Oper × Ft)→St→St→Prop
 |nil (s:St):iM O P ops [] s s
 |cons {o:Oper} {d:Ft} {l:List (Oper × Ft)} {s s':St}:iU O P ops s.tmps (hf s.h) s.h.length o=some d→Dt s.h d.es→iM O P ops l ⟨put s.tmps o.dst d.v,Bo s.h d.es⟩ s'→iM O P ops ((o,d)::l) s s'
theorem iL{ops:List Oper}{gs:List Nat}{k:St→Qy→R}{r:Ex × St}:∀{rest:List Oper} {i:Nat} {s:St} {log:Qy},Ez O P ops gs rest i s log k (fun _ _=>none)=some r→
 ∃recs s',iM O P ops recs s s'∧recs.map (·.1)=rest∧k s' (log++recs.map fun x=>(x.2.es,x.2.fs))=some r
 | [],i,s,log,h=>⟨[],s,.nil s,rfl,by simpa [Ez]using h⟩
 |o::rest,i,s,log,h=>by
  have fin:∀(d:Ft),iU O P ops s.tmps (hf s.h) s.h.length o=some d→Dt s.h d.es→Ez O P ops gs rest (i+1) ⟨put s.tmps o.dst d.v,Bo s.h d.es⟩ (log++[(d.es,d.fs)]) k (fun _ _=>none)=some r→
   ∃recs s',iM O P ops recs s s'∧recs.map (·.1)=o::rest∧k s' (log++recs.map fun x=>(x.2.es,x.2.fs))=some r:=fun d h1 h2 h3=>by
   obtain⟨recs,s',k1,k2,k3⟩:=iL h3
   exact⟨(o,d)::recs,s',.cons h1 h2 k1,by simp[k2],by simpa using k3⟩
  unfold Ez at h
  split at h
  ·simp at h
  ·rename_i hw
   exact fin ⟨.tup [],[],[]⟩ (by simp only[iU,hw]) (.nil _) h
  ·rename_i hw
   cases hk:Fo o.op with
   |call c=>
    rw[hk]at h
    simp only[aaA]at h
    obtain⟨⟨fc,args⟩,hcal,d,hd,h⟩:=h
    simp only at hd
    cases ho:d.out with
    |ret v=>
     rw[ho]at h
     simp only[Fa]at h
     refine fin ⟨v,d.es,d.fs⟩ ?_ (Zm hd) h
     simp only[iU,hw,hk,aaA]
     exact⟨(fc,args),hcal,d,hd,by simp only[ho]⟩
    |pan v=>rw[ho]at h;simp at h
   |panic x=>
    rw[hk]at h
    simp only[aaA]at h
    obtain⟨v,hv,h⟩:=h
    split at h<;>simp at h
   |other=>
    rw[hk]at h
    simp only[aaA,Fa]at h
    obtain⟨d,hd,h⟩:=h
    exact fin d (by simp only[iU,hw,hk];exact hd) (oH hd) h
def tS:(Nat→Bool)→List (Oper × Ft)→List AV→List AV
 |_,[],t=>t
 |D,x::l,t=>tS (fun n=>D (n+1)) l (if D 0=true then put t x.1.dst x.2.v else t)
def gS:(Nat→Bool)→List (Oper × Ft)→HF→HF
 |_,[],g=>g
 |D,x::l,g=>gS (fun n=>D (n+1)) l (if D 0=true then As g x.2.es else g)
theorem wG:∀{l:List (Oper × Ft)} {D D':Nat→Bool} {t:List AV},(∀i,i<l.length→D i=D' i)→tS D l t=tS D' l t
 | [],_,_,_,_=>rfl
 |x::l,D,D',t,h=>by
  simp only[tS]
  rw[h 0 (by simp),wG (fun i hi=>h (i+1) (by simp;omega))]
theorem sH:∀{l:List (Oper × Ft)} {D D':Nat→Bool} {g:HF},(∀i,i<l.length→D i=D' i)→gS D l g=gS D' l g
 | [],_,_,_,_=>rfl
 |x::l,D,D',g,h=>by
  simp only[gS]
  rw[h 0 (by simp),sH (fun i hi=>h (i+1) (by simp;omega))]
theorem pQ:∀{l:List (Oper × Ft)} {D:Nat→Bool} {t:List AV},(∀i,D i=false)→tS D l t=t
 | [],_,_,_=>rfl
 |x::l,D,t,h=>by simp only[tS];rw[h 0];exact pQ (fun i=>h (i+1))
theorem gP:∀{l:List (Oper × Ft)} {D:Nat→Bool} {g:HF},(∀i,D i=false)→gS D l g=g
 | [],_,_,_=>rfl
 |x::l,D,g,h=>by simp only[gS];rw[h 0];exact gP (fun i=>h (i+1))
theorem wV(i:Nat):(fun n=>decide (n+1<i+1))=fun n=>decide (n<i):=by funext n;simp
theorem iM.at{ops:List Oper}:∀{recs:List (Oper × Ft)} {s s':St},iM O P ops recs s s'→∀i o d,recs[i]?=some (o,d)→
 ∃h:Aa,iU O P ops (tS (fun n=>decide (n<i)) recs s.tmps) (gS (fun n=>decide (n<i)) recs (hf s.h)) h.length o=some d∧gS (fun n=>decide (n<i)) recs (hf s.h)=hf h∧Dt h d.es∧s.h.length≤h.length∧h.length≤s'.h.length∧
  (∀b,Fv d.es b→b<s'.h.length)∧∀j o' d',j<i→recs[j]?=some (o',d')→∀b,Fv d'.es b→b<h.length
 |_,_,_,.nil s,i,o,d,h=>by simp at h
 |_,s,s',.cons (o:=o0) (d:=d0) (l:=l) h1 h2 h3,i,o,d,h=>by
  obtain⟨e1,e2,e3,e4⟩:=Tn h2.ok
  have hlast:(Bo s.h d0.es).length≤s'.h.length:=by
   have aux:∀{recs:List (Oper × Ft)} {s s':St},iM O P ops recs s s'→s.h.length≤s'.h.length:=fun hr=>by
    induction hr with
    |nil=>exact ae4 _
    |cons _ k2 _ ih=>exact agB (Tn k2.ok).2.1 ih
   exact aux h3
  cases i with
  |zero=>
   simp at h
   obtain⟨rfl,rfl⟩:=h
   refine⟨s.h,?_,?_,h2,ae4 _,agB e2 hlast,fun b hb=>apR (e3 b hb) hlast,fun j _ _ hj=>by omega⟩
   ·rw[pQ (fun i=>by simp),gP (fun i=>by simp)];exact h1
   ·rw[gP (fun i=>by simp)]
  |succ i=>
   simp at h
   obtain⟨hh,k1,k2,k3,k4,k5,k6,k7⟩:=iM.at h3 i o d h
   simp only[tS,gS,wV]
   simp only[Nat.zero_lt_succ,decide_true,if_true]
   rw[←e1]
   refine⟨hh,k1,k2,k3,agB e2 k4,k5,k6,fun j o' d' hj hr b hb=>?_⟩
   cases j with
   |zero=>simp at hr;obtain⟨rfl,rfl⟩:=hr;exact apR (e3 b hb) k4
   |succ j=>exact k7 j o' d' (by omega) (by simpa using hr) b hb
theorem Dt.trans{h:Aa}{es es':List Af}(a:Dt h es)(b:Dt (Bo h es) es'):Dt h (es++es'):=by
 obtain⟨k1,k2,k3,k4⟩:=Tn a.ok
 have ok:∀(es:List Af) (h:Aa),Xl h.length es→Xl (Bo h es).length es'→Xl h.length (es++es'):=by
  intro es
  induction es with
  |nil=>intro h _ q;exact q
  |cons e es ih=>
   intro h q1 q2
   cases e with
   |new b c=>
    obtain⟨r1,r2⟩:=q1
    exact⟨r1,by have:=ih (h++[c]) (by simpa using r2) q2;simpa using this⟩
   |put b c=>
    obtain⟨r1,r2⟩:=q1
    exact⟨r1,by have:=ih (h.set b c) (by simpa using r2) q2;simpa using this⟩
   |cells b r o vs=>
    obtain⟨r1,r2⟩:=q1
    have hl:(Ls h (.cells b r o vs)).length=h.length:=by
     simp only[Ls];split<;>simp
    exact⟨r1,by have:=ih (Ls h (.cells b r o vs)) (by rw[hl];exact r2) q2;rw[hl]at this;exact this⟩
 have fa:∀(es:List Af) (g:HF),As g (es++es')=As (As g es) es':=by
  intro es
  induction es with
  |nil=>intro g;rfl
  |cons e es ih=>intro g;exact ih _
 have eid:∀b,Fv (es++es') b↔Fv es b∨Fv es' b:=fun b=>by
  constructor
  ·rintro⟨e,he,En⟩
   rcases alX.1 he with he|he
   ·exact .inl ⟨e,he,En⟩
   ·exact .inr ⟨e,he,En⟩
  ·rintro(⟨e,he,En⟩|⟨e,he,En⟩)
   ·exact⟨e,apM _ he,En⟩
   ·exact⟨e,aiO _ he,En⟩
 refine⟨ok es h a.ok b.ok,fun x hx hlt=>?_,fun x hx=>?_⟩
 ·rw[fa,←k1]
  by_cases h1:Fv es x
  ·refine⟨(a.touched x h1 hlt).1,fun c hc=>?_⟩
   by_cases h2:Fv es' x
   ·exact(b.touched x h2 (k3 x h1)).2 c hc
   ·rw[b.untouched x h2,k1]at hc
    exact(a.touched x h1 hlt).2 c hc
  ·have h2:Fv es' x:=((eid x).1 hx).resolve_left h1
   obtain⟨q1,q2⟩:=b.touched x h2 (apR hlt k2)
   rw[k1,a.untouched x h1]at q1
   exact⟨q1,q2⟩
 ·have h1:¬Fv es x:=fun e=>hx ((eid x).2 (.inl e))
  have h2:¬Fv es' x:=fun e=>hx ((eid x).2 (.inr e))
  rw[fa,←k1,b.untouched x h2,k1,a.untouched x h1]
def Yx(recs:List (Oper × Ft)):List Af:=recs.flatMap (·.2.es)
theorem afT{recs:List (Oper × Ft)}{b:Nat}:Fv (Yx recs) b↔∃(j:Nat) (o:Oper) (d:Ft),recs[j]?=some (o,d)∧Fv d.es b:=by
 unfold Yx
 constructor
 ·rintro⟨e,he,En⟩
  obtain⟨x,hx,he⟩:=aa9.1 he
  obtain⟨j,hj⟩:=List.mem_iff_getElem?.1 hx
  exact⟨j,x.1,x.2,hj,e,he,En⟩
 ·rintro⟨j,o,d,hj,e,he,En⟩
  exact⟨e,aa9.2 ⟨(o,d),alZ hj,he⟩,En⟩
theorem Xr:∀{es es':List Af} {g:Aa},Bo g (es++es')=Bo (Bo g es) es'
 | [],_,_=>rfl
 |e::es,_,_=>Xr (es:=es)
theorem akT:∀{recs:List (Oper × Ft)} {g:HF},gS (fun _=>true) recs g=As g (Yx recs)
 | [],g=>rfl
 |x::l,g=>by
  simp only[gS,if_true,Yx,alV]
  rw[Nr]
  exact akT
theorem iM.last{ops:List Oper}{recs:List (Oper × Ft)}{s s':St}(h:iM O P ops recs s s'):s'.tmps=tS (fun _=>true) recs s.tmps∧s'.h=Bo s.h (Yx recs)∧Dt s.h (Yx recs):=by
 induction h with
 |nil s=>exact⟨rfl,rfl,.nil _⟩
 | @cons o d l s s' h1 h2 h3 ih=>
   obtain⟨k1,k2,k3⟩:=ih
   refine⟨?_,?_,?_⟩
   ·simp only[tS,if_true];exact k1
   ·simp only[Yx,alV];rw[Xr];exact k2
   ·simp only[Yx,alV];exact h2.trans k3
theorem apL(t:List AV)(d:Option Nat)(v:AV):(put t d v).length=t.length:=by cases d<;>simp[put,Ud]
theorem aF(t:List AV)(d:Option Nat)(v:AV)(x:Nat):Hi (put t d v) x=if d=some x∧x<t.length then v else Hi t x:=by
 cases d with
 |none=>simp[put]
 |some d=>
  simp only[put,bT,Ud,ai2,abO.injEq]
  by_cases h:d=x
  ·subst h
   by_cases h2:d<t.length
   ·simp[h2]
   ·simp[h2]
  ·simp[h]
theorem tV{L:List Nat}:∀{l:List (Oper × Ft)} {D D':Nat→Bool} {t t':List AV},(∀j o d,l[j]?=some (o,d)→D j≠D' j→∀x,o.dst=some x→x∉L)→t.length=t'.length→(∀x∈L,Hi t x=Hi t' x)→
 ∀x∈L,Hi (tS D l t) x=Hi (tS D' l t') x
 | [],D,D',t,t',_,_,h=>h
 |y::l,D,D',t,t',hd,hl,h=>by
  simp only[tS]
  refine tV (fun j o d hj hne=>hd (j+1) o d (by simpa using hj) hne) ?_ ?_
  ·split<;>split<;>simp[apL,hl]
  ·intro x hx
   have h0:=hd 0 y.1 y.2 (by simp)
   cases e1:D 0<;>cases e2:D' 0
   ·simpa using h x hx
   ·simp only[af4,if_false,if_true]
    rw[aF,if_neg (fun q=>h0 (by simp[e1,e2]) x q.1 hx)]
    exact h x hx
   ·simp only[af4,if_false,if_true]
    rw[aF,if_neg (fun q=>h0 (by simp[e1,e2]) x q.1 hx)]
    exact h x hx
   ·simp only[if_true]
    rw[aF,aF,hl,h x hx]
theorem vX{f:Bf}:∀{l:List (Oper × Ft)} {D D':Nat→Bool} {g g':HF},(∀j o d,l[j]?=some (o,d)→D j≠D' j→∀e∈d.es,e.foot.meets f=false)→Cc g g' f→Cc (gS D l g) (gS D' l g') f
 | [],D,D',g,g',_,h=>h
 |y::l,D,D',g,g',hd,h=>by
  simp only[gS]
  refine vX (fun j o d hj hne=>hd (j+1) o d (by simpa using hj) hne) ?_
  have h0:=hd 0 y.1 y.2 (by simp)
  cases e1:D 0<;>cases e2:D' 0
  ·simpa using h
  ·simp only[af4,if_false,if_true]
   exact h.trans (Cc.edits _ (h0 (by simp[e1,e2])))
  ·simp only[af4,if_false,if_true]
   exact(Cc.edits _ (h0 (by simp[e1,e2]))).symm.trans h
  ·simp only[if_true]
   exact Cc.boths h
theorem agJ(t:List AV){x y:Option Nat}(v u:AV)(h:∀d,x=some d→y≠some d):put (put t x v) y u=put (put t y u) x v:=by
 cases x with
 |none=>rfl
 |some a=>
  cases y with
  |none=>rfl
  |some b=>simp only[put,Ud];exact List.set_comm _ _ (fun e=>h a rfl (by rw[e]))
theorem yD{x:Option Nat}{v:AV}:∀{l:List (Oper × Ft)} {D:Nat→Bool} {t:List AV},(∀j o d,l[j]?=some (o,d)→D j=true→∀c,x=some c→o.dst≠some c)→tS D l (put t x v)=put (tS D l t) x v
 | [],D,t,_=>rfl
 |y::l,D,t,h=>by
  simp only[tS]
  cases e:D 0 with
  |true=>
   simp only[if_true]
   rw[agJ t v y.2.v (h 0 y.1 y.2 (by simp) e)]
   exact yD (fun j o d hj hD=>h (j+1) o d (by simpa using hj) hD)
  |false=>exact yD (fun j o d hj hD=>h (j+1) o d (by simpa using hj) hD)
theorem ahN{es:List Af}:∀{l:List (Oper × Ft)} {D:Nat→Bool} {g:HF},(∀j o d,l[j]?=some (o,d)→D j=true→∀x∈es,∀y∈d.es,x.foot.meets y.foot=false)→gS D l (As g es)=As (gS D l g) es
 | [],D,g,_=>rfl
 |y::l,D,g,h=>by
  simp only[gS]
  cases e:D 0 with
  |true=>
   simp only[if_true]
   rw[oY g (h 0 y.1 y.2 (by simp) e)]
   exact ahN (fun j o d hj hD=>h (j+1) o d (by simpa using hj) hD)
  |false=>exact ahN (fun j o d hj hD=>h (j+1) o d (by simpa using hj) hD)
theorem nR:∀{l:List (Oper × Ft)} {D D':Nat→Bool} {t:List AV} {i:Nat} {o:Oper} {d:Ft},l[i]?=some (o,d)→D i=false→D' i=true→(∀j,j≠i→D' j=D j)→
 (∀j o' d',l[j]?=some (o',d')→i<j→D j=true→∀c,o.dst=some c→o'.dst≠some c)→tS D' l t=put (tS D l t) o.dst d.v
 | [],D,D',t,i,o,d,h,_,_,_,_=>by simp at h
 |y::l,D,D',t,i,o,d,h,h1,h2,h3,h4=>by
  cases i with
  |zero=>
   simp at h
   subst h
   simp only[tS,h1,h2,if_true,af4,if_false]
   rw[show(fun n=>D' (n+1))=fun n=>D (n+1)from funext fun n=>h3 (n+1) (by omega)]
   exact yD (fun j o' d' hj hD=>h4 (j+1) o' d' (by simpa using hj) (by omega) hD)
  |succ i=>
   simp only[tS]
   rw[h3 0 (by omega)]
   exact nR (by simpa using h) h1 h2 (fun j hj=>h3 (j+1) (by omega)) (fun j o' d' hj hi hD=>h4 (j+1) o' d' (by simpa using hj) (by omega) hD)
theorem pI:∀{l:List (Oper × Ft)} {D D':Nat→Bool} {g:HF} {i:Nat} {o:Oper} {d:Ft},l[i]?=some (o,d)→D i=false→D' i=true→(∀j,j≠i→D' j=D j)→
 (∀j o' d',l[j]?=some (o',d')→i<j→D j=true→∀x∈d.es,∀y∈d'.es,x.foot.meets y.foot=false)→gS D' l g=As (gS D l g) d.es
 | [],D,D',g,i,o,d,h,_,_,_,_=>by simp at h
 |y::l,D,D',g,i,o,d,h,h1,h2,h3,h4=>by
  cases i with
  |zero=>
   simp at h
   subst h
   simp only[gS,h1,h2,if_true,af4,if_false]
   rw[show(fun n=>D' (n+1))=fun n=>D (n+1)from funext fun n=>h3 (n+1) (by omega)]
   exact ahN (fun j o' d' hj hD=>h4 (j+1) o' d' (by simpa using hj) (by omega) hD)
  |succ i=>
   simp only[gS]
   rw[h3 0 (by omega)]
   exact pI (by simpa using h) h1 h2 (fun j hj=>h3 (j+1) (by omega)) (fun j o' d' hj hi hD=>h4 (j+1) o' d' (by simpa using hj) (by omega) hD)
theorem yX{g:HF}{e:Af}{b:Nat}(h:Bi g e b≠none):g b≠none∨e.id=b:=by
 rw[Iu]at h
 by_cases hb:b=e.id
 ·exact .inr hb.symm
 ·rw[if_neg hb]at h;exact .inl h
theorem nN:∀{es:List Af} {g:HF} {b:Nat},As g es b≠none→g b≠none∨Fv es b
 | [],g,b,h=>.inl h
 |e::es,g,b,h=>by
  rcases nN (es:=es) h with h|⟨x,hx,En⟩
  ·rcases yX h with h|h
   ·exact .inl h
   ·exact .inr ⟨e,adV ..,h⟩
  ·exact .inr ⟨x,acM _ hx,En⟩
theorem aaR:∀{l:List (Oper × Ft)} {D:Nat→Bool} {g:HF} {b:Nat},gS D l g b≠none→g b≠none∨∃j o d,D j=true∧l[j]?=some (o,d)∧Fv d.es b
 | [],D,g,b,h=>.inl h
 |x::l,D,g,b,h=>by
  simp only[gS]at h
  rcases aaR h with h|⟨j,o,d,h1,h2,h3⟩
  ·cases e:D 0 with
   |true=>
    rw[e]at h
    simp only[if_true]at h
    rcases nN h with h|h
    ·exact .inl h
    ·exact .inr ⟨0,x.1,x.2,e,by simp,h⟩
   |false=>rw[e]at h;exact .inl h
  ·exact .inr ⟨j+1,o,d,h1,by simpa using h2,h3⟩
end
end
noncomputable section
open Go.RowKit
section
variable {P:Program} {G:Nat→Option Obj} {O:Ea} {F:Fence} {nn:Nat}
theorem ajJ(hF:WF F)(hO:Gi P G O){ops:Array Oper}{i:Nat}{o:Oper}(ho:ops[i]?=some o){t:List AV}{g:HF}{base z:Nat}{d:Ft}{a:Act}{w:World}{S:Nat→Prop}(hI:Qp G w S){ρ:Ao}
 (H:HR w S ρ g) (T:TR w S ρ t a.tmps) (hz:ρ z=.fresh) (hgf:∀b,g b≠none→ρ b≠.fresh) (hd:iU O P ops.toList t g base o=some d)
 (hmb:∀vs vs' cs m,Hz g [] vs=some (vs',cs,m)→(∀b∈m,Bf.blk b∈d.fs)→∀b∈m,b<base) (hall:Bf.all∈d.fs→∀b,base≤b→g b=none) (hnew:∀b c,Af.new b c∈d.es→ρ b=.fresh)
 {Q:Exit→Act→World→Prop} {K:Act→World→Prop}
 (hK:∀cv w' S' ρ',VR w' S' ρ' d.v cv→HR w' S' ρ' (As g d.es)→Ep w w' S S' ρ ρ'→Oj (Fv d.es) w w' ρ ρ'→Ph d.es ρ ρ'→K (a.put o.dst cv) w'):wpOpIn F nn P ops Q i K a w:=by
 have habout:∀f,o.about P w a.eval=some f→F.fn f:=fun f _=>hF.fn f
 unfold wpOpIn
 simp only[ho]
 unfold iU at hd
 split at hd
 ·simp at hd
 ·rename_i hw
  rw[Pe T hw]
  simp only[af4,if_false]
  simp at hd
  subst hd
  exact⟨habout,hK undef w S ρ Nv H (Ep.refl _ _ _) Oj.refl Ph.refl⟩
 ·rename_i hw
  rw[Pe T hw]
  simp only[if_true]
  refine⟨habout,?_⟩
  cases hk:Fo o.op with
  |call c=>
   rw[hk]at hd
   simp only[aaA]at hd
   obtain⟨⟨fc,args⟩,hcal,dc,hdc,hd⟩:=hd
   simp only at hdc
   have hop:o.op=.call c∧∀b,c.callee≠.builtin b:=by
    unfold Fo at hk
    split at hk<;>simp at hk
    rename_i c' hnb hop
    subst hk
    exact⟨hop,fun b e=>by obtain⟨cal,as,ts⟩:=c';simp at e;subst e;exact hnb b as ts rfl⟩
   obtain⟨hop,hnb⟩:=hop
   have hsem:o.semAt F.round a.eval=execOp a.eval o:=Oper.semAt_eq _ _ _ (fun c e=>by rw[hop]at e;cases e)
   rw[hsem]
   cases hout:dc.out with
   |pan v=>rw[hout]at hd;simp at hd
   |ret v0=>
    rw[hout]at hd
    simp at hd
    subst hd
    rcases bP hop T hcal with⟨f,car,rfl,hlr,hrn⟩|⟨car,l,rfl,hlr,⟨vs,b,rfl⟩,hrn⟩
    ·
     have hmb':∀vs1 vs' cs m,Au (Gy 12 g) args=some vs1→Hz g [] vs1=some (vs',cs,m)→Vd O (Uc f args) args→∀b∈m,b<base:=fun vs1 vs' cs m h1 h2 h3=>by
      refine hmb vs1 vs' cs m h2 (fun b hb=>?_)
      have hdc':=hdc
      obtain⟨n3,_,h3⟩:=h3.eq
      rw[h3]at hdc'
      unfold Db at hdc'
      simp only[aaA]at hdc'
      obtain⟨vs2,r1,⟨vs3,cs3,m3⟩,r2,r3⟩:=hdc'
      rw[h1]at r1;cases r1
      rw[h2]at r2;cases r2
      simp only at r3
      split at r3
      ·simp at r3
      ·obtain⟨⟨out,h'⟩,_,r4⟩:=aaA.1 r3
       show Bf.blk b∈dc.fs
       rw[oO r4]
       exact agA.2 ⟨b,aiO _ hb,rfl⟩
     obtain⟨henter,hcalls⟩:=jE hO hI H hz hgf (jM _ _) hlr hmb' hdc hall hnew
     rw[hrn (henter _ _)]
     refine⟨fun hdp=>by rw[hF.depth]at hdp;simp at hdp,hF.calls (hcalls.mono fun e w' ⟨cv,S',ρ',he,hv,hHR,hsim,hloc,hfrs⟩=>?_)⟩
     cases e with
     |returned v=>
      obtain⟨⟨x,hx⟩,rfl⟩:=he
      rw[hout]at hv
      exact hK _ w' S' ρ' hv hHR hsim hloc hfrs
     |panicked ch=>
      obtain⟨⟨x,hx⟩,rfl⟩:=he
      rw[hout]at hx;cases hx
     |outgrown=>exact he.elim
    ·
     obtain⟨fn,tmps,asg,body,hy,hround⟩:=fH hO hI H hz hgf hlr hdc hall hnew
     rw[hrn _ hy]
     refine⟨fun hdp=>by rw[hF.depth]at hdp;simp at hdp,(hround F _ hF).mono fun e w' ⟨cv,S',ρ',he,hv,hHR,hsim,hloc,hfrs⟩=>?_⟩
     cases e with
     |returned v=>
      obtain⟨⟨x,hx⟩,rfl⟩:=he
      rw[hout]at hv
      exact hK _ w' S' ρ' hv hHR hsim hloc hfrs
     |panicked ch=>
      obtain⟨⟨x,hx⟩,rfl⟩:=he
      rw[hout]at hx;cases hx
     |outgrown=>exact he.elim
  |panic x=>rw[hk]at hd;simp at hd
  |other=>
   rw[hk]at hd
   simp only at hd
   have hsem:o.semAt F.round a.eval=execOp a.eval o:=Oper.semAt_eq _ _ _ (cC hd)
   rw[hsem]
   have hex:∃base',ρ base'=.fresh∧exec P g base' t o.op=some d:=by
    obtain⟨b1,b2⟩:=ab4 hd
    by_cases hn:∃b c,Af.new b c∈d.es
    ·obtain⟨b,c,hbc⟩:=hn
     have:=b1 b c hbc
     subst this
     exact⟨b,hnew b c hbc,hd⟩
    ·exact⟨z,hz,b2 (fun b c hbc=>hn ⟨b,c,hbc⟩) z⟩
   obtain⟨base',hb',hd'⟩:=hex
   obtain⟨cv,w',ρ',hran,hv,hHR,hsim,hloc,hfrs⟩:=iS H hb' T hd'
   rcases hran with hran|⟨hran,rfl⟩
   ·rw[hran];exact hK cv w' S ρ' hv hHR hsim hloc hfrs
   ·rw[hran];exact hK _ w' S ρ' hv hHR hsim hloc hfrs
theorem sP{ops:List Oper}{o:Oper}{t t':List AV}(h:∀x∈aX ops o,Hi t x=Hi t' x):∀x∈o.op.operands.toList,Ae t x=Ae t' x:=fun x hx=>by
 cases x with
 |tmp y=>
  simp only[Ae]
  rw[h y (apM _ (avV.2 ⟨_,hx,rfl⟩))]
 |_=>rfl
theorem mK{ops:List Oper}{o:Oper}{t t':List AV}(h:∀x∈aX ops o,Hi t x=Hi t' x):Ey ops t o=Ey ops t' o:=by
 unfold Ey
 cases hg:o.guard with
 |none=>rfl
 |some jw=>
  obtain⟨j,want⟩:=jw
  simp only
  cases hd:(ops[j]?).bind (·.dst)with
  |none=>rfl
  |some y=>
   simp only
   rw[h y (aiO _ (by rw[hg];simp[hd]))]
theorem alS{ops:List Oper}{o:Oper}{t t':List AV}{g g':HF}{base:Nat}{d:Ft}(h:iU O P ops t g base o=some d)(ht:∀x∈aX ops o,Hi t x=Hi t' x)(ha:∀f∈d.fs,Cc g g' f):iU O P ops t' g' base o=some d:=by
 unfold iU at h ⊢
 rw[←mK ht]
 split at h
 ·simp at h
 ·exact h
 ·have hev:=sP ht
  cases hk:Fo o.op with
  |call c=>
   rw[hk]at h
   simp only[aaA]at h ⊢
   obtain⟨⟨fc,args⟩,hcal,dc,hdc,hd⟩:=h
   have hop:o.op=.call c:=by
    unfold Fo at hk
    split at hk<;>simp at hk
    rename_i c' hnb hop
    subst hk
    exact hop
   refine⟨(fc,args),?_,dc,?_,hd⟩
   ·rw[←tL (fun x hx=>hev x (by rw[hop];exact hx))];exact hcal
   ·refine(adQ hdc fun f hf=>ha f ?_).1
    cases hout:dc.out with
    |ret v=>rw[hout]at hd;simp at hd;subst hd;exact hf
    |pan v=>rw[hout]at hd;simp at hd
  |panic x=>rw[hk]at h;simp at h
  |other=>
   rw[hk]at h
   simp only at h ⊢
   rw[←adN hev]
   exact akE h ha
theorem bE{acc:Array Nat}{i:Nat}:∀{l:List Edge} {s:Nat},(l.foldl (fun s e=>if Region.binds .any e then s|||2 ^ e.on|||acc.getD e.on 0 else s) s).testBit i=true→
 s.testBit i=true∨∃e∈l,Region.binds .any e=true∧(e.on=i∨(acc.getD e.on 0).testBit i=true)
 | [],s,h=>.inl h
 |e::l,s,h=>by
  rcases bE (l:=l) h with h|⟨e',he,k1,k2⟩
  ·simp only at h
   by_cases hb:Region.binds .any e=true
   ·rw[if_pos hb,Nat.testBit_or,Nat.testBit_or,Nat.testBit_two_pow]at h
    simp only[Bool.or_eq_true,decide_eq_true_eq]at h
    rcases h with(h|h)|h
    ·exact .inl h
    ·exact .inr ⟨e,adV ..,hb,.inl h⟩
    ·exact .inr ⟨e,adV ..,hb,.inr h⟩
   ·rw[if_neg hb]at h;exact .inl h
  ·exact .inr ⟨e',acM _ he,k1,k2⟩
def Gz(acc:Array Nat)(o:Oper):Array Nat:=acc.push (o.after.foldl (fun s e=>if Region.binds .any e then s|||2 ^ e.on|||acc.getD e.on 0 else s) 0)
theorem dC(l:List Oper):∀(A:Array Nat) (pre:List Oper),A.size=pre.length→
 (∀j i,(A.getD j 0).testBit i=true→∃o e,pre[j]?=some o∧e∈o.after.toList∧Region.binds .any e=true∧(e.on=i∨(e.on<j∧(A.getD e.on 0).testBit i=true)))→
 ∀j i,((l.foldl Gz A).getD j 0).testBit i=true→∃o e,(pre++l)[j]?=some o∧e∈o.after.toList∧Region.binds .any e=true∧(e.on=i∨(e.on<j∧((l.foldl Gz A).getD e.on 0).testBit i=true)):=by
 induction l with
 |nil=>intro A pre _ h j i hj;simpa using h j i hj
 |cons o l ih=>
  intro A pre hA h j i hj
  have:=ih (Gz A o) (pre++[o]) (by simp[Gz,hA]) (fun j i hj=>?_) j i hj
  ·simpa using this
  ·have hpush:∀n,n<A.size→(Gz A o).getD n 0=A.getD n 0:=fun n hn=>by
    simp only[Gz,ae2,Array.getElem?_push]
    rw[if_neg (by omega)]
   rcases ap6 j A.size with hlt|heq|hgt
   ·rw[hpush j hlt]at hj
    obtain⟨o',e,k1,k2,k3,k4⟩:=h j i hj
    refine⟨o',e,?_,k2,k3,?_⟩
    ·rw[List.getElem?_append_left (by omega)];exact k1
    ·rcases k4 with k4|⟨k4,k5⟩
     ·exact .inl k4
     ·exact .inr ⟨k4,by rw[hpush _ (by omega)];exact k5⟩
   ·subst heq
    have hv:(Gz A o).getD A.size 0=o.after.foldl (fun s e=>if Region.binds .any e then s|||2 ^ e.on|||A.getD e.on 0 else s) 0:=by
     simp[Gz,ae2]
    rw[hv,←aqB]at hj
    rcases bE hj with hz|⟨e,k1,k2,k3⟩
    ·simp at hz
    ·refine⟨o,e,by rw[hA];simp,k1,k2,?_⟩
     rcases k3 with k3|k3
     ·exact .inl k3
     ·have hlt:e.on<A.size:=by
       rcases am9 e.on A.size with q|q
       ·exact q
       ·rw[ae2,avW q]at k3;simp at k3
      exact .inr ⟨hlt,by rw[hpush _ hlt];exact k3⟩
   ·rw[ae2,avW (by simp[Gz];omega)]at hj
    simp at hj
theorem sW{ops:Array Oper}{j i:Nat}(h:((Region.before ops).getD j 0).testBit i=true):
 ∃o e,ops[j]?=some o∧e∈o.after.toList∧Region.binds .any e=true∧(e.on=i∨(e.on<j∧((Region.before ops).getD e.on 0).testBit i=true)):=by
 have hb:Region.before ops=ops.toList.foldl Gz #[]:=by unfold Region.before;rw[←aqB];rfl
 rw[hb]at h ⊢
 have:=dC ops.toList #[] [] rfl (fun j i hj=>by simp at hj) j i h
 simpa using this
theorem Zg{ops:Array Oper}{D:Nat→Bool}(hc:∀(j:Nat) (o:Oper),ops[j]?=some o→D j=true→∀e∈o.after.toList,Region.binds .any e=true→D e.on=true):∀(j i:Nat),D j=true→((Region.before ops).getD j 0).testBit i=true→D i=true:=by
 intro j
 induction j using an6 with
 |_ j ih=>
  intro i hj h
  obtain⟨o,e,k1,k2,k3,k4⟩:=sW h
  have he:=hc j o k1 hj e k2 k3
  rcases k4 with k4|⟨k4,k5⟩
  ·rw[←k4];exact he
  ·exact ih e.on k4 i he k5
theorem ab6{ops:Array Oper}{i j:Nat}(hij:i<j)(hj:j<ops.size)(h:((Region.before ops).getD j 0).testBit i=false):(i,j)∈eT ops.toList:=by
 unfold eT
 simp only[aa9,af5,avV,Array.toArray_toList]
 exact⟨j,by simpa using hj,i,hij,by rw[h];simp⟩
end
end
noncomputable section
open Go.RowKit
section
variable {P:Program} {G:Nat→Option Obj} {O:Ea} {F:Fence} {nn:Nat}
def InD(D:Nat→Bool)(recs:List (Oper × Ft))(b:Nat):Prop:=∃(j:Nat) (o:Oper) (d:Ft),D j=true∧recs[j]?=some (o,d)∧Fv d.es b
structure DI(s:St)(recs:List (Oper × Ft))(a0:Act)(w0:World)(S0:Nat→Prop)(ρ0:Ao)(D:Nat→Bool)(a:Act)(w:World)(S:Nat→Prop)(ρ:Ao):Prop where
 hr:HR w S ρ (gS D recs (hf s.h))
 tr:TR w S ρ (tS D recs s.tmps) a.tmps
 sim:Ep w0 w S0 S ρ0 ρ
 loc:Oj (InD D recs) w0 w ρ0 ρ
 frs:∀b,ρ b=.fresh↔(ρ0 b=.fresh∧¬InD D recs b)
 defers:a.defers=a0.defers
theorem Vf{x y:List Af × List Bf}(h:Il x y=false):(∀e∈x.1,∀e'∈y.1,e.foot.meets e'.foot=false)∧(∀e∈x.1,∀f∈y.2,e.foot.meets f=false)∧(∀e∈y.1,∀f∈x.2,e.foot.meets f=false):=by
 unfold Il at h
 simp only[Bool.or_eq_false_iff,alY,agA,alX]at h
 obtain⟨h1,h2⟩:=h
 refine⟨fun e he e' he'=>?_,fun e he f hf=>?_,fun e he f hf=>?_⟩
 ·have:=h1 e.foot ⟨e,he,rfl⟩
  simp only[aqF,alY,alX,agA]at this
  exact this e'.foot (.inl ⟨e',he',rfl⟩)
 ·have:=h1 e.foot ⟨e,he,rfl⟩
  simp only[aqF,alY,alX,agA]at this
  exact this f (.inr hf)
 ·have:=h2 e.foot ⟨e,he,rfl⟩
  simp only[aqF,alY]at this
  exact this f hf
theorem Wj{ops:List Oper}{x y:Oper}(h:cY ops x y=true):(∀d,x.dst=some d→d∉aX ops y∧y.dst≠some d)∧(∀d,y.dst=some d→d∉aX ops x):=by
 unfold cY at h
 rw[ajM]at h
 obtain⟨h1,h2⟩:=h
 refine⟨fun d hd=>?_,fun d hd=>?_⟩
 ·rw[hd]at h1;simpa using h1
 ·rw[hd]at h2;simpa using h2
theorem yS{b:Nat}{c:CB}{e:Af}(h:e.id=b):(Af.new b c).foot.meets e.foot=true:=by
 cases e<;>simp[Af.id]at h<;>subst h<;>simp[Af.foot,Bf.meets]
theorem nA{l:Array Bool}{i:Nat}(h:l.getD i true=false):i<l.size∧l.getD i false=false:=by
 rw[ae2]at h ⊢
 cases e:l[i]? with
 |none=>rw[e]at h;simp at h
 |some b=>rw[e]at h;simp at h;subst h;exact⟨(acY.1 e).1,rfl⟩
theorem ai5{l:List Nat}{p q:Nat→Bool}(hq:∀x,q x=true→p x=true){i:Nat}(hi:i∈l)(h1:p i=true)(h2:q i=false):(l.filter q).length<(l.filter p).length:=by
 induction l with
 |nil=>simp at hi
 |cons x l ih=>
  have hle:(l.filter q).length≤(l.filter p).length:=by
   clear ih hi
   induction l with
   |nil=>simp
   |cons y l ih=>
    cases e1:q y with
    |true=>rw[af6 e1,af6 (hq y e1)];simpa using ih
    |false=>
     rw[aj8 (by simp[e1])]
     cases e2:p y with
     |true=>rw[af6 e2];simp only[af8];omega
     |false=>rw[aj8 (by simp[e2])];exact ih
  rcases af7.1 hi with rfl|hi
  ·rw[af6 h1,aj8 (by simp[h2])];simp only[af8];omega
  ·have:=ih hi
   cases e1:q x with
   |true=>rw[af6 e1,af6 (hq x e1)];simp only[af8];omega
   |false=>
    rw[aj8 (by simp[e1])]
    cases e2:p x with
    |true=>rw[af6 e2];simp only[af8];omega
    |false=>rw[aj8 (by simp[e2])];exact this
theorem tU(hm:P.follows .mixedOrders=true)(hO:Gi P G O):bG P G O:=by
 intro ops B k r s a0 w0 S0 ρ0 id F nn hF hst hev hI hs
 obtain⟨recs,s',hruns,hmap,hk⟩:=iL hev
 simp only[List.nil_append]at hk
 have hdk:Dp ops.toList (recs.map fun x=>(x.2.es,x.2.fs))=true∧k s' (recs.map fun x=>(x.2.es,x.2.fs))=some r:=by
  unfold Gg at hk
  cases e:Dp ops.toList (recs.map fun x=>(x.2.es,x.2.fs))with
  |true=>rw[e]at hk;exact⟨rfl,hk⟩
  |false=>rw[e]at hk;simp at hk
 obtain⟨hdyn,hk⟩:=hdk
 have hlen:recs.length=ops.size:=by have:=congrArg List.length hmap;simpa using this
 have hget:∀(i:Nat) o d,recs[i]?=some (o,d)→ops[i]?=some o:=fun i o d h=>by
  have:(recs.map (·.1))[i]?=some o:=by rw[avX,h];rfl
  rw[hmap]at this;simpa using this
 unfold Nh at hst
 rw[ajM]at hst
 obtain⟨hedge,hap⟩:=hst
 have pair:∀(i j:Nat) x y,i<j→recs[i]?=some x→recs[j]?=some y→((Region.before ops).getD j 0).testBit i=false→cY ops.toList x.1 y.1=true∧Il (x.2.es,x.2.fs) (y.2.es,y.2.fs)=false:=fun i j x y hij hi hj hb=>by
  have hjl:j<ops.size:=by rw[←hlen];exact(acI.1 hj).1
  have hmem:=ab6 hij hjl hb
  refine⟨?_,?_⟩
  ·have:=aqG.1 hap _ hmem
   have e1:=hget i x.1 x.2 hi
   have e2:=hget j y.1 y.2 hj
   simp only[anV,e1,e2]at this
   exact this
  ·have:=aqG.1 hdyn _ hmem
   simp only[avX,hi,hj,aqJ]at this
   simpa using this
 have FF:=hs.1
 have step:∀(D:Nat→Bool) (i:Nat) (o:Oper) (d:Ft),recs[i]?=some (o,d)→D i=false→
  (∀(j:Nat) (o:Oper),ops[j]?=some o→(D j=true∨j=i)→∀e∈o.after.toList,Region.binds .any e=true→D e.on=true)→
  ∀a w S ρ,DI s recs a0 w0 S0 ρ0 D a w S ρ→∀(Q:Exit→Act→World→Prop) (K:Act→World→Prop) (D':Nat→Bool),D' i=true→(∀j,j≠i→D' j=D j)→
  (∀a' w' S' ρ',DI s recs a0 w0 S0 ρ0 D' a' w' S' ρ'→K a' w')→wpOpIn F nn P ops Q i K a w:=by
  intro D i o d hi hDi hcl a w S ρ hDI Q K D' hD'i hD' hK
  obtain⟨h,t1,t2,t3,t4,t5,t6,t7⟩:=hruns.at i o d hi
  have hil:i<ops.size:=by rw[←hlen];exact(acI.1 hi).1
  have hclD:∀(j:Nat) (o:Oper),ops[j]?=some o→D j=true→∀e∈o.after.toList,Region.binds .any e=true→D e.on=true:=fun j o hj hd=>hcl j o hj (.inl hd)
  have hclD':∀(j:Nat) (o:Oper),ops[j]?=some o→D' j=true→∀e∈o.after.toList,Region.binds .any e=true→D' e.on=true:=fun j o hj hd e he hb=>by
   have hD:D e.on=true:=by
    by_cases hji:j=i
    ·exact hcl j o hj (.inr hji) e he hb
    ·exact hcl j o hj (.inl (by rw[←hD' j hji];exact hd)) e he hb
   have hne:e.on≠i:=fun q=>by rw[q,hDi]at hD;cases hD
   rw[hD' _ hne];exact hD
  have later:∀j o' d',recs[j]?=some (o',d')→i<j→D j=true→cY ops.toList o o'=true∧Il (d.es,d.fs) (d'.es,d'.fs)=false:=fun j o' d' hj hij hDj=>by
   refine pair i j (o,d) (o',d') hij hi hj ?_
   cases hb:((Region.before ops).getD j 0).testBit i with
   |false=>rfl
   |true=>have:=Zg hclD j i hDj hb;rw[hDi]at this;cases this
  have earlier:∀j o' d',recs[j]?=some (o',d')→j<i→D j=false→cY ops.toList o' o=true∧Il (d'.es,d'.fs) (d.es,d.fs)=false:=fun j o' d' hj hij hDj=>by
   refine pair j i (o',d') (o,d) hij hj hi ?_
   cases hb:((Region.before ops).getD i 0).testBit j with
   |false=>rfl
   |true=>
    have:=Zg hclD' i j hD'i hb
    rw[hD' j (by omega),hDj]at this;cases this
  have hdiff:∀j o' d',recs[j]?=some (o',d')→decide (j<i)≠D j→(∀x,o'.dst=some x→x∉aX ops.toList o)∧∀e∈d'.es,∀f∈d.fs,e.foot.meets f=false:=fun j o' d' hj hne=>by
   by_cases hji:j<i
   ·have hDj:D j=false:=by
     cases e:D j with
     |false=>rfl
     |true=>rw[e]at hne;simp[hji]at hne
    obtain⟨q1,q2⟩:=earlier j o' d' hj hji hDj
    exact⟨fun x hx=>((Wj q1).1 x hx).1,fun e he f hf=>(Vf q2).2.1 e he f hf⟩
   ·have hDj:D j=true:=by
     cases e:D j with
     |true=>rfl
     |false=>rw[e]at hne;simp[hji]at hne
    have hij:i<j:=by
     rcases ap6 i j with q|q|q
     ·exact q
     ·subst q;rw[hDi]at hDj;cases hDj
     ·omega
    obtain⟨q1,q2⟩:=later j o' d' hj hij hDj
    exact⟨fun x hx=>(Wj q1).2 x hx,fun e he f hf=>(Vf q2).2.2 e he f hf⟩
  have hta:∀x∈aX ops.toList o,Hi (tS (fun n=>decide (n<i)) recs s.tmps) x=Hi (tS D recs s.tmps) x:=
   tV (fun j o' d' hj hne=>(hdiff j o' d' hj hne).1) rfl (fun _ _=>rfl)
  have hga:∀f∈d.fs,Cc (gS (fun n=>decide (n<i)) recs (hf s.h)) (gS D recs (hf s.h)) f:=fun f hf=>
   vX (fun j o' d' hj hne e he=>(hdiff j o' d' hj hne).2 e he f hf) (Cc.refl _ _)
  have hd:=alS t1 hta hga
  have hfresh:∀b c,Af.new b c∈d.es→ρ b=.fresh:=fun b c hb=>by
   have hbl:=Tj t3.ok b c hb
   refine(hDI.frs b).2 ⟨FF.dom b (agB t4 hbl),fun⟨j,o',d',hDj,hj,hE⟩=>?_⟩
   rcases ap6 i j with q|q|q
   ·obtain⟨e,he,En⟩:=hE
    have:=(Vf (later j o' d' hj q hDj).2).1 _ hb e he
    rw[yS En]at this;cases this
   ·subst q;rw[hDi]at hDj;cases hDj
   ·have:=t7 j o' d' q hj b hE;omega
  have hz:ρ s'.h.length=.fresh:=(hDI.frs _).2 ⟨FF.dom _ (agB t4 t5),fun⟨j,o',d',hDj,hj,hE⟩=>by
   obtain⟨_,_,_,_,_,_,u6,_⟩:=hruns.at j o' d' hj
   have:=u6 _ hE;omega⟩
  have hgf:∀b,gS D recs (hf s.h) b≠none→ρ b≠.fresh:=fun b hb hfr=>by
   obtain⟨f1,f2⟩:=(hDI.frs b).1 hfr
   rcases aaR hb with q|q
   ·have hlt:b<s.h.length:=by
     cases e:hf s.h b with
     |none=>exact(q e).elim
     |some c=>exact Ii e
    exact FF.all b hlt f1
   ·exact f2 q
  refine ajJ hF hO (hget i o d hi) (hI.sim (FF.sim.trans hDI.sim)) hDI.hr hDI.tr hz hgf hd ?_ (fun hm b hb=>by
   have e:gS D recs (hf s.h)=gS (fun n=>decide (n<i)) recs (hf s.h):=hga .all hm
   rw[e,t2];exact qV hb) hfresh ?_
  ·intro vs vs' cs m hp hblk b hb
   have:=uT (g:=gS D recs (hf s.h)) (g':=gS (fun n=>decide (n<i)) recs (hf s.h)) hp (fun b' hb'=>(hga (.blk b') (hblk b' hb')).symm)
   rw[t2]at this
   exact aaM this b hb
  ·intro cv w' S' ρ' hv hHR hsim hloc hfrs
   have ht:tS D' recs s.tmps=put (tS D recs s.tmps) o.dst d.v:=nR hi hDi hD'i hD' (fun j o' d' hj hij hDj c hc=>((Wj (later j o' d' hj hij hDj).1).1 c hc).2)
   have hg:gS D' recs (hf s.h)=As (gS D recs (hf s.h)) d.es:=pI hi hDi hD'i hD' (fun j o' d' hj hij hDj=>(Vf (later j o' d' hj hij hDj).2).1)
   have hin:∀b,InD D' recs b↔InD D recs b∨Fv d.es b:=fun b=>by
    constructor
    ·rintro⟨j,o',d',q1,q2,q3⟩
     by_cases hji:j=i
     ·subst hji;rw[hi]at q2;cases q2;exact .inr q3
     ·exact .inl ⟨j,o',d',by rw[←hD' j hji];exact q1,q2,q3⟩
    ·rintro(⟨j,o',d',q1,q2,q3⟩|q)
     ·by_cases hji:j=i
      ·subst hji;rw[hDi]at q1;cases q1
      ·exact⟨j,o',d',by rw[hD' j hji];exact q1,q2,q3⟩
     ·exact⟨i,o,d,hD'i,hi,q⟩
   refine hK _ w' S' ρ' ⟨?_,?_,hDI.sim.trans hsim,?_,fun b=>?_,by rw[lE];exact hDI.defers⟩
   ·rw[hg];exact hHR
   ·rw[ht];exact nG (LR.sim hsim hDI.tr) o.dst hv
   ·exact(hDI.loc.trans hloc).mono (fun b hb=>(hin b).2 hb)
   ·rw[hfrs b,hDI.frs b,hin b]
    constructor
    ·rintro⟨⟨q1,q2⟩,q3⟩;exact⟨q1,fun q=>q.elim q2 q3⟩
    ·rintro⟨q1,q2⟩;exact⟨⟨q1,fun q=>q2 (.inl q)⟩,fun q=>q2 (.inr q)⟩
 have fin:∀(D:Nat→Bool) a w S ρ,(∀i,i<ops.size→D i=true)→DI s recs a0 w0 S0 ρ0 D a w S ρ→OQ B k (fun _ _=>none) r .normal a w:=by
  intro D a w S ρ hall hDI
  obtain⟨l1,l2,l3⟩:=hruns.last
  have hgA:gS D recs (hf s.h)=As (hf s.h) (Yx recs):=by
   rw[←akT];exact sH (fun i hi=>hall i (by omega))
  have htA:tS D recs s.tmps=s'.tmps:=by rw[l1];exact wG (fun i hi=>hall i (by omega))
  have hinA:∀b,InD D recs b↔Fv (Yx recs) b:=fun b=>by
   rw[afT]
   constructor
   ·rintro⟨j,o,d,_,h1,h2⟩;exact⟨j,o,d,h1,h2⟩
   ·rintro⟨j,o,d,h1,h2⟩;exact⟨j,o,d,hall j (by rw[←hlen];exact(acI.1 h1).1),h1,h2⟩
  have hFI:=FF.step l3 (by rw[←hgA];exact hDI.hr) hDI.sim (hDI.loc.mono fun b hb=>(hinA b).1 hb) (fun b=>by rw[hDI.frs b,hinA b])
  rw[←l2]at hFI
  refine⟨s',recs.map fun x=>(x.2.es,x.2.fs),S,ρ,hk,hFI,?_,?_,?_⟩
  ·rw[←htA];exact hDI.tr
  ·rw[hDI.defers];exact hs.2.2.1.later hs.1.hr hDI.sim
  ·rw[hDI.defers]
   refine⟨hs.2.2.2.1,fun l hl=>?_⟩
   obtain⟨r,hr⟩:=hs.2.2.2.2 l hl
   obtain⟨st,pe,k⟩:=hDI.sim.loops l r hr
   exact⟨_,k⟩
 have main:∀fuel (listed:Array Bool) a w S ρ,listed.size=ops.size→((aqS ops.size).filter fun i=> !listed.getD i false).length≤fuel→
  (∀(j:Nat) (o:Oper),ops[j]?=some o→listed.getD j false=true→∀e∈o.after.toList,Region.binds .any e=true→listed.getD e.on false=true)→
  DI s recs a0 w0 S0 ρ0 (fun i=>listed.getD i false) a w S ρ→wpAnyIn F nn P .any ops (OQ B k (fun _ _=>none) r) fuel listed a w:=by
  intro fuel
  induction fuel with
  |zero=>
   intro listed a w S ρ hsz hcnt hcl hDI
   have hall:∀i,i<ops.size→listed.getD i false=true:=fun i hi=>by
    cases e:listed.getD i false with
    |true=>rfl
    |false=>
     have:i∈(aqS ops.size).filter fun i=> !listed.getD i false:=aq7.2 ⟨af5.2 hi,by simp only[e];rfl⟩
     rw[List.length_eq_zero_iff.1 (Nat.le_zero.1 hcnt)]at this;simp at this
   refine⟨?_,fin _ a w S ρ hall hDI⟩
   unfold Region.ready
   rw[List.filter_eq_nil_iff]
   intro i hi hr
   rw[ajM]at hr
   have h1:=(nA (l:=listed) (i:=i) (by simpa using hr.1)).2
   rw[hall i (af5.1 hi)]at h1;cases h1
  |succ fuel ih=>
   intro listed a w S ρ hsz hcnt hcl hDI
   refine⟨fun hnil=>fin _ a w S ρ (fun i hi=>?_) hDI,fun i hi=>?_⟩
   ·
    induction i using an6 with
    |_ i ihi=>
     cases e:listed.getD i false with
     |true=>rfl
     |false=>
      have hmem:i∈Region.ready .any ops listed:=by
       unfold Region.ready
       refine aq7.2 ⟨af5.2 hi,?_⟩
       rw[ajM]
       refine⟨?_,?_⟩
       ·have hlt:i<listed.size:=by omega
        rw[ae2,avY hlt]at e ⊢
        simp at e ⊢;exact e
       ·have ho:ops[i]?=some ops[i]:=avY hi
        rw[ho]
        simp only[aqJ,avZ,arQ]
        intro ed hed
        have hE:=aqG.1 hedge i (af5.2 (by simpa using hi))
        simp only[anV,ho,arQ]at hE
        have:=hE ed hed
        cases hb:Region.binds .any ed with
        |false=>rfl
        |true=>
         rw[hb]at this
         simp at this
         simp only[Bool.not_true,Bool.false_or]
         exact ihi ed.on this (by omega)
      rw[hnil]at hmem;simp at hmem
   ·have hi':=hi
    unfold Region.ready at hi'
    obtain⟨hir,hrd⟩:=aq7.1 hi'
    rw[ajM]at hrd
    have hir:=af5.1 hir
    obtain⟨g1,g2⟩:=nA (l:=listed) (i:=i) (by simpa using hrd.1)
    have hrec:∃o d,recs[i]?=some (o,d):=⟨_,_,aa0 (by omega:i<recs.length)⟩
    obtain⟨o,d,hrec⟩:=hrec
    have ho:=hget i o d hrec
    have hafter:∀e∈o.after.toList,Region.binds .any e=true→listed.getD e.on false=true:=fun e he hb=>by
     have:=hrd.2
     rw[ho]at this
     simp only[aqJ,avZ,arQ]at this
     have:=this e (by simpa using he)
     rw[hb]at this
     simpa using this
    have hset:∀j,j≠i→(listed.setIfInBounds i true).getD j false=listed.getD j false:=fun j hj=>getD_set_ne false (Ne.symm hj)
    have hseti:(listed.setIfInBounds i true).getD i false=true:=by
     rw[ae2,Array.getElem?_setIfInBounds_self_of_lt g1];rfl
    refine step (fun i=>listed.getD i false) i o d hrec g2 ?_ a w S ρ hDI _ _ (fun j=>(listed.setIfInBounds i true).getD j false) hseti hset ?_
    ·intro j o' hj hor e he hb
     rcases hor with hor|rfl
     ·exact hcl j o' hj hor e he hb
     ·rw[ho]at hj;cases hj;exact hafter e he hb
    ·intro a' w' S' ρ' hDI'
     refine ih (listed.setIfInBounds i true) a' w' S' ρ' (by simpa using hsz) ?_ ?_ hDI'
     ·have:=ai5 (l:=aqS ops.size) (p:=fun i=> !listed.getD i false) (q:=fun j=> !(listed.setIfInBounds i true).getD j false) (fun x hx=>by
       by_cases hxi:x=i
       ·subst hxi;rw[hseti]at hx;simp at hx
       ·rw[hset x hxi]at hx;exact hx) (af5.2 hir) (by rw[g2];rfl) (by rw[hseti];rfl)
      omega
     ·intro j o' hj hor e he hb
      have hD:listed.getD e.on false=true:=by
       by_cases hji:j=i
       ·subst hji;rw[ho]at hj;cases hj;exact hafter e he hb
       ·exact hcl j o' hj (by rw[←hset j hji];exact hor) e he hb
      exact getD_set_true hD
 refine wpIn_region_any hm (main ops.size (ae7 ops.size false) a0 w0.drew S0 ρ0 (by simp) ?_ ?_ ?_)
 ·exact agB (List.length_filter_le _ _) (by simp)
 ·intro j o _ hj
  rw[ae2,av0]at hj
  split at hj<;>simp at hj
 ·have hno:∀i,(ae7 ops.size false).getD i false=false:=fun i=>by
   rw[ae2,av0]
   split<;>rfl
  have hnoD:∀b,¬InD (fun i=>(ae7 ops.size false).getD i false) recs b:=fun b ⟨j,_,_,q,_⟩=>by have h0:=hno j;simp only[h0]at q;cases q
  refine⟨?_,?_,Ep.drew _ _ _,fun b cb co st sz h _=>⟨h,rfl⟩,fun b=>⟨fun h=>⟨h,hnoD b⟩,fun h=>h.1⟩,rfl⟩
  ·rw[gP hno];exact FF.hr.drew
  ·rw[pQ hno];exact LR.sim (Ep.drew _ _ _) hs.2.1
end
end
end Go.Ev
namespace Go.Ev
open Go.RowKit
section
variable {P:Program} {G:Nat→Option Obj} {O:Ea}
theorem eH{w:World}{S:Nat→Prop}{ρ:Ao}:∀{ps:List Nat} {vs:List AV} {cs:List Value} {tmps:List AV} {ct:Array Value},LR w S ρ vs cs→ps.length=vs.length→LR w S ρ tmps ct.toList→
 LR w S ρ (Ou tmps ps vs) ((ps.zip cs).foldl (fun t (p:Nat × Value)=>t.setIfInBounds p.1 p.2) ct).toList
 | [],vs,cs,tmps,ct,_,_,h=>by simpa [Ou]using h
 |p::ps,[],cs,tmps,ct,_,hl,_=>by simp at hl
 |p::ps,v::vs,cs,tmps,ct,hv,hl,h=>by
  obtain⟨c,cs',rfl,h1,h2⟩:=hv.cons_inv
  simp only[Ou,List.zip_cons_cons,List.foldl_cons]
  exact eH h2 (by simpa using hl) (by rw[Array.toList_setIfInBounds];exact h.set p h1)
theorem Ep.loop{w:World}{S:Nat→Prop}{ρ:Ao}{b l:Nat}(hb:ρ b=.lp l)(hS:¬S l){r:Loop}(hr:w.heap[l]?=some (.loop r))(st:LoopState)(pe:Option Code):
 Ep w (Ev.setB w l (.loop { r with state:=st,pending:=pe })) S S ρ ρ where
 size:=by simp[Ev.setB]
 os:=rfl
 tape:=rfl
 output:=rfl
 keep:=fun b hb=>Aw (fun e=>hS (e▸hb))
 sub:=fun _ h=>h
 le:=ρ.le_refl
 other:=fun b' _ _ hn=>Aw (fun e=>hn b (by rw[e];exact hb))
 rng:=fun id _ co st sz h=>.inr ⟨id,co,st,sz,h⟩
 grow:=fun _ h=>.inl h
 objs:=fun b o' hb ho=>by rw[Aw (fun e=>by rw[e,hr]at hb;cases hb;simp[Og]at ho)];exact hb
 loops:=fun b' r' hb'=>by
  by_cases e:b'=l
  ·subst e;rw[hr]at hb';cases hb'
   exact⟨st,pe,Py hr⟩
  ·exact⟨r'.state,r'.pending,by rw[Aw e];exact hb'⟩
 lrng:=fun id _ h=>.inr ⟨id,h⟩
theorem HR.loop{w:World}{S:Nat→Prop}{ρ:Ao}{g:HF}(H:HR w S ρ g){b l:Nat}(hb:ρ b=.lp l){r:Loop}(hr:w.heap[l]?=some (.loop r)){ps:List Nat}{asg body:Code}{tmps:List AV}{st:Ju}
 (hg:g b=some (.lp ps asg body tmps st)) {st':Ju} {x:LoopState} {y:Option Code} (hh:st'.holds x y):HR (Ev.setB w l (.loop { r with state:=x,pending:=y })) S ρ (upd g b (.lp ps asg body tmps st')):=by
 have hs:=Ep.loop hb (H.lnS b l hb) hr x y
 refine⟨fun b' cb co st sz h=>?_,fun b' h=>?_,H.inj,fun b' h=>by have:=H.old b' h;simpa [Ev.setB]using this,fun b' l' h=>?_,H.linj,H.lnS⟩
 ·obtain⟨c,e,fz,fl,rows,h1,h2,h3,h4⟩:=H.at_ b' cb co st sz h
  have hne:b'≠b:=fun e=>by rw[e,hb]at h;cases h
  refine⟨c,e,fz,fl,rows,by rw[Aw (fun e=>by rw[e,hr]at h1;cases h1)];exact h1,h2,h3.sim hs,by simpa [upd,hne]using h4⟩
 ·have hne:b'≠b:=fun e=>by rw[e,hb]at h;cases h
  simpa [upd,hne]using H.dead b' h
 ·by_cases e:b'=b
  ·subst e
   rw[hb]at h;cases h
   obtain⟨r1,ps1,asg1,body1,tmps1,st1,h1,h2,h3⟩:=H.lps _ _ hb
   rw[hr]at h1;cases h1
   rw[hg]at h2;cases h2
   cases h3 with
   |loop h3=>exact⟨_,ps,asg,body,tmps,st',Py hr,by simp[upd],.loop ⟨h3.params,h3.assign,h3.body,LR.sim hs h3.tmps,hh⟩⟩
  ·obtain⟨r1,ps1,asg1,body1,tmps1,st1,h1,h2,h3⟩:=H.lps _ _ h
   have hne:l'≠l:=fun q=>e (H.linj _ _ _ h (q▸hb))
   exact⟨r1,ps1,asg1,body1,tmps1,st1,by rw[Aw hne];exact h1,by simpa [upd,e]using h2,h3.sim hs⟩
theorem FI.loop{h0:Aa}{w0:World}{S0:Nat→Prop}{ρ0:Ao}{h:Aa}{w:World}{S:Nat→Prop}{ρ:Ao}(F:FI h0 w0 S0 ρ0 h w S ρ){b l:Nat}(hb:ρ b=.lp l){r:Loop}(hr:w.heap[l]?=some (.loop r)){ps:List Nat}{asg body:Code}{tmps:List AV}{st:Ju}
 (hg:h[b]?=some (.lp ps asg body tmps st)) {st':Ju} {x:LoopState} {y:Option Code} (hh:st'.holds x y):
 FI h0 w0 S0 ρ0 (h.set b (.lp ps asg body tmps st')) (Ev.setB w l (.loop { r with state:=x,pending:=y })) S ρ:=by
 have hlt:b<h.length:=(acI.1 hg).1
 have hg':hf h b=some (.lp ps asg body tmps st):=hg
 have hes:Dt h [.put b (.lp ps asg body tmps st')]:=by
  refine⟨⟨hlt,trivial⟩,fun b' ⟨e,he,En⟩ _=>?_,fun b' hn=>?_⟩
  ·simp at he;subst he;simp[Af.id]at En;subst En
   refine⟨⟨_,hg',rfl⟩,fun c hc=>?_⟩
   simp[As,Bi,upd]at hc;subst hc;rfl
  ·simp only[As,Bi,upd]
   rw[if_neg (fun e=>hn ⟨_,aa3.2 rfl,e.symm⟩)]
 have:=F.step hes (w':=Ev.setB w l (.loop { r with state:=x,pending:=y })) (S':=S) (ρ':=ρ) (F.hr.loop hb hr hg' hh) (Ep.loop hb (F.hr.lnS b l hb) hr x y)
  (fun b' cb co st sz h' _=>⟨h',Aw (fun e=>by
    obtain⟨_,_,_,_,_,q,_⟩:=F.hr.at_ _ _ _ _ _ h'
    rw[e,hr]at q;cases q)⟩)
  (fun b'=>⟨fun h'=>⟨h',fun⟨e,he,En⟩=>by
    simp at he;subst he;simp[Af.id]at En;subst En;rw[hb]at h';cases h'⟩,fun h'=>h'.1⟩)
 exact this
theorem WF.inRound{F:Fence}(h:WF F)(l:Nat):WF (F.inRound l):=by
 rcases h with rfl|⟨l',rfl⟩
 ·exact .inr ⟨l,rfl⟩
 ·exact .inr ⟨l,rfl⟩
theorem lD{h h':Aa}{b:Nat}{ok:Ju→Bool}{st:Ju}(hs:Ny h b ok st=some h'):∃ps asg body tmps st',h[b]?=some (.lp ps asg body tmps st')∧ok st'=true∧h'=h.set b (.lp ps asg body tmps st):=by
 unfold Ny at hs
 split at hs
 ·rename_i ps asg body tmps st' hb
  split at hs
  ·rename_i hok;simp at hs;exact⟨ps,asg,body,tmps,st',hb,hok,hs.symm⟩
  ·simp at hs
 ·simp at hs
theorem FI.lpAt{h0:Aa}{w0:World}{S0:Nat→Prop}{ρ0:Ao}{h:Aa}{w:World}{S:Nat→Prop}{ρ:Ao}(F:FI h0 w0 S0 ρ0 h w S ρ){b l:Nat}(hb:ρ0 b=.lp l){ps:List Nat}{asg body:Code}{tmps:List AV}{st:Ju}
 (hg:h[b]?=some (.lp ps asg body tmps st)) (hm:st≠.map) (hm2:st≠.itr):ρ b=.lp l∧∃r,w.heap[l]?=some (.loop r)∧st.holds r.state r.pending:=by
 have hρ:ρ b=.lp l:=by
  rcases F.sim.le b with q|q|q
  ·rw[hb]at q;cases q
  ·rw[q,hb]
  ·have:=F.hr.dead b q
   rw[show hf h b=some _ from hg]at this;cases this
 obtain⟨r,_,_,_,_,_,h1,h2,h3⟩:=F.hr.lps b l hρ
 rw[show hf h b=some _ from hg]at h2;cases h2
 cases h3 with
 |loop h3=>exact⟨hρ,_,h1,h3.state⟩
 |map _=>exact(hm rfl).elim
 |itr _=>exact(hm2 rfl).elim
theorem lZ(hO:Gi P G O)(hL:aM P G O)(hD:bG P G O)(hR:Wt P G O){args:List AV}{h h':Aa}{out:Dk}(he:Kx O P args h=some (out,h')){w:World}{S:Nat→Prop}{ρ:Ao}{cargs:Array Value}{l:Nat}
 (hI:Qp G w S) (H:HR w S ρ (hf h)) (dom:∀b,h.length≤b→ρ b=.fresh) (all:∀b,b<h.length→ρ b≠.fresh) (hargs:LR w S ρ args (cargs.toList++[.func (.yield l) #[] #[]])):
 ∃fn tmps asg body,(Instr.yield l cargs).run P w=.ok (.round l fn tmps asg body) w∧∀F nn,WF F→RoundIn F nn P l fn tmps asg body w (Ss h w S ρ out h'):=by
 unfold Kx at he
 split at he
 ·rename_i b vs hrev
  have ha:args=vs.reverse++[.yl b]:=by have:=congrArg List.reverse hrev;simpa using this
  subst ha
  have hlen:vs.reverse.length=cargs.toList.length:=by have:=hargs.1;simpa using this
  have hvs:LR w S ρ vs.reverse cargs.toList:=by have:=hargs.take vs.reverse.length;rw[av1,hlen,av1]at this<;>first|exact this|rfl
  have hyl:VR w S ρ (.yl b) (.func (.yield l) #[] #[]):=hargs.2 vs.reverse.length _ _ (by simp) (by rw[hlen];simp)
  split at he
  ·rename_i ps asg body tmps st0 hb
   have hρ:ρ b=.lp l:=by
    cases hyl with
    |yl q=>exact q
    |ylD q=>have:=H.dead b q;rw[show hf h b=some _ from hb]at this;cases this
   obtain⟨r,ps1,asg1,body1,tmps1,st1,h1,h2,h3⟩:=H.lps b l hρ
   rw[show hf h b=some _ from hb]at h2;cases h2
   have noR:ps=[]→asg=.skip→st0.isReady=false→False:=fun e1 e2 e3=>by
    subst e1 e2
    have hsk:∀s:St,Ce O P Jd .skip [] s=some (.normal,s):=fun s=>by rw[show Jd=4999+1 from rfl];simp[Ce,Cd]
    split at he
    ·rw[hsk]at he
     simp[Ny,Ou,hb,e3]at he
    ·simp at he
   rcases h3 with⟨h3⟩|h3|h3
   rotate_left
   ·exact(noR rfl rfl rfl).elim
   ·exact(noR rfl rfl rfl).elim
   rename_i r
   split at he
   ·rename_i hps
    have hsz:cargs.size=r.params.size:=by
     have e1:=congrArg List.length h3.params
     simp at e1 hlen;omega
    refine⟨_,_,_,_,run_yield h1 hsz,fun F nn hF=>roundIn_of_wpIn (hF.fn _) ?_⟩
    rw[h3.assign,h3.body]
    obtain⟨⟨e1,s1⟩,hm1,he⟩:=aaA.1 he
    simp only at he
    have hT:TR w S ρ (Ou tmps ps vs.reverse) ((r.params.zip cargs).foldl (fun tmps (t,a)=>tmps.setIfInBounds t a) r.tmps):=by
     have:=eH (ps:=ps) hvs (by simpa using hps) h3.tmps
     rw[←aqB,Array.toList_zip,h3.params]
     exact this
    have hs:Ql ⟨h,w,S,ρ,some l⟩ ⟨Ou tmps ps vs.reverse,h⟩ { tmps:=(r.params.zip cargs).foldl (fun tmps (t,a)=>tmps.setIfInBounds t a) r.tmps,defers:=[] } w S ρ:=
     ⟨FI.start H dom all,hT,fun d hd=>by simp at hd,List.Pairwise.nil,fun l' hl'=>by cases hl';exact⟨r,h1⟩⟩
    refine wpIn_mono (Tc (hF.inRound l) hO hL hD hR rfl hI Jd hm1 hs) (fun ex a1 w1 hk=>?_)
    obtain⟨m,_,e',s',hp,S1,ρ1,hs1,hex⟩:=hk
    simp only[Cd,abO.injEq,Prod.mk.injEq]at hp
    obtain⟨rfl,rfl⟩:=hp
    cases e' with
    |normal=>
     cases ex<;>simp[gY]at hex
     obtain⟨hb1,hset1,he⟩:=aaA.1 he
     obtain⟨⟨e2,s2⟩,hm2,he⟩:=aaA.1 he
     obtain⟨⟨rb,st2⟩,hre,he⟩:=aaA.1 he
     obtain⟨hb2,hset2,he⟩:=aaA.1 he
     simp only[abO.injEq,Prod.mk.injEq]at he
     obtain⟨rfl,rfl⟩:=he
     obtain⟨qs,qa,qb,qt,qst,g1,g2,rfl⟩:=lD hset1
     obtain⟨hρ1,r1,hr1,hst1⟩:=hs1.1.lpAt (show(⟨h,w,S,ρ,some l⟩:Beg).ρ0 b=.lp l from hρ) g1 (by rintro rfl;simp[Ju.isReady]at g2) (by rintro rfl;simp[Ju.isReady]at g2)
     have hready:qst=.ready:=by cases qst<;>simp[Ju.isReady]at g2;rfl
     subst hready
     refine⟨_,run_beginRound hr1 hst1.1,?_⟩
     have hFI1:=hs1.1.loop (st':=.busy) (x:=.busy) (y:=r1.pending) hρ1 hr1 g1 ⟨rfl,hst1.2⟩
     have hs2:Ql ⟨h,w,S,ρ,some l⟩ ⟨s'.tmps,s'.h.set b (.lp qs qa qb qt .busy)⟩ a1 (Ev.setB w1 l (.loop { r1 with state:=.busy,pending:=r1.pending })) S1 ρ1:=
      hs1.later hFI1 (Ep.loop hρ1 (hs1.1.hr.lnS b l hρ1) hr1 .busy r1.pending)
     refine wpIn_mono (Tc (hF.inRound l) hO hL hD hR rfl hI Jd hm2 hs2) (fun ex2 a2 w2 hk2=>?_)
     obtain⟨m',_,e3,s3,hp2,S2,ρ2,hs3,hex2⟩:=hk2
     simp only[Cd,abO.injEq,Prod.mk.injEq]at hp2
     obtain⟨rfl,rfl⟩:=hp2
     obtain⟨us,ua,ub,ut,ust,j1,j2,rfl⟩:=lD hset2
     obtain⟨hρ2,r2,hr2,hst2⟩:=hs3.1.lpAt (show(⟨h,w,S,ρ,some l⟩:Beg).ρ0 b=.lp l from hρ) j1 (by rintro rfl;simp[Ju.isBusy]at j2) (by rintro rfl;simp[Ju.isBusy]at j2)
     have last:∀(jump:Option Code),st2.holds (if jump.isNone then .ready else .done) jump→rb=jump.isNone→
      ∃v w',(Instr.endRound l jump).run P w2=.ok v w'∧Ss h w S ρ (.ret (.bool rb)) (s3.h.set b (.lp us ua ub ut st2)) (.returned v) w':=fun jump hh hrb=>by
      refine⟨_,_,run_endRound jump hr2,?_⟩
      have hFI2:=hs3.1.loop hρ2 hr2 j1 hh
      subst hrb
      exact⟨_,S2,ρ2,⟨⟨_,rfl⟩,rfl⟩,hFI2.post (VR.bool _)⟩
     cases e3 with
     |normal=>
      cases ex2<;>simp[gY]at hex2
      simp[Of]at hre
      obtain⟨rfl,rfl⟩:=hre
      exact last none ⟨rfl,rfl⟩ rfl
     |ret=>
      cases ex2<;>simp[gY]at hex2
      simp[Of]at hre
      obtain⟨rfl,rfl⟩:=hre
      exact last (some .ret) ⟨rfl,rfl⟩ rfl
     |exit i=>
      cases ex2<;>simp[gY]at hex2
      subst hex2
      simp[Of]at hre
      obtain⟨rfl,rfl⟩:=hre
      exact last (some (.exit i)) ⟨rfl,rfl⟩ rfl
     |pan v=>simp[Of]at hre
    |_=>simp at he
   ·simp at he
  ·simp at he
 ·simp at he
end
section
variable {P:Program} {G:Nat→Option Obj} {O:Ea}
theorem HR.endLoop{w:World}{S:Nat→Prop}{ρ:Ao}{g:HF}(H:HR w S ρ g){b l:Nat}(hb:ρ b=.lp l){r:Loop}(hr:w.heap[l]?=some (.loop r))(x:LoopState)(y:Option Code):
 HR (Ev.setB w l (.loop { r with state:=x,pending:=y })) S (ρ.put b .dead) (upd g b .dead):=by
 have hs:=(Ep.loop hb (H.lnS b l hb) hr x y).trans (Ep.kill _ S ρ b)
 have off:∀b',∀z,z≠.dead→ρ.put b .dead b'=z→b'≠b∧ρ b'=z:=fun b' z hz h=>by
  by_cases e:b'=b
  ·subst e;rw[Ao.put_same]at h;exact(hz h.symm).elim
  ·rw[Ao.put_other _ _ e]at h;exact⟨e,h⟩
 refine⟨fun b' cb co st sz h=>?_,fun b' h=>?_,fun b1 b2 cb co st sz co' st' sz' h1 h2=>?_,fun b' h=>by have:=H.old b' h;simpa [Ev.setB]using this,fun b' l' h=>?_,fun b1 b2 l' h1 h2=>?_,fun b' l' h=>?_⟩
 ·obtain⟨hne,h⟩:=off b' _ (by simp) h
  obtain⟨c,e,fz,fl,rows,h1,h2,h3,h4⟩:=H.at_ b' cb co st sz h
  exact⟨c,e,fz,fl,rows,by rw[Aw (fun e=>by rw[e,hr]at h1;cases h1)];exact h1,h2,h3.sim hs,by simpa [upd,hne]using h4⟩
 ·by_cases e:b'=b
  ·subst e;simp[upd]
  ·rw[Ao.put_other _ _ e]at h;simpa [upd,e]using H.dead b' h
 ·exact H.inj _ _ _ _ _ _ _ _ _ (off b1 _ (by simp) h1).2 (off b2 _ (by simp) h2).2
 ·obtain⟨hne,h⟩:=off b' _ (by simp) h
  obtain⟨r1,ps1,asg1,body1,tmps1,st1,h1,h2,h3⟩:=H.lps _ _ h
  have hnl:l'≠l:=fun q=>hne (H.linj _ _ _ h (q▸hb))
  exact⟨r1,ps1,asg1,body1,tmps1,st1,by rw[Aw hnl];exact h1,by simpa [upd,hne]using h2,h3.sim hs⟩
 ·exact H.linj _ _ _ (off b1 _ (by simp) h1).2 (off b2 _ (by simp) h2).2
 ·exact H.lnS _ _ (off b' _ (by simp) h).2
theorem FI.endLoop{h0:Aa}{w0:World}{S0:Nat→Prop}{ρ0:Ao}{h:Aa}{w:World}{S:Nat→Prop}{ρ:Ao}(F:FI h0 w0 S0 ρ0 h w S ρ){b l:Nat}(hb:ρ b=.lp l){r:Loop}(hr:w.heap[l]?=some (.loop r)){ps:List Nat}{asg body:Code}{tmps:List AV}{st:Ju}
 (hg:h[b]?=some (.lp ps asg body tmps st)) (x:LoopState) (y:Option Code):
 FI h0 w0 S0 ρ0 (h.set b .dead) (Ev.setB w l (.loop { r with state:=x,pending:=y })) S (ρ.put b .dead)∧Ep w (Ev.setB w l (.loop { r with state:=x,pending:=y })) S S ρ (ρ.put b .dead):=by
 have hlt:b<h.length:=(acI.1 hg).1
 have hg':hf h b=some (.lp ps asg body tmps st):=hg
 have hs:=(Ep.loop hb (F.hr.lnS b l hb) hr x y).trans (Ep.kill _ S ρ b)
 have hes:Dt h [.put b .dead]:=by
  refine⟨⟨hlt,trivial⟩,fun b' ⟨e,he,En⟩ _=>?_,fun b' hn=>?_⟩
  ·simp at he;subst he;simp[Af.id]at En;subst En
   refine⟨⟨_,hg',rfl⟩,fun c hc=>?_⟩
   simp[As,Bi,upd]at hc;subst hc;rfl
  ·simp only[As,Bi,upd]
   rw[if_neg (fun e=>hn ⟨_,aa3.2 rfl,e.symm⟩)]
 refine⟨F.step hes (w':=Ev.setB w l (.loop { r with state:=x,pending:=y })) (S':=S) (ρ':=ρ.put b .dead) (F.hr.endLoop hb hr x y) hs (fun b' cb co st sz h' _=>⟨?_,Aw (fun e=>?_)⟩) (fun b'=>⟨fun h'=>?_,fun h'=>?_⟩),hs⟩
 ·rw[Ao.put_other _ _ (fun e=>by rw[e,hb]at h';cases h')];exact h'
 ·obtain⟨_,_,_,_,_,q,_⟩:=F.hr.at_ _ _ _ _ _ h'
  rw[e,hr]at q;cases q
 ·by_cases e:b'=b
  ·subst e;rw[Ao.put_same]at h';cases h'
  ·rw[Ao.put_other _ _ e]at h'
   exact⟨h',fun⟨x,hx,En⟩=>by simp at hx;subst hx;exact e En.symm⟩
 ·rw[Ao.put_other _ _ (fun e=>by rw[e,hb]at h';cases h'.1)];exact h'.1
theorem Ep.extra{w:World}{S:Nat→Prop}{ρ:Ao}(hS:∀b,S b→b<w.heap.size)(o:Obj):Ep w (w.alloc o) S S ρ ρ where
 size:=by simp
 os:=rfl
 tape:=rfl
 output:=rfl
 keep:=fun b hb=>Bv (hS b hb)
 sub:=fun _ h=>h
 le:=ρ.le_refl
 other:=fun b h _ _=>Bv h
 rng:=fun id _ co st sz h=>.inr ⟨id,co,st,sz,h⟩
 grow:=fun _ h=>.inl h
 objs:=fun b o' hb _=>by rw[Bv (acY.1 hb).1];exact hb
 loops:=fun b r hb=>⟨r.state,r.pending,by rw[Bv (acY.1 hb).1];exact hb⟩
 lrng:=fun id _ h=>.inr ⟨id,h⟩
theorem HR.extra{w:World}{S:Nat→Prop}{ρ:Ao}{g:HF}(H:HR w S ρ g)(o:Obj):HR (w.alloc o) S ρ g where
 at_:=fun b cb co st sz h=>by
  obtain⟨c,e,fz,fl,rows,h1,h2,h3,h4⟩:=H.at_ b cb co st sz h
  exact⟨c,e,fz,fl,rows,by rw[Bv (acY.1 h1).1];exact h1,h2,h3.sim (Ep.extra H.old o),h4⟩
 dead:=H.dead
 inj:=H.inj
 old:=fun b h=>by have:=H.old b h;simp;omega
 lps:=fun b l h=>by
  obtain⟨r,ps,asg,body,tmps,st,h1,h2,h3⟩:=H.lps b l h
  exact⟨r,ps,asg,body,tmps,st,by rw[Bv (acY.1 h1).1];exact h1,h2,h3.sim (Ep.extra H.old o)⟩
 linj:=H.linj
 lnS:=H.lnS
theorem FI.extra{h0:Aa}{w0:World}{S0:Nat→Prop}{ρ0:Ao}{h:Aa}{w:World}{S:Nat→Prop}{ρ:Ao}(F:FI h0 w0 S0 ρ0 h w S ρ)(o:Obj):FI h0 w0 S0 ρ0 h (w.alloc o) S ρ:=
 F.step (Dt.nil h) (F.hr.extra o) (Ep.extra F.hr.old o) (fun b cb co st sz hb _=>⟨hb,Bv (F.hr.lt hb)⟩) (fun b=>⟨fun h=>⟨h,fun⟨e,he,_⟩=>by simp at he⟩,fun h=>h.1⟩)
theorem FI.newLoop{h0:Aa}{w0:World}{S0:Nat→Prop}{ρ0:Ao}{h:Aa}{w:World}{S:Nat→Prop}{ρ:Ao}(F:FI h0 w0 S0 ρ0 h w S ρ){tmps:List AV}{ct:Array Value}(T:TR w S ρ tmps ct)(fn:FuncId)(ps:Array Tmp)(asg body:Code)(D:Nat):
 FI h0 w0 S0 ρ0 (h++[.lp ps.toList asg body tmps .ready]) (w.alloc (.loop { state:=.ready,pending:=none,fn,tmps:=ct,params:=ps,assign:=asg,body,defers:=D })) S (ρ.put h.length (.lp w.heap.size))∧
 Ep w (w.alloc (.loop { state:=.ready,pending:=none,fn,tmps:=ct,params:=ps,assign:=asg,body,defers:=D })) S S ρ (ρ.put h.length (.lp w.heap.size)):=by
 have hfr:ρ h.length=.fresh:=F.dom _ (ae4 _)
 generalize ho:Obj.loop { state:=.ready,pending:=none,fn,tmps:=ct,params:=ps,assign:=asg,body,defers:=D }=o
 have hs:Ep w (w.alloc o) S S ρ (ρ.put h.length (.lp w.heap.size)):=by
  have s:=Ep.extra (w:=w) (ρ:=ρ) F.hr.old o
  refine⟨s.size,s.os,s.tape,s.output,s.keep,s.sub,Ao.le_put_fresh hfr _,s.other,fun id cb co st sz hi=>?_,s.grow,s.objs,s.loops,fun id l hi=>?_⟩
  ·by_cases e:id=h.length
   ·rw[e,Ao.put_same]at hi;cases hi
   ·rw[Ao.put_other _ _ e]at hi;exact .inr ⟨id,co,st,sz,hi⟩
  ·by_cases e:id=h.length
   ·rw[e,Ao.put_same]at hi;cases hi;exact .inl (ae4 _)
   ·rw[Ao.put_other _ _ e]at hi;exact .inr ⟨id,hi⟩
 have H:=F.hr
 have lplt:∀b l,ρ b=.lp l→l<w.heap.size:=fun b l hb=>by
  obtain⟨_,_,_,_,_,_,h1,_⟩:=H.lps b l hb;exact(acY.1 h1).1
 have hH:HR (w.alloc o) S (ρ.put h.length (.lp w.heap.size)) (upd (hf h) h.length (.lp ps.toList asg body tmps .ready)):=by
  refine⟨fun b cb co st sz hb=>?_,fun b hb=>?_,fun b1 b2 cb co st sz co' st' sz' h1 h2=>?_,fun b hb=>by have:=H.old b hb;simp;omega,fun b l hb=>?_,fun b1 b2 l h1 h2=>?_,fun b l hb hS=>?_⟩
  ·by_cases e:b=h.length
   ·rw[e,Ao.put_same]at hb;cases hb
   ·rw[Ao.put_other _ _ e]at hb
    obtain⟨c,e',fz,fl,rows,h1,h2,h3,h4⟩:=H.at_ b cb co st sz hb
    exact⟨c,e',fz,fl,rows,by rw[Bv (acY.1 h1).1];exact h1,h2,h3.sim hs,by simpa [upd,e]using h4⟩
  ·by_cases e:b=h.length
   ·rw[e,Ao.put_same]at hb;cases hb
   ·rw[Ao.put_other _ _ e]at hb;simpa [upd,e]using H.dead b hb
  ·have off:∀x c1 s1 z1,ρ.put h.length (.lp w.heap.size) x=.pl cb c1 s1 z1→ρ x=.pl cb c1 s1 z1:=fun x c1 s1 z1 hx=>by
    by_cases e:x=h.length
    ·rw[e,Ao.put_same]at hx;cases hx
    ·rw[Ao.put_other _ _ e]at hx;exact hx
   exact H.inj _ _ _ _ _ _ _ _ _ (off _ _ _ _ h1) (off _ _ _ _ h2)
  ·by_cases e:b=h.length
   ·subst e;rw[Ao.put_same]at hb;cases hb
    rw[←ho]at hs ⊢
    exact⟨_,ps.toList,asg,body,tmps,.ready,Xy,by simp[upd],.loop ⟨rfl,rfl,rfl,LR.sim hs T,rfl,rfl⟩⟩
   ·rw[Ao.put_other _ _ e]at hb
    obtain⟨r,ps',asg',body',tmps',st,h1,h2,h3⟩:=H.lps b l hb
    exact⟨r,ps',asg',body',tmps',st,by rw[Bv (acY.1 h1).1];exact h1,by simpa [upd,e]using h2,h3.sim hs⟩
  ·by_cases e1:b1=h.length<;>by_cases e2:b2=h.length
   ·rw[e1,e2]
   ·rw[e1,Ao.put_same]at h1;cases h1;rw[Ao.put_other _ _ e2]at h2;have:=lplt _ _ h2;omega
   ·rw[e2,Ao.put_same]at h2;cases h2;rw[Ao.put_other _ _ e1]at h1;have:=lplt _ _ h1;omega
   ·rw[Ao.put_other _ _ e1]at h1;rw[Ao.put_other _ _ e2]at h2;exact H.linj _ _ _ h1 h2
  ·by_cases e:b=h.length
   ·rw[e,Ao.put_same]at hb;cases hb;have:=H.old _ hS;omega
   ·rw[Ao.put_other _ _ e]at hb;exact H.lnS _ _ hb hS
 refine⟨?_,hs⟩
 exact F.step (Dt.new h (.lp ps.toList asg body tmps .ready)) hH hs (fun b cb co st sz hb _=>⟨by rw[Ao.put_other _ _ (fun e=>by rw[e,hfr]at hb;cases hb)];exact hb,Bv (H.lt hb)⟩)
  (fun b=>⟨fun hb=>by
    by_cases e:b=h.length
    ·rw[e,Ao.put_same]at hb;cases hb
    ·rw[Ao.put_other _ _ e]at hb;exact⟨hb,fun⟨x,hx,En⟩=>by simp at hx;subst hx;exact e En.symm⟩,fun⟨h1,h2⟩=>by
    rw[Ao.put_other _ _ (show b≠h.length from fun e=>h2 ⟨_,aa3.2 rfl,e.symm⟩)];exact h1⟩)
theorem iT(hO:Gi P G O){F:Fence}{nn:Nat}(hF:WF F){f:Operand}{ps:Array Nat}{asg body:Code}{s:St}{g:Nat}{fa fb:List AV}{d:Jf}{v:AV}{ps':List Nat}{asg' body':Code}{tm':List AV}{st:Ju}{e:Ex}
 (hf:Ae s.tmps f=some (.func (.func g) fa fb))
 (hc:Et O (Ev.hf (s.h++[.lp ps.toList asg body s.tmps .ready])) (s.h.length+1) (Uc g (fa++[.yl s.h.length]++fb)) (fa++[.yl s.h.length]++fb)=some d) (hout:d.out=.ret v)
 (hlp:(Bo (s.h++[.lp ps.toList asg body s.tmps .ready]) d.es)[s.h.length]?=some (.lp ps' asg' body' tm' st)) (hex:Iy st=some e)
 {B:Beg} {a:Act} {w:World} {S:Nat→Prop} {ρ:Ao} (hI:Qp G B.w0 B.S0) (hs:Ql B s a w S ρ) (fn:FuncId) (D:Nat):
 ∃dd args,(resolve a.eval (rangeCall f w.heap.size) 0).run P (w.alloc (.loop { state:=.ready,pending:=none,fn,tmps:=a.tmps,params:=ps,assign:=asg,body,defers:=D }))=.ok dd (w.alloc (.loop { state:=.ready,pending:=none,fn,tmps:=a.tmps,params:=ps,assign:=asg,body,defers:=D }))∧
  (invoke dd.target dd.args).run P (w.alloc (.loop { state:=.ready,pending:=none,fn,tmps:=a.tmps,params:=ps,assign:=asg,body,defers:=D }))=.ok (.enter g args) (w.alloc (.loop { state:=.ready,pending:=none,fn,tmps:=a.tmps,params:=ps,assign:=asg,body,defers:=D }))∧
  CallsIn F (nn-1) P g args (w.alloc (.loop { state:=.ready,pending:=none,fn,tmps:=a.tmps,params:=ps,assign:=asg,body,defers:=D }))
   (rangePost F nn P w.heap.size (sN B e ⟨s.tmps,(Bo (s.h++[.lp ps.toList asg body s.tmps .ready]) d.es).set s.h.length .dead⟩) a):=by
 obtain⟨hFI,hsim⟩:=hs.1.newLoop hs.2.1 fn ps asg body D
 generalize hw1:w.alloc (.loop { state:=.ready,pending:=none,fn,tmps:=a.tmps,params:=ps,assign:=asg,body,defers:=D })=w1 at *
 have hs1:=hs.later hFI hsim
 have hfr:=Ak hs1.2.1 hf
 generalize hfe:a.eval f=cf at hfr
 cases hfr with
 | @func _ _ _ _ va vc q1 q2 q3 q4=>
   have hlr:LR w1 S (ρ.put s.h.length (.lp w.heap.size)) (fa++[.yl s.h.length]++fb) (va++#[Value.func (.yield w.heap.size) #[] #[]]++vc).toList:=by
    have e1:(va++#[Value.func (.yield w.heap.size) #[] #[]]++vc).toList=va.toList++[Value.func (.yield w.heap.size) #[] #[]]++vc.toList:=by simp
    rw[e1]
    exact(LR.append (LR.append ⟨by simpa using q1,fun i x v hx hv=>q3 i x v hx (by simpa using hv)⟩ (.cons (.yl (Ao.put_same _ _ _)) .nil)) ⟨by simpa using q2,fun i x v hx hv=>q4 i x v hx (by simpa using hv)⟩)
   obtain⟨henter,hcalls⟩:=eL hO hI hFI (jM _ _) hlr (by simpa using hc)
   refine⟨{ target:=.fn (.func g) vc,args:=va++#[Value.func (.yield w.heap.size) #[] #[]] },va++#[Value.func (.yield w.heap.size) #[] #[]]++vc,?_,?_,?_⟩
   ·simp only[resolve,rangeCall,hfe]
    try simp[go_sem]
   ·simp[invoke,go_sem,henter]
   ·refine hF.calls (hcalls.mono fun en w' ⟨cv,S',ρ',he,hv,hFI2,hsim2⟩=>?_)
    cases en with
    |panicked ch=>obtain⟨⟨x,hx⟩,_⟩:=he;rw[hout]at hx;cases hx
    |outgrown=>exact he.elim
    |returned rv=>
     have hρ':ρ' s.h.length=.lp w.heap.size:=by
      rcases hsim2.le s.h.length with q|q|q
      ·rw[Ao.put_same]at q;cases q
      ·rw[q,Ao.put_same]
      ·have:=hFI2.hr.dead _ q
       rw[show Ev.hf _ s.h.length=some _ from hlp]at this;cases this
     obtain⟨r,_,_,_,_,_,hr,h2,h3⟩:=hFI2.hr.lps _ _ hρ'
     rw[show Ev.hf _ s.h.length=some _ from hlp]at h2;cases h2
     rcases h3 with⟨h3⟩|h3|h3
     rotate_left
     ·simp[Iy]at hex
     ·simp[Iy]at hex
     rename_i r
     have hnb:r.state≠.busy:=by
      cases st with
      |ready=>rw[h3.state.1];simp
      |busy=>simp[Iy]at hex
      |done c=>rw[h3.state.1];simp
      |map=>simp[Iy]at hex
      |itr=>simp[Iy]at hex
     refine⟨r.pending,_,run_endLoop hr hnb,?_⟩
     obtain⟨hFI3,hsim3⟩:=hFI2.endLoop hρ' hr hlp .exhausted r.pending
     have hs3:=(hs1.later hFI2 hsim2).later hFI3 hsim3
     cases st with
     |ready=>
      rw[h3.state.2]at hs3 ⊢
      simp[Iy]at hex;subst hex
      exact⟨_,_,hs3,trivial⟩
     |busy=>simp[Iy]at hex
     |done c=>
      rw[h3.state.2]at hs3 ⊢
      cases c<;>simp[Iy]at hex<;>subst hex
      ·exact wpIn_exit ⟨_,_,hs3,rfl⟩
      ·exact wpIn_ret ⟨_,_,hs3,trivial⟩
     |map=>simp[Iy]at hex
     |itr=>simp[Iy]at hex
theorem oW(hO:Gi P G O):Wt P G O:=by
 intro f ps asg body s g fa fb d v ps' asg' body' tm' st e hf hc hout hlp hex F nn hF B a w S ρ hB hI hs
 refine wpIn_rangeFunc (fun fn _=>?_)
 rcases hF with rfl|⟨l,rfl⟩
 ·have hs':Ql B s { a with defers:={ target:=.collected w.heap.size,args:=#[] }::a.defers } (w.alloc (.deferred (some []))) S ρ:=by
   have hm:=hs.later (hs.1.extra (.deferred (some []))) (Ep.extra hs.1.hr.old _)
   refine⟨hm.1,hm.2.1,fun d hd=>?_,?_,hm.2.2.2.2⟩
   ·rcases af7.1 hd with rfl|hd
    ·exact⟨w.heap.size,rfl,Xy,fun h=>Nat.lt_irrefl _ (hs.1.hr.old _ h),hs.1.sim.size⟩
    ·exact hm.2.2.1 d hd
   ·refine avQ.2 ⟨fun d hd=>?_,hs.2.2.2.1⟩
    obtain⟨r,rfl,k2,_⟩:=hs.2.2.1 d hd
    have:=(acY.1 k2).1
    simp[wU];omega
  obtain⟨dd,args,k1,k2,k3⟩:=iT (nn:=nn) hO (.inl rfl) hf hc hout hlp hex hI hs' fn w.heap.size
  have hsz:(w.alloc (.deferred (some []))).heap.size=w.heap.size+1:=by simp
  rw[hsz]at k1 k3
  exact⟨_,_,_,dd,_,g,args,_,run_enterLoop_outer _ _ _ _ _,k1,fun _ _=>trivial,k2,fun h=>by simp[Fence.wide]at h,k3⟩
 ·obtain⟨r₀,hr₀⟩:=hs.2.2.2.2 l hB
  obtain⟨dd,args,k1,k2,k3⟩:=iT (nn:=nn) hO (F:=Fence.wide.inRound l) (.inr ⟨l,rfl⟩) hf hc hout hlp hex hI hs fn r₀.defers
  exact⟨_,_,_,dd,_,g,args,_,run_enterLoop_inner hr₀ _ _ _ _ _,k1,fun _ _=>trivial,k2,fun h=>by simp[Fence.wide,Fence.inRound]at h,k3⟩
end
end Go.Ev
