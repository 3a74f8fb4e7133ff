/- The functions of the layer, walked. -/
import Derived.Test.YtcncggaobhbomaaGreatDoorPartAC
import Derived.Test.YtcncggaobhbomaaGreatDoorPartAB
import Derived.Test.YtcncggaobhbomaaGreatDoorLibE
open List renaming length_map→aaN,map_cons→adC,take→adQ,take_of_length_le→ae2,length_cons→afJ,length_nil→af8,map_nil→ag1,getElem?_append_right→ajY,mem_of_getElem?→aj6,map→aj8,getElem?_eq_getElem→akX,getD_eq_getElem?_getD→akY,getElem?_append_left→akZ,take_append_of_le_length→ak0,getElem?_set_self→alC,getElem?_eq_some_iff→aoR,getElem?_set_ne→aq3,drop→aq4,append_assoc→aq5,map_append→aq6,getElem?_map→aq8,getElem?_eq_none→arA,ext_getElem?→arB,length_append→arF,length_replicate→as4,append_nil→auG,drop_eq_nil_of_le→auQ
open Nat renaming le_refl→ai0,add_sub_cancel_left→aq7
open Int renaming lt_irrefl→ajM,natCast_zero→avR
open Bool renaming true_and→ajV,false_and→ak2,false_eq_true→atH
open Option renaming toList_none→auE
set_option linter.unusedSimpArgs false
set_option linter.unusedVariables false
namespace Go.Proofs.YtcncggaobhbomaaGreatDoor
open Go.Ev Go Go.Ev.Net
set_option maxRecDepth 100000
set_option maxHeartbeats 16000000
def afY(p q:Qc):Prop:=q.one=p.one∧q.other=p.other∧q.valve=p.valve∧q.test=p.test∧q.change=p.change
theorem zL{w:Qh}{N:Nat}{i:Nat}{p q:Qc}(hp:w.parts[i]?=some p)(h:afY p q)(s:St):Tj (Qq w i q) N s=Tj w N s:=by
 obtain⟨h1,h2,h3,h4,h5⟩:=h
 have hn:=fun L=>aaV (N:=N) hp h1 h2 L
 have hl:∀L,Uh (Qq w i q) N L=Uh w N L:=fun L=>by unfold Uh;rw[hn];rfl
 have hs:∀L k j x,Xq (Qq w i q) N L k j true x=Xq w N L k j true x:=fun L k j x=>by unfold Xq;rw[hn,hn,hl]
 have hF:∀k,qA (Qq w i q) N s k=qA w N s k:=fun k=>by
  funext j
  unfold qA
  by_cases e:i=j
  ·subst e
   have e1:(Qq w i q).parts[i]?=some q:=alC (aoR.1 hp).1
   rw[e1,hp]
   cases s.1[i]? with
   |none=>rfl
   |some x=>
    have c1:aM q x k=aM p x k:=by unfold aM;rw[h3]
    have c2:fU q k=fU p k:=by unfold fU;rw[h4,h5]
    simp only[c1,c2,hs]
  ·have e1:(Qq w i q).parts[j]?=w.parts[j]?:=aq3 e
   rw[e1]
   simp only[hs]
 have hK:∀k,oI (Qq w i q) N s k=oI w N s k:=fun k=>by
  unfold oI;rw[Qk,hF]
 unfold Tj
 rw[hK,hK,hK,hK]
theorem aoY{w:Qh}{N:Nat}{i:Nat}{p q:Qc}(hp:w.parts[i]?=some p)(h:afY p q)(l:List Vg):Zx (Qq w i q) N l=Zx w N l:=by
 unfold Zx
 congr 1
 funext s
 rw[zL hp h]
theorem rT(p:Qc)(d k:Int)(b:Bool):afY p (Qw p d k b):=by
 unfold Qw
 split
 ·exact⟨rfl,rfl,rfl,rfl,rfl⟩
 ·split
  ·exact⟨rfl,rfl,rfl,rfl,rfl⟩
  ·split
   ·split<;>exact⟨rfl,rfl,rfl,rfl,rfl⟩
   ·exact⟨rfl,rfl,rfl,rfl,rfl⟩
theorem lQ{w:Qh}{N:Nat}{l:List Vg}{s:St}{o:Nat × List St}:o∈(Zx w N l).ops s↔∃c∈Tj w N s,o=(c.c.toNat,c.to):=by
 show o∈(Tj w N s).map _↔_
 rw[List.mem_map]
 exact⟨fun⟨c,h1,h2⟩=>⟨c,h1,h2.symm⟩,fun⟨c,h1,h2⟩=>⟨c,h1,h2.symm⟩⟩
noncomputable def bs(w:Qh)(N:Nat)(l:List Vg)(s:St):Nat:=(Zx w N l).bst Ud s
theorem avY{w:Qh}{N:Nat}{l:List Vg}{s:St}(hs:(Zx w N l).Fine Ud s):bs w N l s<Ud↔∃k,Go.Ev.nI (Zx w N l) s k:=by
 constructor
 ·intro h
  refine Classical.byContradiction fun n=>?_
  unfold bs at h
  rw[qE.bst_none n]at h
  omega
 ·exact hs.lt
def Xy(w:Qh)(N:Nat)(l:List Vg)(s s':St):Prop:=∃o∈Tj w N s,s'∈o.to∧bs w N l s'+o.c.toNat≤bs w N l s∧bs w N l s<Ud
structure Fl(w:Qh)(N:Nat)(n:Nat)(s s':St)(q:Nat):Prop where
 lt:q<n
 val:∃p,w.parts[q]?=some p∧p.valve=true
 to:∃c b,s.1[q]?=some (c,b)∧s'=(s.1.set q (c,!b),s.2)
 lv:Uh w N s.1≤Uh w N s'.1
def uP(s:St):Nat:=(s.1.map fun x=>if x.1=0 then 0 else 1).sum+s.2
theorem aaY:∀(L:List (Int × Bool)) (i:Nat) (x y:Int × Bool),L[i]?=some x→((L.set i y).map fun x=>if x.1=0 then 0 else 1).sum+(if x.1=0 then 0 else 1)=(L.map fun x=>if x.1=0 then 0 else 1).sum+(if y.1=0 then 0 else 1)
 | [],i,x,y,h=>by simp at h
 |a::L,0,x,y,h=>by
  simp at h;subst h
  simp only[List.set_cons_zero,adC,List.sum_cons];omega
 |a::L,i+1,x,y,h=>by
  have ih:=aaY L i x y (by simpa using h)
  simp only[List.set_cons_succ,adC,List.sum_cons];omega
theorem arH{w:Qh}{N:Nat}{L:List (Int × Bool)}{k:Int}{i:Nat}{x:Int × Bool}(h:Xq w N L k i true x=true):Uh w N L≤Uh w N (L.set i (Tf k true x)):=by
 unfold Xq at h
 simp only[Bool.and_eq_true,decide_eq_true_eq]at h
 have h1:=h.2
 have h2:=(tZ w N L).2
 generalize hz:Uh w N L=z at *
 unfold Uh
 split<;>omega
theorem ax6{w:Qh}{N:Nat}{l:List Vg}(hb:Vw w=true){s s':St}(hd:∀x∈s.1,0≤x.1∧x.1≤2)(h:Xy w N l s s'):uP s'<uP s∨(uP s'=uP s∧∃q,Fl w N w.parts.length s s' q):=by
 obtain⟨o,ho,hto,hlt,_⟩:=h
 obtain⟨p,x,I⟩:=dE.1 ho
 have hv:=jJ hb I.hp o.k
 have hc:=I.c
 have hself:s'≠s:=fun e=>by subst e;omega
 rw[I.to]at hto
 have hil:=(aoR.1 I.hp).1
 have hs0:=fun y=>aaY s.1 o.i x y I.hx
 obtain⟨a,b⟩:=x
 have hxd:=hd _ (aj6 I.hx)
 have hcan:=I.can
 have hsafe:=arH I.safe
 rcases I.k4 with k|k|k|k<;>rw[k]at hto hcan hsafe
 ·rcases jH.1 hto with rfl|⟨h3,_⟩
  ·refine .inr ⟨?_,o.i,hil,⟨p,I.hp,by simp[aM]at hcan;exact hcan.1⟩,⟨a,b,I.hx,?_⟩,hsafe⟩
   ·have:=hs0 (a,true)
    simp only at this
    simp only[uP,Tf,if_true];omega
   ·have hb2:b=false:=by simp[aM]at hcan;exact hcan.2
    rw[hb2];rfl
  ·cases h3
 ·rcases jH.1 hto with rfl|⟨h3,_⟩
  ·refine .inr ⟨?_,o.i,hil,⟨p,I.hp,by simp[aM]at hcan;exact hcan.1⟩,⟨a,b,I.hx,?_⟩,hsafe⟩
   ·have:=hs0 (a,false)
    simp only at this
    show uP (s.1.set o.i (a,false),s.2)=uP s
    simp only[uP];omega
   ·have hb2:b=true:=by simp[aM]at hcan;exact hcan.2
    rw[hb2];rfl
  ·cases h3
 ·left
  have ha:a=1:=by simp[aM]at hcan;exact hcan.2
  subst ha
  rcases jH.1 hto with rfl|⟨_,h0,rfl⟩
  ·have:=hs0 (0,b)
   simp only[Int.reduceEq,if_true,if_false]at this
   show(aj8 (fun x:Int × Bool=>if x.1=0 then 0 else 1) (s.1.set o.i (0,b))).sum+s.2<(aj8 (fun x:Int × Bool=>if x.1=0 then 0 else 1) s.1).sum+s.2
   omega
  ·have:=hs0 (2,b)
   simp only[Int.reduceEq,if_true,if_false]at this
   show(aj8 (fun x:Int × Bool=>if x.1=0 then 0 else 1) (s.1.set o.i (2,b))).sum+(s.2-1)<(aj8 (fun x:Int × Bool=>if x.1=0 then 0 else 1) s.1).sum+s.2
   omega
 ·left
  rcases jH.1 hto with rfl|⟨h3,_⟩
  ·have:=hs0 (0,b)
   simp only[if_true]at this
   show uP (s.1.set o.i (0,b),s.2)<uP s
   by_cases e:a=0
   ·subst e
    exact absurd (show(s.1.set o.i (Tf 4 true (0,b)),s.2)=s from Prod.ext (ac9 I.hx) rfl) hself
   ·rw[if_neg e]at this
    simp only[uP];omega
  ·cases h3
structure Seg(w:Qh)(N:Nat)(n:Nat)(s s':St):Prop where
 len:s'.1.length=s.1.length
 cond:∀v c b,s.1[v]?=some (c,b)→∃b',s'.1[v]?=some (c,b')∧(b'≠b→v<n∧∃p,w.parts[v]?=some p∧p.valve=true)
 fl:s'.2=s.2
 lv:Uh w N s.1≤Uh w N s'.1
theorem Seg.refl(w:Qh)(N n:Nat)(s:St):Seg w N n s s:=⟨rfl,fun v c b h=>⟨b,h,fun e=>absurd rfl e⟩,rfl,Int.le_refl _⟩
theorem Seg.step{w:Qh}{N n:Nat}{s s' s'':St}{q:Nat}(S:Seg w N n s s')(F:Fl w N n s' s'' q):Seg w N n s s'':=by
 obtain⟨c0,b0,h0,rfl⟩:=F.to
 refine⟨by simpa using S.len,fun v c b h=>?_,S.fl,Int.le_trans S.lv F.lv⟩
 obtain⟨b',h1,h2⟩:=S.cond v c b h
 by_cases e:q=v
 ·subst e
  rw[h0]at h1;cases h1
  exact⟨!b0,alC (aoR.1 h0).1,fun _=>⟨F.lt,F.val⟩⟩
 ·exact⟨b',by show(s'.1.set q _)[v]?=_;rw[aq3 e];exact h1,h2⟩
theorem acS{w:Qh}{N:Nat}{l:List Vg}(hb:Vw w=true)(h5:w.parts.length≤5){s0:St}(hs3:s0.2≤3)(hF:∀s,InU w.parts.length s0 s→(Zx w N l).Fine Ud s)(hev:uP s0≤8)(tr:Nat→St)(m:Nat)(h0:tr 0=s0)(hu0:InU w.parts.length s0 s0)(h:∀j,j<m→Xy w N l (tr j) (tr (j+1))):m+1≤180:=by
 have hU:∀j,j≤m→InU w.parts.length s0 (tr j):=by
  intro j
  induction j with
  |zero=>intro _;rw[h0];exact hu0
  |succ j ih=>
   intro hj
   obtain⟨o,ho,hto,_⟩:=h j (by omega)
   exact(rA hb (ih (by omega)) ho).2.2.2.2 _ hto
 have hst:=fun j (hj:j<m)=>ax6 hb (hU j (by omega)).dg (h j hj)
 have hE1:∀i j,i≤j→j≤m→uP (tr j)≤uP (tr i):=by
  intro i j hij
  induction j with
  |zero=>intro _;obtain rfl:i=0:=by omega
         exact ai0 _
  |succ j ih=>
   intro hj
   by_cases e:i=j+1
   ·subst e;exact ai0 _
   ·have h1:=ih (by omega) (by omega)
    rcases hst j (by omega)with h2|⟨h2,_⟩<;>omega
 have hbs:∀i j,i≤j→j≤m→bs w N l (tr j)+(j-i)≤bs w N l (tr i):=by
  intro i j hij
  induction j with
  |zero=>intro _;obtain rfl:i=0:=by omega
         simp
  |succ j ih=>
   intro hj
   by_cases e:i=j+1
   ·subst e;simp
   ·have h1:=ih (by omega) (by omega)
    obtain⟨o,ho,_,h2,_⟩:=h j (by omega)
    have:=(rA hb (hU j (by omega)) ho).1
    omega
 have hseg:∀i j,i≤j→j≤m→uP (tr i)=uP (tr j)→Seg w N w.parts.length (tr i) (tr j):=by
  intro i j hij
  induction j with
  |zero=>intro _ _;obtain rfl:i=0:=by omega
         exact Seg.refl ..
  |succ j ih=>
   intro hj he
   by_cases e:i=j+1
   ·subst e;exact Seg.refl ..
   ·have h1:=hE1 i j (by omega) (by omega)
    rcases hst j (by omega)with h2|⟨h2,q,F⟩
    ·omega
    ·exact(ih (by omega) (by omega) (by omega)).step F
 have key:=Snake.way_short (m+1) 9 (fun i v=>((tr i).1.getD v (0,false)).2) (fun i=>uP (tr i)) (fun i hi=>by
  have:=hE1 0 i (by omega) (by omega)
  rw[h0]at this
  show uP (tr i)<9
  omega) (fun i j hij hj he=>by
  have he:uP (tr i)=uP (tr j):=he
  have hS:=hseg i j (by omega) (by omega) he
  have hb1:=hbs i j (by omega) (by omega)
  have hi12:=(hU i (by omega)).l12
  have hgi:∀v,v<12→∃c b,(tr i).1[v]?=some (c,b):=fun v hv=>by
   rw[akX (by omega)]
   exact⟨_,_,rfl⟩
  have same:∀q:Nat→Prop,(∀v,v<5→¬q v→((tr i).1.getD v (0,false)).2=((tr j).1.getD v (0,false)).2)→∀v,¬q v→(tr i).1[v]?=(tr j).1[v]?:=fun q hq v hn=>by
   by_cases hv:v<12
   ·obtain⟨c,b,h1⟩:=hgi v hv
    obtain⟨b',h2,h3⟩:=hS.cond v c b h1
    rw[h1,h2]
    by_cases e:b'=b
    ·rw[e]
    ·have h4:=(h3 e).1
     have h5':=hq v (by omega) hn
     rw[akY,akY,h1,h2]at h5'
     exact absurd h5'.symm e
   ·rw[arA (by omega),arA (by rw[hS.len];omega)]
  constructor
  ·refine Classical.byContradiction fun hn=>?_
   have e1:(tr i).1=(tr j).1:=arB fun v=>same (fun _=>False) (fun v hv _=>Classical.byContradiction fun h=>hn ⟨v,hv,h⟩) v id
   have e2:tr i=tr j:=Prod.ext e1 hS.fl.symm
   rw[e2]at hb1
   omega
  ·intro v hv hne hoth
   obtain⟨c,b,h1⟩:=hgi v (by omega)
   obtain⟨b',h2,h3⟩:=hS.cond v c b h1
   have hne':b'≠b:=by
    have hne:((tr i).1.getD v (0,false)).2≠((tr j).1.getD v (0,false)).2:=hne
    rw[akY,akY,h1,h2]at hne
    exact fun e=>hne e.symm
   obtain⟨hvn,p,hp,hval⟩:=h3 hne'
   have e1:(tr j).1=(tr i).1.set v (c,b'):=arB fun z=>by
    by_cases e:v=z
    ·subst e;rw[alC (by omega)];exact h2
    ·rw[aq3 e]
     exact(same (fun z=>z=v) (fun z hz hn=>hoth z hz hn) z (fun h=>e h.symm)).symm
   have e2:tr j=((tr i).1.set v (c,b'),(tr i).2):=Prod.ext e1 hS.fl
   have hlv:=hS.lv
   have hl2:=(tZ w N (tr j).1).1
   have hfin:=(avY (hF _ (hU i (by omega))))
   obtain⟨o,ho,_,_,hlt⟩:=h i (by omega)
   have mk:∀k:Int,k=1∨k=2→aM p (c,b) k=true→Tf k true (c,b)=(c,b')→j=i+1:=fun k hk hc ha=>by
    have hch:Zh.mk k v (fU p k) (zW (tr i).1 (tr i).2 k v (c,b))∈Tj w N (tr i):=dE.2 ⟨p,(c,b),by rcases hk with h|h<;>simp[h],hp,h1,hc,by
     show Xq w N (tr i).1 k v true (c,b)=true
     unfold Xq
     rw[ha,←e1,decide_eq_true (show(dO w N (tr j).1:Int)≥Uh w N (tr i).1 by omega)]
     rcases hk with rfl|rfl<;>simp,rfl,rfl⟩
    have hto:zW (tr i).1 (tr i).2 k v (c,b)=[tr j]:=by
     unfold zW
     rw[ha,if_neg (by rcases hk with rfl|rfl<;>simp),←e2]
    have hle:=qE.bst_le (hF _ (hU i (by omega))) (lQ (l:=l).2 ⟨_,hch,rfl⟩)
    simp only[hto]at hle
    have hpr:(fU p k).toNat=1:=by rcases hk with rfl|rfl<;>rfl
    have hmx:qE.mx ((Zx w N l).bst Ud) [tr j]=bs w N l (tr j):=by
     unfold qE.mx bs;simp
    rw[hpr,hmx]at hle
    have:bs w N l (tr i)≤min Ud (1+bs w N l (tr j)):=hle
    omega
   cases b with
   |false=>
    obtain rfl:b'=true:=by cases b' with
     |true=>rfl
     |false=>exact absurd rfl hne'
    exact mk 1 (.inl rfl) (by simp[aM,hval]) rfl
   |true=>
    obtain rfl:b'=false:=by cases b' with
     |false=>rfl
     |true=>exact absurd rfl hne'
    exact mk 2 (.inr rfl) (by simp[aM,hval]) rfl)
 omega
def aeA(w:Qh):Bool:=decide ((w.parts.length:Int)≤15)
theorem asR(w:Qh):Up.call (.fn 9) [.agg [.int .i64 w.rooms,.int .i64 w.need,Rn 9 true w.nn (w.parts.map Qc.cells)]] []=some (.ret (.bool (aeA w)),[]):=by
 cases c:aeA w
 ·have h:decide ((w.parts.length:Int)≤15)=false:=c
  (refine ce Tryz.func9 ?_;simp only[Tryz.f9];(have hb:=trivial;with_reducible repeat' (first|simp only[hb,Va.down,seval,TY9.down,h,aaN]|refine Qp ?_ ?_<;>intro hb|refine fd ?_|fail)))
 ·have h:decide ((w.parts.length:Int)≤15)=true:=c
  (refine ce Tryz.func9 ?_;simp only[Tryz.f9];(have hb:=trivial;with_reducible repeat' (first|simp only[hb,Va.down,seval,TY9.down,h,aaN]|refine Qp ?_ ?_<;>intro hb|refine fd ?_|fail)))
theorem atQ{w:Qh}{N:Nat}(hw:qK w N){i:Nat}{p q:Qc}(hp:w.parts[i]?=some p)(h1:q.one=p.one)(h2:q.other=p.other):qK (Qq w i q) N:=
 ⟨hw.rooms,hw.n2,hw.n8,by rw[Qk];exact hw.len,fun e=>hw.ne (by have:=congrArg List.length e;rw[Qk]at this;exact List.length_eq_zero_iff.1 this),fun x hx=>by
   rcases List.mem_or_eq_of_mem_set hx with hx|rfl
   ·exact hw.part x hx
   ·rw[h1,h2];exact hw.part p (aj6 hp)⟩
def rO(w:Qh)(d:Int)(x:Bool):CB:=.live 4 false x [[.int .i64 w.rooms,.int .i64 w.need,Rn 9 true w.nn (w.parts.map Qc.cells),.int .i64 d]]
def lW(w:Qh)(N:Nat)(s:St):Nat→List Zh
 |0=>[]
 |i+1=>lW w N s i++oI w N s ((i:Int)+1)
theorem ax4(w:Qh)(N:Nat)(s:St):lW w N s 4=Tj w N s:=by
 simp[lW,Tj]
def sE(w:Qh)(N:Nat)(s:St)(k:Int)(j:Nat):List Zh:=(List.range j).filterMap (qA w N s k)
theorem aiH(w:Qh)(N:Nat)(s:St)(k:Int)(j:Nat):sE w N s k (j+1)=sE w N s k j++(qA w N s k j).toList:=by
 unfold sE
 rw[List.range_succ,List.filterMap_append]
 congr 1
theorem avB{H h:Qa}(k:Xr [] H h)(l:Qa):Xr [] H (h++l):=k.trans (Xr.app h l)
theorem _root_.Go.Ev.wF.app{st lo:Nat}{ov:AV}{h:Qa}{rows Q:List (List AV)}{Ro:List Nat}(I:wF st lo ov h rows Q Ro)(l:Qa):wF st lo ov (h++l) rows Q Ro:=I.keep (by simp) fun b _ hb=>akZ hb
theorem ae3{st lo:Nat}{ov:AV}{h:Qa}{rows Q:List (List AV)}{Ro:List Nat}(I:wF st lo ov h rows Q Ro)(l:Qa):kl 0 ov (h++l)=kl 0 ov h++l:=by
 unfold kl
 split
 ·rename_i a b r n
  have:=(I.dov _ _ _ _ rfl).2.2
  rw[List.set_append_left _ _ (by omega)]
 ·rfl
theorem kKl{H h:Qa}{st:Nat}{ov:AV}{rows Q:List (List AV)}{Ro:List Nat}(hK:Xr [] H h)(I:wF st (H.length+1) ov h rows Q Ro)(l:Qa):Xr [] H (kl 0 ov h++l):=
 ⟨by rw[arF,oC];have:=hK.len;omega,fun b hb hn=>by
   rw[iC _ (by have:=hK.len;omega) fun a c r n e e2=>by have:=(I.dov a c r n e).1;omega]
   exact hK.same b hb hn⟩
theorem aiM{w:Qh}{N:Nat}(hw:qK w N)(h12:w.parts.length≤12)(d:Int){H:Qa}{lb:Nat}{wf:Bool}(hlb:H[lb]?=some (rO w d wf)){s:St}(hs:s.1.length=12)(hf3:s.2≤3):
 ShQ Up 65 [.ptr lb 0 0,.agg (Sl s)] H fun o G=>(∃v R,o=.ret v∧rd 6 (hf G) v=some (Rn 4 false false ((Tj w N s).map Zh.cells),R)∧∀b∈R,H.length≤b)∧Xr [] H G:=by
 have hlen:=hw.len
 have hsl:=Yf hs
 have hsf:=Wj s
 have hsc:=Ww s
 have htk:adQ 25 (Sl s)=Sl s:=ae2 (by omega)
 refine ae0 rfl Tryz.func65 rfl rfl ?_
 simp only[Tryz.f65]
 (have hb:=trivial;with_reducible repeat' (first|simp only[hb,Vc.down,seval,rV.down,hsl,hsf,hsc,htk,aaN]|refine Qp ?_ ?_<;>intro hb|refine fd ?_|fail))
 refine Wz (lst 84 (List.replicate 4 ()) (fun i (_:Unit) t h=>t 0=.ptr lb 0 0∧t 3=.ptr H.length 0 0∧t 6=.int .i64 ((i:Int)+1)∧Xr [] H h∧(∃x,h[H.length]?=some (.live 25 true x [Sl s]))∧∃rows Ro,wF 4 (H.length+1) (t 5) h rows ((lW w N s i).map Zh.cells) Ro∧rows.length≤12*i) (fun _ _=>())
  (fun _ e t h=>e=.exit 0∧Xr [] H h∧∃rows Ro,wF 4 (H.length+1) (t 5) h rows ((lW w N s 4).map Zh.cells) Ro) ?_ ?_ () _ _ ?_) (fun e t h hk=>?_)
 ·rintro _ t h Q' kQ ⟨g0,g3,g6,hK,hB,rows,Ro,hL,_⟩
  rw[as4]at g6 hL
  have h5:decide (((4:Nat):Int)+1≤4)=false:=rfl
  (have hb:=trivial;with_reducible repeat' (first|simp only[hb,Vc.down,seval,rV.down,g6,h5]|refine Qp ?_ ?_<;>intro hb|refine fd ?_|fail))
  exact kQ _ _ _ ⟨rfl,hK,rows,Ro,by simpa [up]using hL⟩
 ·rintro _ rest i _ t h J Q' kJ kQ hx hi ⟨g0,g3,g6,hK,⟨x,hB⟩,rows,Ro,hL,hrl0⟩
  rw[as4]at hi
  obtain⟨k,hk⟩:∃k:Int,(i:Int)+1=k:=⟨_,rfl⟩
  have hk4:k=1∨k=2∨k=3∨k=4:=by omega
  rw[hk]at g6
  have h5:decide (k≤4)=true:=decide_eq_true (by omega)
  have hwk:IntKind.i64.wrap (k+1)=k+1:=Us (by omega) (by omega)
  have hlh:h[lb]?=some (rO w d wf):=(hK.same lb (Ux hlb) (by simp)).trans hlb
  unfold rO at hlh
  (have hb:=trivial;with_reducible repeat' (first|simp only[hb,Vc.down,seval,rV.down,g0,g3,g6,h5,hlh,aaN]|refine Qp ?_ ?_<;>intro hb|refine fd ?_|fail))
  refine Wz (lst 84 w.parts (fun j (_:Unit) t h=>t 0=.ptr lb 0 0∧t 3=.ptr H.length 0 0∧t 6=.int .i64 k∧t 19=Rn 9 true w.nn (w.parts.map Qc.cells)∧t 20=.int .i64 (w.parts.length:Nat)∧t 21=.int .i64 (j:Int)∧Xr [] H h∧(∃x,h[H.length]?=some (.live 25 true x [Sl s]))∧∃rows Ro,wF 4 (H.length+1) (t 5) h rows ((lW w N s i++sE w N s k j).map Zh.cells) Ro∧rows.length≤12*i+j) (fun _ _=>())
   (fun _ e t h=>e=.exit 2∧t 0=.ptr lb 0 0∧t 3=.ptr H.length 0 0∧t 6=.int .i64 k∧Xr [] H h∧(∃x,h[H.length]?=some (.live 25 true x [Sl s]))∧∃rows Ro,wF 4 (H.length+1) (t 5) h rows ((lW w N s i++oI w N s k).map Zh.cells) Ro∧rows.length≤12*i+w.parts.length) ?_ ?_ () _ _ ?_) (fun e t h hk'=>?_)
  ·rintro _ t h Q'' kQ ⟨g0,g3,g6,g19,g20,g21,hK,hB,rows,Ro,hL,hrl⟩
   (have hb:=trivial;with_reducible repeat' (first|simp only[hb,Vc.down,seval,rV.down,g20,g21,ajM,decide_false]|refine Qp ?_ ?_<;>intro hb|refine fd ?_|fail))
   exact kQ _ _ _ ⟨rfl,by simp[up,g0],by simp[up,g3],by simp[up,g6],hK,hB,rows,Ro,by simp only[up];exact hL,hrl⟩
  ·rintro p rest j _ t h J' Q'' kJ' kQ' hx hj ⟨g0,g3,g6,g19,g20,g21,hK,⟨x,hB⟩,rows,Ro,hL,hrl⟩
   obtain⟨ov,g5⟩:∃ov,t 5=ov:=⟨_,rfl⟩
   rw[g5]at hL
   have hdd:decide ((j:Int)<(w.parts.length:Int))=true:=decide_eq_true (by omega)
   have hww:=Tc hj (by unfold maxLen;omega)
   obtain⟨y,hy⟩:∃y,s.1[j]?=some y:=⟨_,akX (by omega)⟩
   have hC:=awR p y hk4
   have hS:=al4 hw h12 d hs hy hk4 true false
   have hcf:qA w N s k j=if(aM p y k&&Xq w N s.1 k j true y)=true then some ⟨k,j,fU p k,zW s.1 s.2 k j y⟩else none:=by
    unfold qA;rw[hx,hy]
   have hnx:=aiH w N s k j
   rw[hcf]at hnx
   have i12:((j:Int)<12)=True:=eq_true (by omega)
   have hpz:(j*2≤23)=True:=eq_true (by omega)
   have hpz2:(j*2≤24)=True:=eq_true (by omega)
   have hp25:(j*2+2≤25)=True:=eq_true (by omega)
   have st2:adQ 2 (aq4 (j*2) (Sl s))=[.int .i64 y.1,.bool y.2]:=by
    unfold Sl
    rw[List.drop_append_of_le_length (by rw[Rh];omega),ak0 (by rw[List.length_drop,Rh];omega)]
    obtain⟨a,b⟩:=y
    exact gG s.1 j a b hy
   have st24:adQ 24 (Sl s)=Sv s.1:=by
    unfold Sl;rw[ak0 (by rw[Rh];omega),ae2 (by rw[Rh];omega)]
   have hB2:=Qg hB
   have hlh:h[lb]?=some (rO w d wf):=(hK.same lb (Ux hlb) (by simp)).trans hlb
   unfold rO at hlh
   have hlh2:=Qg hlh
   simp only[Qc.cells]at hC
   have f0:=Vo s.1
   have k0:=Vn s.1
   have v0:=eV s.1
   have l0:=eD s.1
   have r0:=aK s.1
   have p0:=cZ s.1
   have n0:=kP s.1
   have i0:=kT s.1
   have hpl:(Sv s.1).length=24:=by rw[Rh];omega
   cases cC:aM p y k with
   |false=>
    rw[cC]at hC hnx
    simp only[ak2,atH,if_false,auE,auG]at hnx
    (have hb:=trivial;with_reducible repeat' (first|simp only[hb,Vc.down,seval,rV.down,g0,g3,g6,g19,g20,g21,hdd,hww,hx,hB,hB2,hsl,hC,i12,hpz,hpz2,hp25,st2,st24,Tn,hlh,hlh2,Qc.cells,aaN]|refine Qp ?_ ?_<;>intro hb|refine fd ?_|fail))
    exact Qj (kJ' _ _ () ⟨by simp[up,g0],by simp[up,g3],by simp[up,g6],by simp[up,g19],by simp[up,g20],by simp[up],avB hK _,⟨x,hB2 _⟩,rows,Ro,by rw[hnx];simp only[up];rw[g5];exact hL.app _,by omega⟩ rfl)
   |true=>
    rw[cC]at hC hnx
    simp only[ajV]at hnx
    cases cS:Xq w N s.1 k j true y with
    |false=>
     rw[cS]at hS hnx
     simp only[atH,if_false,auE,auG]at hnx
     (have hb:=trivial;with_reducible repeat' (first|simp only[hb,Vc.down,seval,rV.down,g0,g3,g6,g19,g20,g21,hdd,hww,hx,hB,hB2,hsl,hC,i12,hpz,hpz2,hp25,st2,st24,Tn,hlh,hlh2,Qc.cells,aaN,hS,f0,k0,v0,l0,r0,p0,n0,i0,hpl]|refine Qp ?_ ?_<;>intro hb|refine fd ?_|fail))
     exact Qj (kJ' _ _ () ⟨by simp[up,g0],by simp[up,g3],by simp[up,g6],by simp[up,g19],by simp[up,g20],by simp[up],avB hK _,⟨x,hB2 _⟩,rows,Ro,by rw[hnx];simp only[up];rw[g5];exact hL.app _,by omega⟩ rfl)
    |true=>
     rw[cS]at hS hnx
     simp only[if_true,Option.toList_some]at hnx
     have hP:=agA p hk4
     simp only[Qc.cells]at hP
     have hA:=yJ hs hy hk4 true
     have hs1:(s.1.set j (Tf k true y)).length=12:=by simpa using hs
     have f1:=Vo (s.1.set j (Tf k true y))
     have k1:=Vn (s.1.set j (Tf k true y))
     have p1:=cZ (s.1.set j (Tf k true y))
     have r1:=aK (s.1.set j (Tf k true y))
     have n1:=kP (s.1.set j (Tf k true y))
     have i1:=kT (s.1.set j (Tf k true y))
     have hpl1:(Sv (s.1.set j (Tf k true y))).length=24:=by rw[Rh];omega
     have stf:(Sl s)[24]?=some (.int .i64 (s.2:Int)):=by
      unfold Sl;rw[ajY (by rw[Rh];omega),Rh,hs];rfl
     have b1:adQ 25 (Sv (s.1.set j (Tf k true y)))=Sv (s.1.set j (Tf k true y)):=ae2 (by omega)
     have b2:∀z,adQ 24 (Sv (s.1.set j (Tf k true y))++[z])=Sv (s.1.set j (Tf k true y)):=fun z=>by rw[ak0 (by omega),ae2 (by omega)]
     have b3:∀z,aq4 25 (Sv (s.1.set j (Tf k true y))++[z])=[]:=fun z=>auQ (by simp;omega)
     obtain⟨s1,hs1e⟩:∃s1:St,(s.1.set j (Tf k true y),s.2)=s1:=⟨_,rfl⟩
     have hst1:Sv (s.1.set j (Tf k true y))++[AV.int .i64 (s.2:Int)]=Sl s1:=by rw[←hs1e];rfl
     have c1:=Ww s1
     have c2:=Wj s1
     have c3:(Sl s1).length=25:=Yf (by rw[←hs1e];exact hs1)
     have c4:adQ 25 (Sl s1)=Sl s1:=ae2 (by omega)
     have hHh:H.length<h.length:=Qv hB
     obtain⟨sf,hsf0,hsf1,hsf2⟩:∃sf:Nat→Nat,sf H.length=0∧sf h.length=10∧∀k,sf (h.length+k)=k+10:=⟨fun b=>if b=H.length then 0 else b-h.length+10,by simp,by show(if _ then _ else _)=_;rw[if_neg (by omega)];omega,fun k=>by show(if _ then _ else _)=_;rw[if_neg (by omega)];omega⟩
     have hap:=fun(q:Qa) (r:List AV)=>asE hL.own (pre:=[]) rfl q r [] (by simp;omega)
     have hhp:=fun(q:Qa) (r:List (List AV)) (ba:Nat)=>alP hL.own (pre:=[]) rfl q 4 false r ba
     simp only[List.nil_append,afJ,arF,af8,List.length_set,Nat.reduceAdd]at hap hhp
     cases q3:(k==3)with
     |false=>
      (have hb:=trivial;with_reducible repeat' (first|simp only[hb,Vc.down,seval,rV.down,g0,g3,g5,g6,g19,g20,g21,hdd,hww,hx,hB,hB2,hsl,hC,i12,hpz,hpz2,hp25,st2,st24,Tn,hlh,hlh2,Qc.cells,aaN,hS,hap,hhp,f0,k0,v0,l0,r0,p0,n0,i0,hpl,hP,hA,f1,k1,p1,r1,n1,i1,hpl1,stf,q3,b1,b2,b3,hst1,c1,c2,c3,c4,ai0]|refine Qp ?_ ?_<;>intro hb|((refine rS (qL (sf) ?_) ?_);(simp (discharger:=decide) only[kW,eI,adC,ag1,bR,kM,kL,kG,bK,eM,afJ,af8,hsf0,hsf1,hsf2];kernel_rfl);intro _)|refine fdq ?_|fail))
      have hto:zW s.1 s.2 k j y=[s1]:=by
       unfold zW;rw[if_neg (by rintro⟨h3,_⟩;rw[h3]at q3;cases q3),hs1e]
      refine Qj (kJ' _ _ () ⟨by simp[up,g0],by simp[up,g3],by simp[up,g6],by simp[up,g19],by simp[up,g20],by simp[up],?_,⟨x,?_⟩,rows++[[.int .i64 k,.int .i64 (j:Int),.int .i64 (if k=3 then p.test else if k=4 then p.change else 1),.slr 25 (h.length+2) 0 1]],Ro++[h.length+2],?_,by simp;omega⟩ rfl)
      ·exact kKl hK hL _
      ·rw[iC _ hHh fun a b r n e e2=>by have:=(hL.dov a b r n e).1;omega];exact hB
      ·have hQ:(lW w N s i++sE w N s k (j+1)).map Zh.cells=(lW w N s i++sE w N s k j).map Zh.cells++[[.int .i64 k,.int .i64 (j:Int),.int .i64 (if k=3 then p.test else if k=4 then p.change else 1),.imm 25 true [Sl s1]]]:=by
        rw[hnx,hto,←aq5,aq6];rfl
       rw[hQ]
       have hsn:=hL.snoc (h':=h++[.live 9 true true [[.int .i64 p.one,.int .i64 p.other,.bool p.valve,.bool p.opn,.int .i64 p.tested,.int .i64 p.valid,.bool p.bad,.int .i64 p.test,.int .i64 p.change]],.live 2 true true [[.int .i64 k,.int .i64 (j:Int)]],.live 25 true false [Sl s1],.live 4 false true [[.int .i64 k,.int .i64 (j:Int),.int .i64 (if k=3 then p.test else if k=4 then p.change else 1),.slr 25 (h.length+2) 0 1]]]) (by simp) (fun b _ hb=>akZ hb) (r:=[.int .i64 k,.int .i64 (j:Int),.int .i64 (if k=3 then p.test else if k=4 then p.change else 1),.slr 25 (h.length+2) 0 1]) (Vq (mD ..) (Vq (mD ..) (Vq (mD ..) (Vq (anX (rows:=[Sl s1]) (by
        show((h++_)[h.length+2]?).bind Si=_
        rw[ajY (by omega),aq7];rfl) rfl) dG)))) (by simp) (by omega) (.live 4 false false [[.int .i64 k,.int .i64 (j:Int),.int .i64 (if k=3 then p.test else if k=4 then p.change else 1),.slr 25 (h.length+2) 0 1]]) (m:=h.length+5) (n:=rows.length+1) (by simp) rfl
       rw[ae3 hL]at hsn
       simpa [up]using hsn
     |true=>
      have hk3:k=3:=by simpa using q3
      by_cases hf0:s.2=0
      ·have hgt:decide ((s.2:Int)>0)=false:=decide_eq_false (by omega)
       (have hb:=trivial;with_reducible repeat' (first|simp only[hb,Vc.down,seval,rV.down,g0,g3,g5,g6,g19,g20,g21,hdd,hww,hx,hB,hB2,hsl,hC,i12,hpz,hpz2,hp25,st2,st24,Tn,hlh,hlh2,Qc.cells,aaN,hS,hap,hhp,f0,k0,v0,l0,r0,p0,n0,i0,hpl,hP,hA,f1,k1,p1,r1,n1,i1,hpl1,stf,q3,hgt,b1,b2,b3,hst1,c1,c2,c3,c4,ai0]|refine Qp ?_ ?_<;>intro hb|((refine rS (qL (sf) ?_) ?_);(simp (discharger:=decide) only[kW,eI,adC,ag1,bR,kM,kL,kG,bK,eM,afJ,af8,hsf0,hsf1,hsf2];kernel_rfl);intro _)|refine fdq ?_|fail))
       have hto:zW s.1 s.2 k j y=[s1]:=by
        unfold zW;rw[if_neg (by rintro⟨_,h3⟩;omega),hs1e]
       refine Qj (kJ' _ _ () ⟨by simp[up,g0],by simp[up,g3],by simp[up,g6],by simp[up,g19],by simp[up,g20],by simp[up],?_,⟨x,?_⟩,rows++[[.int .i64 k,.int .i64 (j:Int),.int .i64 (if k=3 then p.test else if k=4 then p.change else 1),.slr 25 (h.length+2) 0 1]],Ro++[h.length+2],?_,by simp;omega⟩ rfl)
       ·exact kKl hK hL _
       ·rw[iC _ hHh fun a b r n e e2=>by have:=(hL.dov a b r n e).1;omega];exact hB
       ·have hQ:(lW w N s i++sE w N s k (j+1)).map Zh.cells=(lW w N s i++sE w N s k j).map Zh.cells++[[.int .i64 k,.int .i64 (j:Int),.int .i64 (if k=3 then p.test else if k=4 then p.change else 1),.imm 25 true [Sl s1]]]:=by
         rw[hnx,hto,←aq5,aq6];rfl
        rw[hQ]
        have hsn:=hL.snoc (h':=h++[.live 9 true true [[.int .i64 p.one,.int .i64 p.other,.bool p.valve,.bool p.opn,.int .i64 p.tested,.int .i64 p.valid,.bool p.bad,.int .i64 p.test,.int .i64 p.change]],.live 2 true true [[.int .i64 k,.int .i64 (j:Int)]],.live 25 true false [Sl s1],.live 4 false true [[.int .i64 k,.int .i64 (j:Int),.int .i64 (if k=3 then p.test else if k=4 then p.change else 1),.slr 25 (h.length+2) 0 1]]]) (by simp) (fun b _ hb=>akZ hb) (r:=[.int .i64 k,.int .i64 (j:Int),.int .i64 (if k=3 then p.test else if k=4 then p.change else 1),.slr 25 (h.length+2) 0 1]) (Vq (mD ..) (Vq (mD ..) (Vq (mD ..) (Vq (anX (rows:=[Sl s1]) (by
         show((h++_)[h.length+2]?).bind Si=_
         rw[ajY (by omega),aq7];rfl) rfl) dG)))) (by simp) (by omega) (.live 4 false false [[.int .i64 k,.int .i64 (j:Int),.int .i64 (if k=3 then p.test else if k=4 then p.change else 1),.slr 25 (h.length+2) 0 1]]) (m:=h.length+5) (n:=rows.length+1) (by simp) rfl
        rw[ae3 hL]at hsn
        simpa [up]using hsn
      ·have hgt:decide ((s.2:Int)>0)=true:=decide_eq_true (by omega)
       have hA2:=yJ hs hy hk4 false
       have hs2:(s.1.set j (Tf k false y)).length=12:=by simpa using hs
       have e1:=Vo (s.1.set j (Tf k false y))
       have e2:=Vn (s.1.set j (Tf k false y))
       have e3:=cZ (s.1.set j (Tf k false y))
       have e4:=aK (s.1.set j (Tf k false y))
       have e5:=kP (s.1.set j (Tf k false y))
       have e6:=kT (s.1.set j (Tf k false y))
       have e7:(Sv (s.1.set j (Tf k false y))).length=24:=by rw[Rh];omega
       have e8:adQ 25 (Sv (s.1.set j (Tf k false y)))=Sv (s.1.set j (Tf k false y)):=ae2 (by omega)
       have e9:∀z,adQ 24 (Sv (s.1.set j (Tf k false y))++[z])=Sv (s.1.set j (Tf k false y)):=fun z=>by rw[ak0 (by omega),ae2 (by omega)]
       have e10:∀z,aq4 25 (Sv (s.1.set j (Tf k false y))++[z])=[]:=fun z=>auQ (by simp;omega)
       have hwf:IntKind.i64.wrap ((s.2:Int)-1)=((s.2-1:Nat):Int):=by rw[Us (by omega) (by omega)];omega
       obtain⟨s2,hs2e⟩:∃s2:St,(s.1.set j (Tf k false y),s.2-1)=s2:=⟨_,rfl⟩
       have hst2:Sv (s.1.set j (Tf k false y))++[AV.int .i64 ((s.2-1:Nat):Int)]=Sl s2:=by rw[←hs2e];rfl
       have d1:=Ww s2
       have d2:=Wj s2
       have d3:(Sl s2).length=25:=Yf (by rw[←hs2e];exact hs2)
       have d4:adQ 25 (Sl s2)=Sl s2:=ae2 (by omega)
       (have hb:=trivial;with_reducible repeat' (first|simp only[hb,Vc.down,seval,rV.down,g0,g3,g5,g6,g19,g20,g21,hdd,hww,hx,hB,hB2,hsl,hC,i12,hpz,hpz2,hp25,st2,st24,Tn,hlh,hlh2,Qc.cells,aaN,hS,hap,hhp,f0,k0,v0,l0,r0,p0,n0,i0,hpl,hP,hA,f1,k1,p1,r1,n1,i1,hpl1,stf,q3,hgt,b1,b2,b3,hst1,c1,c2,c3,c4,ai0,hA2,e1,e2,e3,e4,e5,e6,e7,e8,e9,e10,hwf,hst2,d1,d2,d3,d4]|refine Qp ?_ ?_<;>intro hb|((refine rS (qL (sf) ?_) ?_);(simp (discharger:=decide) only[kW,eI,adC,ag1,bR,kM,kL,kG,bK,eM,afJ,af8,hsf0,hsf1,hsf2];kernel_rfl);intro _)|refine fdq ?_|fail))
       have hto:zW s.1 s.2 k j y=[s1,s2]:=by
        unfold zW;rw[if_pos ⟨hk3,by omega⟩,hs1e,hs2e]
       refine Qj (kJ' _ _ () ⟨by simp[up,g0],by simp[up,g3],by simp[up,g6],by simp[up,g19],by simp[up,g20],by simp[up],?_,⟨x,?_⟩,rows++[[.int .i64 k,.int .i64 (j:Int),.int .i64 (if k=3 then p.test else if k=4 then p.change else 1),.slr 25 (h.length+5) 0 2]],Ro++[h.length+5],?_,by simp;omega⟩ rfl)
       ·exact kKl hK hL _
       ·rw[iC _ hHh fun a b r n e e2=>by have:=(hL.dov a b r n e).1;omega];exact hB
       ·have hQ:(lW w N s i++sE w N s k (j+1)).map Zh.cells=(lW w N s i++sE w N s k j).map Zh.cells++[[.int .i64 k,.int .i64 (j:Int),.int .i64 (if k=3 then p.test else if k=4 then p.change else 1),.imm 25 true [Sl s1,Sl s2]]]:=by
         rw[hnx,hto,←aq5,aq6];rfl
        rw[hQ]
        have hsn:=hL.snoc (h':=h++[.live 9 true true [[.int .i64 p.one,.int .i64 p.other,.bool p.valve,.bool p.opn,.int .i64 p.tested,.int .i64 p.valid,.bool p.bad,.int .i64 p.test,.int .i64 p.change]],.live 2 true true [[.int .i64 k,.int .i64 (j:Int)]],.dead,.live 4 false true [[.int .i64 k,.int .i64 (j:Int),.int .i64 (if k=3 then p.test else if k=4 then p.change else 1),.slr 25 (h.length+5) 0 2]],.live 25 true false [Sl s2],.live 25 true false [Sl s1,Sl s2]]) (by simp) (fun b _ hb=>akZ hb) (r:=[.int .i64 k,.int .i64 (j:Int),.int .i64 (if k=3 then p.test else if k=4 then p.change else 1),.slr 25 (h.length+5) 0 2]) (Vq (mD ..) (Vq (mD ..) (Vq (mD ..) (Vq (anX (rows:=[Sl s1,Sl s2]) (by
         show((h++_)[h.length+5]?).bind Si=_
         rw[ajY (by omega),aq7];rfl) rfl) dG)))) (by simp) (by omega) (.live 4 false false [[.int .i64 k,.int .i64 (j:Int),.int .i64 (if k=3 then p.test else if k=4 then p.change else 1),.slr 25 (h.length+5) 0 2]]) (m:=h.length+7) (n:=rows.length+1) (by simp) rfl
        rw[ae3 hL]at hsn
        simpa [up]using hsn
  ·exact⟨by simp[up,g0],by simp[up,g3],by simp[up,g6],by simp[up],by simp[up],by simp[up],hK,⟨x,hB⟩,rows,Ro,by simpa [up,sE]using hL,by omega⟩
  obtain⟨rfl,g0,g3,g6,hK,hB,rows,Ro,hL,hrl⟩:=hk'
  (have hb:=trivial;with_reducible repeat' (first|simp only[hb,Vc.down,seval,rV.down,g6,hwk]|refine Qp ?_ ?_<;>intro hb|refine fd ?_|fail))
  exact Qj (kJ _ _ () ⟨by simp[up,g0],by simp[up,g3],by simp[up];omega,hK,hB,rows,Ro,by simp only[up];rw[lW,hk];exact hL,by omega⟩ rfl)
 ·exact⟨by simp[up,aU],by simp[up],by simp[up],Xr.app _ _,⟨_,by rw[ajY (ai0 _),Nat.sub_self];rfl⟩,[],[],by simp only[up];exact wF.none,Nat.zero_le _⟩
 obtain⟨rfl,hK,rows,Ro,hL⟩:=hk
 obtain⟨ov,g5⟩:∃ov,t 5=ov:=⟨_,rfl⟩
 rw[g5]at hL
 rw[ax4]at hL
 obtain⟨R,r1,r2,_⟩:=hL.read
 (have hb:=trivial;with_reducible repeat' (first|simp only[hb,Vc.down,seval,rV.down,g5]|refine Qp ?_ ?_<;>intro hb|refine fd ?_|fail))
 exact⟨⟨ov,R,rfl,r1,fun b hb=>by have:=r2 b hb;omega⟩,hK⟩
theorem oW(a b:Bool):Ze Tryz.prog .neq 4 (.bool a) (.bool b)=some (.bool (a !=b)):=by
 simp only[Ze,Zn,Tryz.underlying4,Option.map_some]
 cases a<;>cases b<;>rfl
theorem aEM{L:List (Int × Bool)}(hL:L.length=12)(x:Vg)(h0:0≤x.part)(h1:x.part<12):Up.call (.fn 90) [.agg [.int .i64 x.part,.bool x.opn,.bool x.good],.ptr 0 0 0] [.live 24 true false [Sv L]]=some (.ret (.bool (!oG L x)),[.live 24 true false [Sv L]]):=by
 obtain⟨i,hi⟩:∃i:Nat,x.part=(i:Int):=⟨x.part.toNat,by omega⟩
 obtain⟨y,hy⟩:∃y,L[i]?=some y:=⟨_,akX (by omega)⟩
 have i12:((i:Int)<12)=True:=eq_true (by omega)
 have hpz:(i*2≤23)=True:=eq_true (by omega)
 have hp24:(i*2+2≤24)=True:=eq_true (by omega)
 have hpl:(Sv L).length=24:=by rw[Rh];omega
 obtain⟨a,b⟩:=y
 have htk:=gG L i a b hy
 have hm:oG L x=(b==x.opn&&(!x.good||a==0)):=by
  unfold oG
  rw[hi,show((i:Nat):Int).toNat=i from rfl,hy]
 rw[hm,hi]
 cases q1:(b==x.opn)with
 |false=>
  have q1':(b !=x.opn)=true:=by simp[bne,q1]
  (refine ce Tryz.func90 ?_;simp only[Tryz.f90];(have hb:=trivial;with_reducible repeat' (first|simp only[hb,Vc.down,seval,atZ.down,oW,q1',i12,hpz,hp24,hpl,htk,Tn]|refine Qp ?_ ?_<;>intro hb|refine fd ?_|fail)))
 |true=>
  have q1':(b !=x.opn)=false:=by simp[bne,q1]
  cases q2:x.good with
  |false=>
   (refine ce Tryz.func90 ?_;simp only[Tryz.f90];(have hb:=trivial;with_reducible repeat' (first|simp only[hb,Vc.down,seval,atZ.down,oW,q1',q2,i12,hpz,hp24,hpl,htk,Tn]|refine Qp ?_ ?_<;>intro hb|refine fd ?_|fail)))
  |true=>
   cases q3:(a==0)with
   |false=>
    have q3':(a !=0)=true:=by simp[bne,q3]
    (refine ce Tryz.func90 ?_;simp only[Tryz.f90];(have hb:=trivial;with_reducible repeat' (first|simp only[hb,Vc.down,seval,atZ.down,oW,q1',q2,q3,q3',i12,hpz,hp24,hpl,htk,Tn]|refine Qp ?_ ?_<;>intro hb|refine fd ?_|fail)))
   |true=>
    have q3':(a !=0)=false:=by simp[bne,q3]
    (refine ce Tryz.func90 ?_;simp only[Tryz.f90];(have hb:=trivial;with_reducible repeat' (first|simp only[hb,Vc.down,seval,atZ.down,oW,q1',q2,q3,q3',i12,hpz,hp24,hpl,htk,Tn]|refine Qp ?_ ?_<;>intro hb|refine fd ?_|fail)))
theorem aqJ{l:List Vg}{nn:Bool}{g:Nat}{lq:List (Int × Bool)}{p:Vg→Bool}(hp:∀x∈l,Up.call (.fn g) (.agg [.int .i64 x.part,.bool x.opn,.bool x.good]::[.ptr 0 0 0]) [.live 24 true false [Sv lq]]=some (.ret (.bool (p x)),[.live 24 true false [Sv lq]]))(hl:l.length≤maxLen):
 Up.call (.fn 37) [Rn 3 true nn (l.map Vg.cells),.func (.func g) [] [.ptr 0 0 0]] [.live 24 true false [Sv lq]]=some (.ret (.int .i64 (xZ p l 0)),[.live 24 true false [Sv lq]]):=by
 (refine ce Tryz.func37 ?_;simp only[Tryz.f37];(have hb:=trivial;with_reducible repeat' (first|simp only[hb,Vc.down,seval,alT.down,aaN]|refine Qp ?_ ?_<;>intro hb|refine fd ?_|fail)))
 refine Wz (lst 19 l (fun i (s:Int) t h=>s=i∧h=[.live 24 true false [Sv lq]]∧t 0=Rn 3 true nn (l.map Vg.cells)∧t 1=.func (.func g) [] [.ptr 0 0 0]∧t 7=.int .i64 l.length∧t 8=.int .i64 i)
  (fun rest s=>xZ p rest s) (fun r e t h=>h=[.live 24 true false [Sv lq]]∧((e=.exit 0∧r= -1)∨(e=.ret∧t 4=.int .i64 r))) ?_ ?_ 0 _ _ ?_) (fun e t h hk=>?_)
 ·rintro s t h Q' kQ ⟨rfl,rfl,h0,h1,h7,h8⟩
  (have hb:=trivial;with_reducible repeat' (first|simp only[hb,Vc.down,seval,alT.down,h0,h1,h7,h8,ajM,decide_false]|refine Qp ?_ ?_<;>intro hb|refine fd ?_|fail))
  exact kQ _ _ _ ⟨rfl,.inl ⟨rfl,rfl⟩⟩
 ·rintro x rest i s t h J Q' kJ kQ hx hi ⟨rfl,rfl,h0,h1,h7,h8⟩
  have hpx:=hp x (aj6 hx)
  have hd:decide ((i:Int)<(l.length:Int))=true:=by simpa using hi
  (have hb:=trivial;with_reducible repeat' (first|simp only[hb,Vc.down,seval,alT.down,h0,h1,h7,h8,hd,hx,Vg.cells,hpx,Tc hi hl]|refine Qp ?_ ?_<;>intro hb|refine fd ?_|fail))
  ·exact kQ _ _ _ ⟨rfl,.inr ⟨rfl,by simp[up,xZ,hb]⟩⟩
  ·exact Qj (kJ _ _ (i+1) ⟨by simp,rfl,by simp[up,h0],by simp[up,h1],by simp[up,h7],by simp[up]⟩ (by simp[xZ,hb]))
 ·exact⟨rfl,rfl,by simp[up,aU],by simp[up,aU],by simp[up],by simp[up]⟩
 ·obtain⟨rfl,⟨rfl,hi⟩|⟨rfl,hi⟩⟩:=hk
  ·(have hb:=trivial;with_reducible repeat' (first|simp only[hb,Vc.down,seval,alT.down]|refine Qp ?_ ?_<;>intro hb|refine fd ?_|fail))
   rw[hi]
  ·(have hb:=trivial;with_reducible repeat' (first|simp only[hb,Vc.down,seval,alT.down,hi]|refine Qp ?_ ?_<;>intro hb|refine fd ?_|fail))
theorem ahN{l:List Vg}{nn:Bool}{g:Nat}{lq:List (Int × Bool)}{p:Vg→Bool}(hp:∀x∈l,Up.call (.fn g) (.agg [.int .i64 x.part,.bool x.opn,.bool x.good]::[.ptr 0 0 0]) [.live 24 true false [Sv lq]]=some (.ret (.bool (p x)),[.live 24 true false [Sv lq]]))(hl:l.length≤maxLen):
 Up.call (.fn 89) [Rn 3 true nn (l.map Vg.cells),.func (.func g) [] [.ptr 0 0 0]] [.live 24 true false [Sv lq]]=some (.ret (.bool (l.any p)),[.live 24 true false [Sv lq]]):=by
 (refine ce Tryz.func89 ?_;simp only[Tryz.f89];(have hb:=trivial;with_reducible repeat' (first|simp only[hb,Vc.down,seval,aqJ hp hl,xP p l 0 (Int.le_refl 0)]|refine Qp ?_ ?_<;>intro hb|refine fd ?_|fail)))
theorem bcJ{L:List (Int × Bool)}(hL:L.length=12)(l:List Vg)(nn:Bool)(hl:l.length≤maxLen)(h:∀x∈l,0≤x.part∧x.part<12):Up.call (.fn 66) [.agg (Sv L),Rn 3 true nn (l.map Vg.cells)] []=some (.ret (.bool (kS L l)),[]):=by
 have hcM:=ahN (lq:=L) (l:=l) (nn:=nn) (g:=90) (p:=fun x=> !oG L x) (fun x hx=>aEM hL x (h x hx).1 (h x hx).2) hl
 have hpl:(Sv L).length=24:=by rw[Rh];omega
 have hf1:=Vo L
 have hf2:=Vn L
 have htk:=ae2 (l:=Sv L) (i:=24) (by omega)
 have q1:kS L l= !(l.any fun x=> !oG L x):=List.all_eq_not_any_not
 rw[q1]
 generalize(l.any fun x=> !oG L x)=c4 at *
 (refine ce Tryz.func66 ?_;simp only[Tryz.f66];(have hb:=trivial;with_reducible repeat' (first|simp only[hb,Vc.down,seval,hcM,hpl,hf1,hf2,htk,aaN]|refine Qp ?_ ?_<;>intro hb|refine fd ?_|fail)))
def Vy(n:Int):Option Vg→List Vg→Bool
 |_,[]=>true
 |none,x::l=>Ye x.part 0 n&&Vy n (some x) l
 |some y,x::l=>Ye x.part 0 n&& !decide (x.part≤y.part)&&Vy n (some x) l
def fC(w:Qh)(l:List Vg):Bool:=Vy (IntKind.i64.wrap ((w.parts.length:Int)-1)) none l
theorem ayC(w:Qh)(l:List Vg)(nn:Bool)(hl:l.length≤maxLen):Up.call (.fn 35) [.agg [.int .i64 w.rooms,.int .i64 w.need,Rn 9 true w.nn (w.parts.map Qc.cells)],Rn 3 true nn (l.map Vg.cells)] []=some (.ret (.bool (fC w l)),[]):=by
 obtain⟨ans,hans⟩:∃a,fC w l=a:=⟨_,rfl⟩
 rw[hans]
 unfold fC at hans
 generalize hn:IntKind.i64.wrap ((w.parts.length:Int)-1)=n at *
 refine ce Tryz.func35 ?_
 simp only[Tryz.f35]
 (have hb:=trivial;with_reducible repeat' (first|simp only[hb,Vc.down,seval,aa0.down,aaN]|refine Qp ?_ ?_<;>intro hb|refine fd ?_|fail))
 refine Wz (lst 38 l (fun i (y:Option Vg) t h=>t 1=Rn 3 true nn (l.map Vg.cells)∧t 2=.ptr 0 0 0∧t 7=Rn 3 true nn (l.map Vg.cells)∧t 8=.int .i64 (l.length:Nat)∧t 9=.int .i64 (i:Int)∧(∃fl x,h[0]?=some (.live 3 fl x [[.int .i64 w.rooms,.int .i64 w.need,Rn 9 true w.nn (w.parts.map Qc.cells)]]))∧((i=0∧y=none)∨∃z j,i=j+1∧l[j]?=some z∧y=some z)) (fun rest y=>Vy n y rest)
  (fun r e t h=>(e=.exit 0∧r=true)∨(e=.ret∧r=false∧t 4=.bool false)) ?_ ?_ none _ _ ?_) (fun e t h hk=>?_)
 ·rintro y t h Q' kQ ⟨g1,g2,g7,g8,g9,hB,hy⟩
  (have hb:=trivial;with_reducible repeat' (first|simp only[hb,Vc.down,seval,aa0.down,g8,g9,ajM,decide_false]|refine Qp ?_ ?_<;>intro hb|refine fd ?_|fail))
  exact kQ _ _ _ (.inl ⟨rfl,by cases y<;>rfl⟩)
 ·rintro x rest i y t h J Q' kJ kQ hx hi ⟨g1,g2,g7,g8,g9,⟨fl,xx,hB⟩,hy⟩
  have hdd:decide ((i:Int)<(l.length:Int))=true:=decide_eq_true (by omega)
  have hww:=Tc hi hl
  have hB2:=Qg hB
  have hI:=nX x.part 0 n
  have hxw:(l.map Vg.cells)[i]?=some x.cells:=by rw[aq8,hx];rfl
  cases c1:Ye x.part 0 n with
  |false=>
   rw[c1]at hI
   have hf:Vy n y (x::rest)=false:=by cases y<;>simp[Vy,c1]
   (have hb:=trivial;with_reducible repeat' (first|simp only[hb,Vc.down,seval,aa0.down,g1,g2,g7,g8,g9,hdd,hww,hx,hB,hB2,hn,hI,Vg.cells,aaN]|refine Qp ?_ ?_<;>intro hb|refine fd ?_|fail))
   exact kQ _ _ _ (.inr ⟨rfl,hf,by simp[up]⟩)
  |true=>
   rw[c1]at hI
   rcases hy with⟨rfl,rfl⟩|⟨z,j,rfl,hz,rfl⟩
   ·have h00:decide ((0:Int)>0)=false:=rfl
    simp only[avR]at hdd g9
    have hf:Vy n none (x::rest)=Vy n (some x) rest:=by simp[Vy,c1]
    (have hb:=trivial;with_reducible repeat' (first|simp only[hb,Vc.down,seval,aa0.down,g1,g2,g7,g8,g9,hdd,hww,hx,hB,hB2,hn,hI,h00,Vg.cells,aaN]|refine Qp ?_ ?_<;>intro hb|refine fd ?_|fail))
    exact Qj (kJ _ _ (some x) ⟨by simp[up,g1],by simp[up,g2],by simp[up,g7],by simp[up,g8],by simp[up],⟨fl,xx,hB2 _⟩,.inr ⟨x,0,rfl,hx,rfl⟩⟩ hf.symm)
   ·have h00:decide (((j+1:Nat):Int)>0)=true:=decide_eq_true (by omega)
    have hw1:IntKind.i64.wrap (((j+1:Nat):Int)-1)=(j:Int):=by rw[Us (by unfold maxLen at hl;omega) (by unfold maxLen at hl;omega)];omega
    have hjl:((j:Int)<(l.length:Int))=True:=eq_true (by omega)
    cases c2:decide (x.part≤z.part)with
    |false=>
     have hf:Vy n (some z) (x::rest)=Vy n (some x) rest:=by simp only[Vy,c1,c2];rfl
     (have hb:=trivial;with_reducible repeat' (first|simp only[hb,Vc.down,seval,aa0.down,g1,g2,g7,g8,g9,hdd,hww,hx,hz,hB,hB2,hn,hI,h00,hw1,hjl,c2,Vg.cells,aaN]|refine Qp ?_ ?_<;>intro hb|refine fd ?_|fail))
     exact Qj (kJ _ _ (some x) ⟨by simp[up,g1],by simp[up,g2],by simp[up,g7],by simp[up,g8],by simp[up];omega,⟨fl,xx,hB2 _⟩,.inr ⟨x,j+1,rfl,hx,rfl⟩⟩ hf.symm)
    |true=>
     have hf:Vy n (some z) (x::rest)=false:=by simp only[Vy,c1,c2];rfl
     (have hb:=trivial;with_reducible repeat' (first|simp only[hb,Vc.down,seval,aa0.down,g1,g2,g7,g8,g9,hdd,hww,hx,hz,hB,hB2,hn,hI,h00,hw1,hjl,c2,Vg.cells,aaN]|refine Qp ?_ ?_<;>intro hb|refine fd ?_|fail))
     exact kQ _ _ _ (.inr ⟨rfl,hf,by simp[up]⟩)
 ·exact⟨by simp[up,aU],by simp[up],by simp[up],by simp[up],by simp[up],⟨_,_,rfl⟩,.inl ⟨rfl,rfl⟩⟩
 rw[hans]at hk
 rcases hk with⟨rfl,rfl⟩|⟨rfl,rfl,g4⟩
 ·(have hb:=trivial;with_reducible repeat' (first|simp only[hb,Vc.down,seval,aa0.down]|refine Qp ?_ ?_<;>intro hb|refine fd ?_|fail))
 ·(have hb:=trivial;with_reducible repeat' (first|simp only[hb,Vc.down,seval,aa0.down,g4]|refine Qp ?_ ?_<;>intro hb|refine fd ?_|fail))
theorem aT1(w:Qh)(l:List Vg)(nn:Bool)(hl:l.length≤maxLen):Up.call (.fn 33) [.agg [.int .i64 w.rooms,.int .i64 w.need,Rn 9 true w.nn (w.parts.map Qc.cells)],Rn 3 true nn (l.map Vg.cells)] []=some (.ret (.bool (fC w l)),[]):=by
 obtain⟨ans,hans⟩:∃a,fC w l=a:=⟨_,rfl⟩
 rw[hans]
 unfold fC at hans
 have hI:=aU1 w
 generalize hn:IntKind.i64.wrap ((w.parts.length:Int)-1)=n at *
 refine ce Tryz.func33 ?_
 simp only[Tryz.f33]
 (have hb:=trivial;with_reducible repeat' (first|simp only[hb,Vc.down,seval,abO.down,aaN]|refine Qp ?_ ?_<;>intro hb|refine fd ?_|fail))
 refine Wz (lst 38 l (fun i (y:Option Vg) t h=>t 1=Rn 3 true nn (l.map Vg.cells)∧t 2=.ptr 0 0 0∧t 5=.int .i64 (i:Int)∧(∃fl x,h[0]?=some (.live 3 fl x [[.int .i64 w.rooms,.int .i64 w.need,Rn 9 true w.nn (w.parts.map Qc.cells)]]))∧((i=0∧y=none)∨∃z j,i=j+1∧l[j]?=some z∧y=some z)) (fun rest y=>Vy n y rest)
  (fun r e t h=>(e=.exit 0∧r=true)∨(e=.ret∧r=false∧t 4=.bool false)) ?_ ?_ none _ _ ?_) (fun e t h hk=>?_)
 ·rintro y t h Q' kQ ⟨g1,g2,g5,hB,hy⟩
  (have hb:=trivial;with_reducible repeat' (first|simp only[hb,Vc.down,seval,abO.down,g1,g5,ajM,decide_false,aaN]|refine Qp ?_ ?_<;>intro hb|refine fd ?_|fail))
  exact kQ _ _ _ (.inl ⟨rfl,by cases y<;>rfl⟩)
 ·rintro x rest i y t h J Q' kJ kQ hx hi ⟨g1,g2,g5,⟨fl,xx,hB⟩,hy⟩
  have hdd:decide ((i:Int)<(l.length:Int))=true:=decide_eq_true (by omega)
  have hii:((i:Int)<(l.length:Int))=True:=eq_true (by omega)
  have hww:=Tc hi hl
  have hB2:=Qg hB
  replace hI:=hI x.part
  have hxw:(l.map Vg.cells)[i]?=some x.cells:=by rw[aq8,hx];rfl
  cases c1:Ye x.part 0 n with
  |false=>
   rw[c1]at hI
   have hf:Vy n y (x::rest)=false:=by cases y<;>simp[Vy,c1]
   (have hb:=trivial;with_reducible repeat' (first|simp only[hb,Vc.down,seval,abO.down,g1,g2,g5,hdd,hii,hww,hx,hB,hB2,hn,hI,Vg.cells,aaN]|refine Qp ?_ ?_<;>intro hb|refine fd ?_|fail))
   exact kQ _ _ _ (.inr ⟨rfl,hf,by simp[up]⟩)
  |true=>
   rw[c1]at hI
   rcases hy with⟨rfl,rfl⟩|⟨z,j,rfl,hz,rfl⟩
   ·have h00:decide ((0:Int)>0)=false:=rfl
    have h01:decide ((0:Int)<0)=false:=rfl
    simp only[avR]at hdd hii g5
    have hf:Vy n none (x::rest)=Vy n (some x) rest:=by simp[Vy,c1]
    (have hb:=trivial;with_reducible repeat' (first|simp only[hb,Vc.down,seval,abO.down,g1,g2,g5,hdd,hii,hww,hx,hB,hB2,hn,hI,h00,h01,Vg.cells,aaN]|refine Qp ?_ ?_<;>intro hb|refine fd ?_|fail))
    exact Qj (kJ _ _ (some x) ⟨by simp[up,g1],by simp[up,g2],by simp[up],⟨fl,xx,hB⟩,.inr ⟨x,0,rfl,hx,rfl⟩⟩ hf.symm)
   ·have h00:decide (((j+1:Nat):Int)>0)=true:=decide_eq_true (by omega)
    have h01:decide ((0:Int)<((j+1:Nat):Int))=true:=decide_eq_true (by omega)
    have hw1:IntKind.i64.wrap (((j+1:Nat):Int)-1)=(j:Int):=by rw[Us (by unfold maxLen at hl;omega) (by unfold maxLen at hl;omega)];omega
    have hjl:((j:Int)<(l.length:Int))=True:=eq_true (by omega)
    cases c2:decide (x.part≤z.part)with
    |false=>
     have hf:Vy n (some z) (x::rest)=Vy n (some x) rest:=by simp only[Vy,c1,c2];rfl
     (have hb:=trivial;with_reducible repeat' (first|simp only[hb,Vc.down,seval,abO.down,g1,g2,g5,hdd,hii,hww,hx,hz,hB,hB2,hn,hI,h00,h01,hw1,hjl,c2,Vg.cells,aaN]|refine Qp ?_ ?_<;>intro hb|refine fd ?_|fail))
     exact Qj (kJ _ _ (some x) ⟨by simp[up,g1],by simp[up,g2],by simp[up];omega,⟨fl,xx,hB⟩,.inr ⟨x,j+1,rfl,hx,rfl⟩⟩ hf.symm)
    |true=>
     have hf:Vy n (some z) (x::rest)=false:=by simp only[Vy,c1,c2];rfl
     (have hb:=trivial;with_reducible repeat' (first|simp only[hb,Vc.down,seval,abO.down,g1,g2,g5,hdd,hii,hww,hx,hz,hB,hB2,hn,hI,h00,h01,hw1,hjl,c2,Vg.cells,aaN]|refine Qp ?_ ?_<;>intro hb|refine fd ?_|fail))
     exact kQ _ _ _ (.inr ⟨rfl,hf,by simp[up]⟩)
 ·exact⟨by simp[up,aU],by simp[up],by simp[up],⟨_,_,rfl⟩,.inl ⟨rfl,rfl⟩⟩
 rw[hans]at hk
 rcases hk with⟨rfl,rfl⟩|⟨rfl,rfl,g4⟩
 ·(have hb:=trivial;with_reducible repeat' (first|simp only[hb,Vc.down,seval,abO.down]|refine Qp ?_ ?_<;>intro hb|refine fd ?_|fail))
 ·(have hb:=trivial;with_reducible repeat' (first|simp only[hb,Vc.down,seval,abO.down,g4]|refine Qp ?_ ?_<;>intro hb|refine fd ?_|fail))
theorem awC{w:Qh}(h12:w.parts.length≤12)(d:Int)(l:List Vg)(nn:Bool)(hl:l.length≤maxLen)(hp:∀x∈l,0≤x.part∧x.part<(w.parts.length:Int)):Up.call (.fn 22) [.agg [.int .i64 w.rooms,.int .i64 w.need,Rn 9 true w.nn (w.parts.map Qc.cells)],.int .i64 d,Rn 3 true nn (l.map Vg.cells)] []=some (.ret (.bool (kS (Qb w d) l)),[]):=by
 obtain⟨ans,hans⟩:∃a,kS (Qb w d) l=a:=⟨_,rfl⟩
 rw[hans]
 unfold kS at hans
 refine ce Tryz.func22 ?_
 simp only[Tryz.f22]
 (have hb:=trivial;with_reducible repeat' (first|simp only[hb,Vc.down,seval,abE.down,aaN]|refine Qp ?_ ?_<;>intro hb|refine fd ?_|fail))
 refine Wz (lst 45 l (fun i (_:Unit) t h=>t 1=.int .i64 d∧t 2=Rn 3 true nn (l.map Vg.cells)∧t 3=.ptr 0 0 0∧t 7=.int .i64 (i:Int)∧(∃fl x,h[0]?=some (.live 3 fl x [[.int .i64 w.rooms,.int .i64 w.need,Rn 9 true w.nn (w.parts.map Qc.cells)]]))) (fun rest _=>rest.all (oG (Qb w d)))
  (fun r e t h=>(e=.exit 0∧r=true)∨(e=.ret∧r=false∧t 6=.bool false)) ?_ ?_ () _ _ ?_) (fun e t h hk=>?_)
 ·rintro _ t h Q' kQ ⟨g1,g2,g3,g7,hB⟩
  (have hb:=trivial;with_reducible repeat' (first|simp only[hb,Vc.down,seval,abE.down,g2,g7,ajM,decide_false,aaN]|refine Qp ?_ ?_<;>intro hb|refine fd ?_|fail))
  exact kQ _ _ _ (.inl ⟨rfl,rfl⟩)
 ·rintro x rest i _ t h J Q' kJ kQ hx hi ⟨g1,g2,g3,g7,⟨fl,xx,hB⟩⟩
  have hdd:decide ((i:Int)<(l.length:Int))=true:=decide_eq_true (by omega)
  have hii:((i:Int)<(l.length:Int))=True:=eq_true (by omega)
  have hww:=Tc hi hl
  have hB2:=Qg hB
  have hl0:=Qv hB
  have hs0:afE (h.length-1) 1 h.length=1001:=by unfold afE;rw[if_neg (by omega)];omega
  have hsf:∀k,afE (h.length-1) 1 (h.length+k)=k+1001:=fun k=>by unfold afE;rw[if_neg (by omega)];omega
  obtain⟨q0,q1⟩:=hp x (aj6 hx)
  have hxw:(l.map Vg.cells)[i]?=some x.cells:=by rw[aq8,hx];rfl
  obtain⟨j,hj⟩:∃j:Nat,x.part=(j:Int):=⟨x.part.toNat,by omega⟩
  obtain⟨p,hpj⟩:∃p,w.parts[j]?=some p:=⟨_,akX (by omega)⟩
  have hjl:((j:Int)<(w.parts.length:Int))=True:=eq_true (by omega)
  have hC:=zM p d
  have hm:oG (Qb w d) x=(p.opn==x.opn&&(!x.good||Re p d==0)):=by
   unfold oG
   rw[hj,show((j:Nat):Int).toNat=j from rfl,bA hpj]
  have hal:∀b,oG (Qb w d) x=b→(x::rest).all (oG (Qb w d))=(b&&rest.all (oG (Qb w d))):=fun b hb=>by rw[List.all_cons,hb]
  rw[hm]at hal
  generalize Re p d=cc at *
  obtain⟨p1,p2,p3,p4,p5,p6,p7,p8,p9⟩:=p
  simp only[Qc.cells]at hC
  cases c1:(p4==x.opn)with
  |false=>
   have c1':(p4 !=x.opn)=true:=by simp[bne,c1]
   simp only[c1,ak2]at hal
   (have hb:=trivial;with_reducible repeat' (first|simp only[hb,Vc.down,seval,abE.down,g1,g2,g3,g7,hdd,hii,hww,hx,hj,hpj,hjl,hB,hB2,hC,oW,c1',Vg.cells,Qc.cells,aaN]|refine Qp ?_ ?_<;>intro hb|((refine xM (h.length-1) 1 ?_ ?_);(simp (discharger:=decide) only[kW,eI,adC,ag1,bR,kM,kL,kG,bK,eM,afJ,af8,hs0,hsf];kernel_rfl);intro _)|refine fdq ?_|fail))
   exact kQ _ _ _ (.inr ⟨rfl,(hal _ rfl).trans (ak2 _),by simp[up]⟩)
  |true=>
   have c1':(p4 !=x.opn)=false:=by simp[bne,c1]
   cases c2:x.good with
   |false=>
    simp only[c1,c2,Bool.not_false,Bool.true_or,Bool.and_self]at hal
    (have hb:=trivial;with_reducible repeat' (first|simp only[hb,Vc.down,seval,abE.down,g1,g2,g3,g7,hdd,hii,hww,hx,hj,hpj,hjl,hB,hB2,hC,oW,c1',c2,Vg.cells,Qc.cells,aaN]|refine Qp ?_ ?_<;>intro hb|((refine xM (h.length-1) 1 ?_ ?_);(simp (discharger:=decide) only[kW,eI,adC,ag1,bR,kM,kL,kG,bK,eM,afJ,af8,hs0,hsf];kernel_rfl);intro _)|refine fdq ?_|fail))
    exact Qj (kJ _ _ () ⟨by simp[up,g1],by simp[up,g2],by simp[up,g3],by simp[up],⟨fl,xx,hB2 _⟩⟩ ((hal _ rfl).trans (ajV _)).symm)
   |true=>
    cases c3:(cc==0)with
    |false=>
     have c3':(cc !=0)=true:=by simp[bne,c3]
     simp only[c1,c2,c3,Bool.not_true,Bool.false_or,ajV]at hal
     (have hb:=trivial;with_reducible repeat' (first|simp only[hb,Vc.down,seval,abE.down,g1,g2,g3,g7,hdd,hii,hww,hx,hj,hpj,hjl,hB,hB2,hC,oW,c1',c2,c3,c3',Vg.cells,Qc.cells,aaN]|refine Qp ?_ ?_<;>intro hb|((refine xM (h.length-1) 1 ?_ ?_);(simp (discharger:=decide) only[kW,eI,adC,ag1,bR,kM,kL,kG,bK,eM,afJ,af8,hs0,hsf];kernel_rfl);intro _)|refine fdq ?_|fail))
     exact kQ _ _ _ (.inr ⟨rfl,(hal _ rfl).trans (ak2 _),by simp[up]⟩)
    |true=>
     have c3':(cc !=0)=false:=by simp[bne,c3]
     simp only[c1,c2,c3,Bool.not_true,Bool.false_or,ajV]at hal
     (have hb:=trivial;with_reducible repeat' (first|simp only[hb,Vc.down,seval,abE.down,g1,g2,g3,g7,hdd,hii,hww,hx,hj,hpj,hjl,hB,hB2,hC,oW,c1',c2,c3,c3',Vg.cells,Qc.cells,aaN]|refine Qp ?_ ?_<;>intro hb|((refine xM (h.length-1) 1 ?_ ?_);(simp (discharger:=decide) only[kW,eI,adC,ag1,bR,kM,kL,kG,bK,eM,afJ,af8,hs0,hsf];kernel_rfl);intro _)|refine fdq ?_|fail))
     exact Qj (kJ _ _ () ⟨by simp[up,g1],by simp[up,g2],by simp[up,g3],by simp[up],⟨fl,xx,hB2 _⟩⟩ ((hal _ rfl).trans (ajV _)).symm)
 ·exact⟨by simp[up,aU],by simp[up,aU],by simp[up],by simp[up],⟨_,_,rfl⟩⟩
 rw[hans]at hk
 rcases hk with⟨rfl,rfl⟩|⟨rfl,rfl,g4⟩
 ·(have hb:=trivial;with_reducible repeat' (first|simp only[hb,Vc.down,seval,abE.down]|refine Qp ?_ ?_<;>intro hb|refine fd ?_|fail))
 ·(have hb:=trivial;with_reducible repeat' (first|simp only[hb,Vc.down,seval,abE.down,g4]|refine Qp ?_ ?_<;>intro hb|refine fd ?_|fail))
def bF(w:Qh)(d:Int)(l:List Vg)(f:Int):Int:=if decide ((w.parts.length:Int)>6)=true then 3 else if(!Vw w|| !aS d|| !fC w l||decide (f<0)||decide (f>3))=true then 2 else 0
theorem ajL(w:Qh)(hs:w.small)(d:Int)(l:List Vg)(nn:Bool)(hl:l.length≤maxLen)(f:Int):Up.call (.fn 11) [.agg [.int .i64 w.rooms,.int .i64 w.need,Rn 9 true w.nn (w.parts.map Qc.cells)],.int .i64 d,Rn 3 true nn (l.map Vg.cells),.int .i64 f] []=some (.ret (.int .i64 (bF w d l f)),[]):=by
 have h1:=aoJ w hs
 have h2:=ao3 d
 have h3:=aT1 w l nn hl
 unfold bF
 cases c0:decide ((w.parts.length:Int)>6)with
 |true=>
  rw[if_pos rfl]
  (refine ce Tryz.func11 ?_;simp only[Tryz.f11];(have hb:=trivial;with_reducible repeat' (first|simp only[hb,Vc.down,seval,ad7.down,c0,aaN]|refine Qp ?_ ?_<;>intro hb|refine fd ?_|fail)))
 |false=>
  rw[if_neg (by simp)]
  generalize Vw w=b1 at *
  generalize aS d=b2 at *
  generalize fC w l=b3 at *
  cases b1 with
  |false=>
   rw[if_pos (by simp)]
   (refine ce Tryz.func11 ?_;simp only[Tryz.f11];(have hb:=trivial;with_reducible repeat' (first|simp only[hb,Vc.down,seval,ad7.down,c0,h1,aaN]|refine Qp ?_ ?_<;>intro hb|refine fd ?_|fail)))
  |true=>
   cases b2 with
   |false=>
    rw[if_pos (by simp)]
    (refine ce Tryz.func11 ?_;simp only[Tryz.f11];(have hb:=trivial;with_reducible repeat' (first|simp only[hb,Vc.down,seval,ad7.down,c0,h1,h2,aaN]|refine Qp ?_ ?_<;>intro hb|refine fd ?_|fail)))
   |true=>
    cases b3 with
    |false=>
     rw[if_pos (by simp)]
     (refine ce Tryz.func11 ?_;simp only[Tryz.f11];(have hb:=trivial;with_reducible repeat' (first|simp only[hb,Vc.down,seval,ad7.down,c0,h1,h2,h3,aaN]|refine Qp ?_ ?_<;>intro hb|refine fd ?_|fail)))
    |true=>
     cases b4:decide (f<0)with
     |true=>
      rw[if_pos (by simp)]
      (refine ce Tryz.func11 ?_;simp only[Tryz.f11];(have hb:=trivial;with_reducible repeat' (first|simp only[hb,Vc.down,seval,ad7.down,c0,h1,h2,h3,b4,aaN]|refine Qp ?_ ?_<;>intro hb|refine fd ?_|fail)))
     |false=>
      cases b5:decide (f>3)with
      |true=>
       rw[if_pos (by simp)]
       (refine ce Tryz.func11 ?_;simp only[Tryz.f11];(have hb:=trivial;with_reducible repeat' (first|simp only[hb,Vc.down,seval,ad7.down,c0,h1,h2,h3,b4,b5,aaN]|refine Qp ?_ ?_<;>intro hb|refine fd ?_|fail)))
      |false=>
       rw[if_neg (by simp)]
       (refine ce Tryz.func11 ?_;simp only[Tryz.f11];(have hb:=trivial;with_reducible repeat' (first|simp only[hb,Vc.down,seval,ad7.down,c0,h1,h2,h3,b4,b5,aaN]|refine Qp ?_ ?_<;>intro hb|refine fd ?_|fail)))
end Go.Proofs.YtcncggaobhbomaaGreatDoor
