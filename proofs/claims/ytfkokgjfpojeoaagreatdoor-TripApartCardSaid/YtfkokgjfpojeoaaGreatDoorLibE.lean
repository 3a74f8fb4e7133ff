/- The evaluator and its soundness. -/
import Derived.Test.YtfkokgjfpojeoaaGreatDoorLibD
open Option renaming map_eq_some_iff→acQ,bind_eq_some_iff→aeG,bind_some→aoF,map_some→arI,some→atV
open And renaming intro→ahB
open Eq renaming trans→alV
open List renaming mem_cons_of_mem→am7,any_cons→an9,mem_cons_self→aoD,getElem?_eq_some_iff→aoG,mem_append→aoU,all_eq_true→apD,getElem?_eq_getElem→apM,mem_append_left→ap1,mem_append_right→aq0,mem_cons→atT,append_nil→atY,mem_of_getElem?→at0,getElem?_append_left→auJ,nil_append→auT,mem_map→auW,cons→avD,length_cons→avI,getElem?_append_right→av7,prefix_refl→av8,getElem?_of_mem→ayL,mem_or_eq_of_mem_set→azS,any_eq_true→azU,getElem?_eq_none_iff→aAZ,nodup_nil→aBV,range_zero→aBX,flatMap_cons→aC9
open Bool renaming and_eq_true→atX,or_eq_true→azT,not_eq_true'→az1,not_eq_eq_eq_not→aAQ
open Nat renaming zero_add→axA
set_option linter.unusedSimpArgs false
set_option linter.unusedVariables false
namespace Go.Ev
noncomputable section
theorem ay4(n:Nat)(fl:Bool)(rows:List (List AV)):slv n fl true rows=.imm n fl rows:=by cases rows<;>rfl
theorem aWV(n:Nat)(fl:Bool):slv n fl false []=.nils:=rfl
section
variable {P:Program} {t e:TypeId} (hu:P.underlying t=some (.slice e))
include hu
theorem asU(n:Nat)(fl:Bool)(rows:List (List AV)):ao1 P .eql t (.imm n fl rows) .nils=some (.bool false):=by simp[ao1,aEq,hu]
theorem arU:ao1 P .eql t .nils .nils=some (.bool true):=by simp[ao1,aEq,hu]
end
def a1C(v:Option AV)(ns:Option (List acP)):Option aq6:=v.bind fun v=>ns.map fun ns=>⟨.ret v,ns,[]⟩
theorem aPA(v:AV)(ns:List acP):a1C (some v) (some ns)=some ⟨.ret v,ns,[]⟩:=alV rfl rfl
theorem aRQ(base:Nat)(v:AV)(c:CB)(cs:List CB):ac0 base (some (.ret v,c::cs))=a1C (alC 8 (fun i=>base+i) v) (ao8 (fun i=>base+i) base (c::cs)):=by
 simp only[ac0,a1C,aoF,Out.v,Out.map]
section
variable {O:Orc}
end
def ajX(h:aaP):Bool:=h.all fun c=>c.quiet c.clean
theorem aMA:∀{h:aaP} (_:ajX h=true) (i:Nat) (l:aaP),aoC i h (clH h++l)=some (aqN (i+h.length) l)
 | [],_,i,l=>by simp[clH,aoC]
 |c::h,hq,i,l=>by
  simp only[ajX,List.all_cons,atX]at hq
  have ih:=aMA (h:=h) hq.2 (i+1) l
  simp only[clH,List.map_cons,List.cons_append,aoC,hq.1,cond_true]at ih ⊢
  rw[ih,avI]
  congr 2;omega
theorem az4:∀(cs:List CB) (i:Nat) (h:aaP),alZ h (aqN i cs)=h++cs
 | [],i,h=>by simp[aqN,alZ]
 |c::cs,i,h=>by simp[aqN,alZ,ar6,az4 cs]
theorem aT5(h:aaP)(o:Out)(h':aaP):shK h (some (o,h'))=(aoC 0 h h').map fun es=>(o,es):=alV rfl rfl
def EVo:=PLift.up (ahB @a2F (ahB @a1F (ahB @a3S (ahB @aV7 (ahB @a2I (ahB @a04 @aZZ))))))
def EVn:=PLift.up (ahB @aPA @aRQ)
end
noncomputable section
def agI:CB→Option (Nat × Bool × List (List AV))
 | .live st fl _ rows=>some (st,fl,rows)
 | .frz st fl rows=>some (st,fl,rows)
 |_=>none
def rdL(f:AV→Option (AV × List Nat)):List AV→Option (List AV × List Nat)
 | []=>some ([],[])
 |a::l=>(f a).bind fun p=>(rdL f l).map fun q=>(p.1::q.1,p.2++q.2)
def alA(f:AV→Option (AV × List Nat)):List (List AV)→Option (List (List AV) × List Nat)
 | []=>some ([],[])
 |r::rs=>(rdL f r).bind fun p=>(alA f rs).map fun q=>(p.1::q.1,p.2++q.2)
def rd:Nat→HF→AV→Option (AV × List Nat)
 |0,_,_=>none
 |d+1,g,v=>
  match v with
  | .slr st b r len=>((g b).bind agI).bind fun z=>
     if z.1=st∧r=0∧len=z.2.2.length then
      (bif z.2.1 then some (.imm st true z.2.2,[b])else(alA (rd d g) z.2.2).map fun q=>(.imm st false q.1,b::q.2))
     else none
  | .agg cs=>(rdL (rd d g) cs).map fun q=>(.agg q.1,q.2)
  | .iface t x=>(rd d g x).map fun q=>(.iface t q.1,q.2)
  | .func fn [] []=>some (.func fn [] [],[])
  | .func _ _ _=>none
  | .tup _=>none
  | .ptr _ _ _=>none
  | .yl _=>none
  | .mapr _=>none
  | .imm _ _ _=>none
  | .iptr _=>none
  |v=>some (v,[])
theorem auZ{f f':AV→Option (AV × List Nat)}:∀{l:List AV} {p:List AV × List Nat},rdL f l=some p→(∀x∈l,∀q,f x=some q→(∀b∈q.2,b∈p.2)→f' x=some q)→rdL f' l=some p
 | [],p,h,_=>h
 |a::l,p,h,hf=>by
  simp only[rdL,aeG,acQ]at h ⊢
  obtain⟨q,hq,r,hr,rfl⟩:=h
  exact⟨q,hf a (aoD ..) q hq (fun b hb=>ap1 _ hb),r,auZ hr (fun x hx q' hq' hs=>hf x (am7 _ hx) q' hq' (fun b hb=>aq0 _ (hs b hb))),rfl⟩
theorem auN{f f':AV→Option (AV × List Nat)}:∀{l:List (List AV)} {p:List (List AV) × List Nat},alA f l=some p→(∀r∈l,∀x∈r,∀q,f x=some q→(∀b∈q.2,b∈p.2)→f' x=some q)→alA f' l=some p
 | [],p,h,_=>h
 |a::l,p,h,hf=>by
  simp only[alA,aeG,acQ]at h ⊢
  obtain⟨q,hq,r,hr,rfl⟩:=h
  exact⟨q,auZ hq (fun x hx q' hq' hs=>hf a (aoD ..) x hx q' hq' (fun b hb=>ap1 _ (hs b hb))),r,
   auN hr (fun r' hr' x hx q' hq' hs=>hf r' (am7 _ hr') x hx q' hq' (fun b hb=>aq0 _ (hs b hb))),rfl⟩
def Agr(R:List Nat)(g g':HF):Prop:=∀b∈R,∀z,(g b).bind agI=some z→(g' b).bind agI=some z
theorem aqL{g g':HF}:∀{d:Nat} {v:AV} {p:AV × List Nat},rd d g v=some p→Agr p.2 g g'→rd d g' v=some p
 |0,v,p,h,_=>by simp[rd]at h
 |d+1,v,p,h,ha=>by
  cases v with
  |slr st b r len=>
   simp only[rd,aeG]at h ⊢
   obtain⟨z,⟨c,hc,hz⟩,h⟩:=h
   split at h
   ·rename_i hq
    have hb:b∈p.2:=by
     cases hfl:z.2.1 with
     |true=>rw[hfl]at h;simp at h;rw[←h];simp
     |false=>rw[hfl]at h;simp only[cond_false,acQ]at h;obtain⟨q,_,rfl⟩:=h;simp
    have hz':=ha b hb z (by rw[hc];exact hz)
    obtain⟨c',hc',hz''⟩:=aeG.1 hz'
    refine⟨z,⟨c',hc',hz''⟩,?_⟩
    rw[if_pos hq]
    cases hfl:z.2.1 with
    |true=>rw[hfl]at h;exact h
    |false=>
     rw[hfl]at h
     simp only[cond_false,acQ]at h ⊢
     obtain⟨q,hq',rfl⟩:=h
     exact⟨q,auN hq' (fun r' _ x _ q' hx hs=>aqL hx (fun b' hb'=>ha b' (am7 _ (hs b' hb')))),rfl⟩
   ·cases h
  |agg cs=>
   simp only[rd,acQ]at h ⊢
   obtain⟨q,hq,rfl⟩:=h
   exact⟨q,auZ hq (fun x _ q' hx hs=>aqL hx (fun b hb=>ha b (hs b hb))),rfl⟩
  |iface t x=>
   simp only[rd,acQ]at h ⊢
   obtain⟨q,hq,rfl⟩:=h
   exact⟨q,aqL hq ha,rfl⟩
  |func fn a b=>cases a<;>cases b<;>first|exact h|(simp[rd]at h)
  |_=>first|exact h|(simp[rd]at h)
theorem aGK{g:HF}:∀{d e:Nat} {v:AV} {p:AV × List Nat},d≤e→rd d g v=some p→rd e g v=some p
 |0,e,v,p,_,h=>by simp[rd]at h
 |d+1,0,v,p,he,h=>by omega
 |d+1,e+1,v,p,he,h=>by
  have IH:∀x q,rd d g x=some q→rd e g x=some q:=fun x q hx=>aGK (by omega) hx
  cases v with
  |slr st b r len=>
   simp only[rd,aeG]at h ⊢
   obtain⟨z,hz,h⟩:=h
   refine⟨z,hz,?_⟩
   split at h
   ·rename_i hq
    rw[if_pos hq]
    cases hfl:z.2.1 with
    |true=>rw[hfl]at h;exact h
    |false=>
     rw[hfl]at h
     simp only[cond_false,acQ]at h ⊢
     obtain⟨q,hq',rfl⟩:=h
     exact⟨q,auN hq' (fun r' _ x _ q' hx _=>IH x q' hx),rfl⟩
   ·cases h
  |agg cs=>
   simp only[rd,acQ]at h ⊢
   obtain⟨q,hq,rfl⟩:=h
   exact⟨q,auZ hq (fun x _ q' hx _=>IH x q' hx),rfl⟩
  |iface t x=>
   simp only[rd,acQ]at h ⊢
   obtain⟨q,hq,rfl⟩:=h
   exact⟨q,IH _ _ hq,rfl⟩
  |func fn a b=>cases a<;>cases b<;>first|exact h|(simp[rd]at h)
  |_=>first|exact h|(simp[rd]at h)
theorem azO{f:AV→Option (AV × List Nat)}{f':AV→Option AV}:∀{l:List AV} {p:List AV × List Nat},rdL f l=some p→(∀x∈l,∀q,f x=some q→f' x=some q.1)→afG f' l=some p.1
 | [],p,h,_=>by simp[rdL]at h;subst h;rfl
 |a::l,p,h,hf=>by
  simp only[rdL,aeG,acQ]at h
  obtain⟨q,hq,r,hr,rfl⟩:=h
  simp only[afG,hf a (aoD ..) q hq,aoF,azO hr (fun x hx=>hf x (am7 _ hx)),arI]
theorem aAR{f:AV→Option (AV × List Nat)}{f':AV→Option AV}:∀{l:List (List AV)} {p:List (List AV) × List Nat},alA f l=some p→(∀r∈l,∀x∈r,∀q,f x=some q→f' x=some q.1)→afG (afG f') l=some p.1
 | [],p,h,_=>by simp[alA]at h;subst h;rfl
 |a::l,p,h,hf=>by
  simp only[alA,aeG,acQ]at h
  obtain⟨q,hq,r,hr,rfl⟩:=h
  simp only[afG,azO hq (fun x hx=>hf a (aoD ..) x hx),aoF,aAR hr (fun r' hr'=>hf r' (am7 _ hr')),arI]
theorem azK{g:HF}{b:Nat}{z:Nat × Bool × List (List AV)}(h:(g b).bind agI=some z):aoE g b 0 z.2.2.length=some z:=by
 obtain⟨c,hc,hz⟩:=aeG.1 h
 unfold aoE
 rw[hc]
 cases c with
 |live st fl w rows=>simp[agI]at hz;subst hz;simp
 |frz st fl rows=>simp[agI]at hz;subst hz;simp
 |dead=>simp[agI]at hz
 |lp=>simp[agI]at hz
theorem aB3{g:HF}:∀{d:Nat} {v:AV} {p:AV × List Nat},rd d g v=some p→aoY d g v=some p.1
 |0,v,p,h=>by simp[rd]at h
 |d+1,v,p,h=>by
  cases v with
  |slr st b r len=>
   simp only[rd,aeG]at h
   obtain⟨z,hz,h⟩:=h
   split at h
   ·rename_i hq
    obtain⟨rfl,rfl,rfl⟩:=hq
    simp only[aoY,azK (aeG.2 hz),aoF]
    cases hfl:z.2.1 with
    |true=>rw[hfl]at h;simp at h;rw[←h];rfl
    |false=>
     rw[hfl]at h
     simp only[cond_false,acQ]at h
     obtain⟨q,hq',rfl⟩:=h
     simp[aAR hq' (fun r' _ x _ q' hx=>aB3 hx)]
   ·cases h
  |agg cs=>
   simp only[rd,acQ]at h
   obtain⟨q,hq,rfl⟩:=h
   simp[aoY,azO hq (fun x _ q' hx=>aB3 hx)]
  |iface t x=>
   simp only[rd,acQ]at h
   obtain⟨q,hq,rfl⟩:=h
   simp[aoY,aB3 hq]
  |func fn a b=>cases a<;>cases b<;>first|(simp[rd]at h;subst h;rfl)|(simp[rd]at h)
  |_=>first|(simp[rd]at h;subst h;rfl)|(simp[rd]at h)
def aoH:Nat→(Nat→Option Nat)→AV→Option AV
 |0,_,_=>none
 |d+1,F,v=>
  match v with
  | .ptr b r o=>(F b).map fun b=>.ptr b r o
  | .slr st b r len=>(F b).map fun b=>.slr st b r len
  | .agg cs=>(afG (aoH d F) cs).map .agg
  | .tup cs=>(afG (aoH d F) cs).map .tup
  | .iface t x=>(aoH d F x).map (.iface t)
  | .func fn a b=>(afG (aoH d F) a).bind fun a=>(afG (aoH d F) b).map fun b=>.func fn a b
  | .yl b=>(F b).map .yl
  | .mapr b=>(F b).map .mapr
  |v=>some v
def aNH(F:Nat→Option Nat)(g' g:HF):Prop:=∀i b,F i=some b→∀z,(g b).bind agI=some z→
 ∃rows',(g' i).bind agI=some (z.1,z.2.1,rows')∧(z.2.1=true→rows'=z.2.2)∧(z.2.1=false→afG (afG (aoH 8 F)) rows'=some z.2.2)
theorem arH{α β:Type}{f:α→Option β}:∀{l:List α} {r:List β},afG f l=some r→l.length=r.length
 | [],r,h=>by simp[afG]at h;subst h;rfl
 |a::l,r,h=>by
  simp only[afG,aeG,acQ]at h
  obtain⟨b,_,bs,h2,rfl⟩:=h
  simp[arH h2]
theorem azA{f f':AV→Option (AV × List Nat)}{F:AV→Option AV}{Z:Nat→Prop}:∀{l l':List AV} {p:List AV × List Nat},afG F l'=some l→rdL f l=some p→
 (∀x' x q,F x'=some x→f x=some q→∃R',f' x'=some (q.1,R')∧R'.length=q.2.length∧∀i∈R',Z i)→∃R',rdL f' l'=some (p.1,R')∧R'.length=p.2.length∧∀i∈R',Z i
 |l,[],p,ho,h,_=>by
  simp[afG]at ho;subst ho
  simp[rdL]at h;subst h
  exact⟨[],rfl,rfl,fun i h=>by cases h⟩
 |l,a'::l',p,ho,h,hf=>by
  simp only[afG,aeG,acQ]at ho
  obtain⟨a,ha,l1,hl1,rfl⟩:=ho
  simp only[rdL,aeG,acQ]at h
  obtain⟨q,hq,r,hr,rfl⟩:=h
  obtain⟨R1,e1,e2,z1⟩:=hf a' a q ha hq
  obtain⟨R2,e3,e4,z2⟩:=azA hl1 hr hf
  exact⟨R1++R2,by simp[rdL,e1,e3],by simp[e2,e4],fun i hi=>(aoU.1 hi).elim (z1 i) (z2 i)⟩
theorem aCA{f f':AV→Option (AV × List Nat)}{F:AV→Option AV}{Z:Nat→Prop}:∀{l l':List (List AV)} {p:List (List AV) × List Nat},afG (afG F) l'=some l→alA f l=some p→
 (∀x' x q,F x'=some x→f x=some q→∃R',f' x'=some (q.1,R')∧R'.length=q.2.length∧∀i∈R',Z i)→∃R',alA f' l'=some (p.1,R')∧R'.length=p.2.length∧∀i∈R',Z i
 |l,[],p,ho,h,_=>by
  simp[afG]at ho;subst ho
  simp[alA]at h;subst h
  exact⟨[],rfl,rfl,fun i h=>by cases h⟩
 |l,a'::l',p,ho,h,hf=>by
  simp only[afG,aeG,acQ]at ho
  obtain⟨a,ha,l1,hl1,rfl⟩:=ho
  simp only[alA,aeG,acQ]at h
  obtain⟨q,hq,r,hr,rfl⟩:=h
  obtain⟨R1,e1,e2,z1⟩:=azA ha hq hf
  obtain⟨R2,e3,e4,z2⟩:=aCA hl1 hr hf
  exact⟨R1++R2,by simp[alA,e1,e3],by simp[e2,e4],fun i hi=>(aoU.1 hi).elim (z1 i) (z2 i)⟩
theorem aD1{F:Nat→Option Nat}{g' g:HF}(H:aNH F g' g):∀{d e:Nat} {x' x:AV} {p:AV × List Nat},aoH e F x'=some x→rd d g x=some p→∃R',rd d g' x'=some (p.1,R')∧R'.length=p.2.length∧∀i∈R',∃b,F i=some b
 |0,e,x',x,p,_,h=>by simp[rd]at h
 |d+1,0,x',x,p,hx,_=>by simp[aoH]at hx
 |d+1,e+1,x',x,p,hx,h=>by
  have IH:∀e x' x q,aoH e F x'=some x→rd d g x=some q→∃R',rd d g' x'=some (q.1,R')∧R'.length=q.2.length∧∀i∈R',∃b,F i=some b:=fun e x' x q h1 h2=>aD1 H h1 h2
  cases x' with
  |slr st i r len=>
   simp only[aoH,acQ]at hx
   obtain⟨b,hb,rfl⟩:=hx
   simp only[rd,aeG]at h
   obtain⟨z,hz,h⟩:=h
   split at h
   ·rename_i hq
    obtain⟨rows',k1,k2,k3⟩:=H i b hb z (aeG.2 hz)
    simp only[rd,k1,aoF]
    cases hfl:z.2.1 with
    |true=>
     rw[hfl]at h;simp at h
     rw[if_pos ⟨hq.1,hq.2.1,by rw[k2 hfl];exact hq.2.2⟩,←h,k2 hfl]
     exact⟨[i],rfl,rfl,fun j hj=>by simp at hj;subst hj;exact⟨b,hb⟩⟩
    |false=>
     rw[hfl]at h
     simp only[cond_false,acQ]at h
     obtain⟨q,hq',rfl⟩:=h
     have hl:=arH (k3 hfl)
     rw[if_pos ⟨hq.1,hq.2.1,by rw[hl];exact hq.2.2⟩]
     obtain⟨R',e1,e2,z1⟩:=aCA (f':=rd d g') (k3 hfl) hq' (fun x' x q h1 h2=>IH 8 x' x q h1 h2)
     exact⟨i::R',by simp[e1],by simp[e2],fun j hj=>(atT.1 hj).elim (fun e=>e▸⟨b,hb⟩) (z1 j)⟩
   ·cases h
  |agg cs=>
   simp only[aoH,acQ]at hx
   obtain⟨cs',hcs,rfl⟩:=hx
   simp only[rd,acQ]at h
   obtain⟨q,hq,rfl⟩:=h
   obtain⟨R',e1,e2,z1⟩:=azA (f':=rd d g') hcs hq (fun x' x q h1 h2=>IH e x' x q h1 h2)
   exact⟨R',by simp[rd,e1],e2,z1⟩
  |iface t y=>
   simp only[aoH,acQ]at hx
   obtain⟨y',hy,rfl⟩:=hx
   simp only[rd,acQ]at h
   obtain⟨q,hq,rfl⟩:=h
   obtain⟨R',e1,e2,z1⟩:=IH e _ _ q hy hq
   exact⟨R',by simp[rd,e1],e2,z1⟩
  |func fn a b=>
   simp only[aoH,aeG,acQ]at hx
   obtain⟨a1,ha,b1,hb,rfl⟩:=hx
   have la:=arH ha
   have lb:=arH hb
   cases a1 with
   |cons=>simp[rd]at h
   |nil=>
    cases b1 with
    |cons=>simp[rd]at h
    |nil=>
     simp at la lb
     obtain rfl:=la
     obtain rfl:=lb
     simp[rd]at h;subst h
     exact⟨[],rfl,rfl,fun i h=>by cases h⟩
  |ptr b r o=>
   simp only[aoH,acQ]at hx
   obtain⟨b,hb,rfl⟩:=hx
   simp[rd]at h
  |tup cs=>
   simp only[aoH,acQ]at hx
   obtain⟨b,hb,rfl⟩:=hx
   simp[rd]at h
  |yl b=>
   simp only[aoH,acQ]at hx
   obtain⟨b,hb,rfl⟩:=hx
   simp[rd]at h
  |mapr b=>
   simp only[aoH,acQ]at hx
   obtain⟨b,hb,rfl⟩:=hx
   simp[rd]at h
  |imm=>simp[aoH]at hx;subst hx;simp[rd]at h
  |iptr=>simp[aoH]at hx;subst hx;simp[rd]at h
  |_=>simp[aoH]at hx;subst hx;simp[rd]at h;subst h;exact⟨[],rfl,rfl,fun i h=>by cases h⟩
end
noncomputable section
open Go.RowKit
section
variable {P:Program} {O:Orc} {pr:ap6}
def fnS(P:Program)(rs:List ResultVar)(x:R):Option (Out × aaP):=
 match x with
 |some (.normal,s)|some (.ret,s)=>(auS P s rs).map fun vs=>(.ret (asW vs),s.h)
 |some (.pan v,s)=>some (.pan v,s.h)
 |_=>none
theorem aZW{f:Nat}{fn:Func}(hf:P.funcs[f]?=some fn){c:Code}(hb:fn.body=some c){args:List AV}(hl:args.length≤fn.ntmps)(h:aaP):
 evS O P f args h=fnS P fn.results.toList (evM O P aq5 c [] ⟨mk fn.ntmps (ent args),h⟩):=by
 unfold evS
 simp only[hf,hb]
 rw[aR3 _ _ hl]
 cases evM O P aq5 c [] ⟨mk fn.ntmps (ent args),h⟩with
 |none=>rfl
 |some x=>
  obtain⟨e,s⟩:=x
  cases e<;>rfl
def FnS(P:Program)(rs:List ResultVar)(Q:Out→aaP→Prop)(x:R):Prop:=∃o h,fnS P rs x=some (o,h)∧Q o h
def RtS(vs:Option (List AV))(h:aaP)(Q:Out→aaP→Prop):Prop:=
 match vs with
 |some vs=>Q (.ret (asW vs)) h
 |none=>False
theorem aGV(rs:List ResultVar)(Q:Out→aaP→Prop)(t:List AV)(h:aaP):FnS P rs Q (some (.ret,⟨t,h⟩))=RtS (auS P ⟨t,h⟩ rs) h Q:=by
 cases hr:auS P ⟨t,h⟩ rs with
 |none=>simp[FnS,fnS,RtS,hr]
 |some vs=>
  have e:fnS P rs (some (.ret,⟨t,h⟩))=some (.ret (asW vs),h):=by simp[fnS,hr]
  exact propext (Iff.intro (fun⟨o,h',e',q⟩=>by rw[e]at e';cases e';exact q) (fun q=>⟨_,_,e,q⟩))
theorem aSI(vs:List AV)(h:aaP)(Q:Out→aaP→Prop):RtS (some vs) h Q=Q (.ret (asW vs)) h:=alV rfl rfl
theorem aSF{rs:List ResultVar}{Q:Out→aaP→Prop}:¬FnS P rs Q none:=fun⟨_,_,h,_⟩=>by simp[fnS]at h
def ShQ(O:Orc)(f:Nat)(args:List AV)(h:aaP)(Q:Out→aaP→Prop):Prop:=∃o h',O.call (.sh f) args h=some (o,h')∧Q o h'
theorem ShQ.start{f:Nat}{fn:Func}{c:Code}{args:List AV}{h:aaP}{Q:Out→aaP→Prop}(hp:pr f=none)(hf:P.funcs[f]?=some fn)(hb:fn.body=some c)(hl:Nat.ble args.length fn.ntmps=true)
 (he:FnS P fn.results.toList Q (evM (om P pr) P 5000 c [] ⟨mk fn.ntmps (ent args),h⟩)):ShQ (om P pr) f args h Q:=by
 obtain⟨o,h',e,q⟩:=he
 exact⟨o,h',aZG hp ((aZW hf hb (Nat.le_of_ble_eq_true hl) h).trans e),q⟩
theorem ShQ.eq{f:Nat}{args:List AV}{h:aaP}{o:Out}{h':aaP}(k:ShQ O f args h fun o1 h1=>(o1,h1)=(o,h')):O.call (.sh f) args h=some (o,h'):=by
 obtain⟨o1,h1,e,q⟩:=k
 rw[e,q]
def ncK(x:Option AV):OE:=
 match x with
 |some (.ptr b r o)=>some (.ret (.ptr b r o),[])
 |some (.iptr cs)=>some (.ret (.iptr cs),[])
 |some (.func (.func f) a c)=>some (.ret (.func (.func f) a c),[])
 |_=>none
theorem a01(b r o:Nat):ncK (some (.ptr b r o))=some (.ret (.ptr b r o),[]):=alV rfl rfl
theorem a5C(t:List AV)(h:aaP)(x:Operand):aoA O P t h (.nilCheck x)=ncK (acR t x):=by
 rw[an0 _ _ _ rfl]
 simp only[exec,ncK]
 cases acR t x with
 |none=>rfl
 |some v=>
  cases v with
  |func fn a c=>cases fn<;>rfl
  |_=>rfl
theorem a5D(t:List AV)(h:aaP)(x:Operand):ftA O P t h (.nilCheck x)=some []:=alV rfl rfl
end
def EVq:=PLift.up (ahB @aGV (ahB @aSI (ahB @a01 (ahB @a5C @a5D))))
end
noncomputable section
open Go.RowKit
section
variable {P:Program} {O:Orc}
end
def aEQ(k st:Nat)(fl:Bool)(rows:List (List AV))(v:AV)(g:aaP):Prop:=
 (rows=[]∧v=.nils)∨∃b w,v=.slr st (b+k) 0 rows.length∧g[b]?=some (.live st fl w rows)
def kl(k:Nat)(v:AV)(g:aaP):aaP:=
 match v with
 | .slr _ b _ _=>g.set (b-k) .dead
 |_=>g
theorem aEQ.app{k st:Nat}{fl:Bool}{rows:List (List AV)}{v:AV}{g:aaP}(h:aEQ k st fl rows v g)(l:aaP):aEQ k st fl rows v (g++l):=by
 rcases h with h|⟨b,w,h1,h2⟩
 ·exact .inl h
 ·exact .inr ⟨b,w,h1,by rw[auJ (aoG.1 h2).1];exact h2⟩
theorem arR(k:Nat)(v:AV)(g:aaP):(kl k v g).length=g.length:=by
 unfold kl;split<;>simp
theorem aOQ{k:Nat}{v:AV}{g:aaP}(h:ajX g=true):ajX (kl k v g)=true:=by
 unfold kl
 split
 ·simp only[ajX,apD]at h ⊢
  intro c hc
  rcases azS hc with h1|rfl
  ·exact h c h1
  ·rfl
 ·exact h
def apE(v:AV)(st:Nat)(fl:Bool)(rows:List (List AV))(base:Nat):List acP:=
 match v with
 | .slr _ b _ _=>[.put b .dead,.new base (.live st fl false rows)]
 |_=>[.new base (.live st fl false rows)]
theorem aYG{k n:Nat}{fl:Bool}{rows:List (List AV)}{v:AV}{g:aaP}(ho:aEQ k n fl rows v g){pre:aaP}(hk:pre.length=k)(l:aaP)(r:List AV)(new:List (List AV))(hl:rows.length+(new.length+1)≤549755813888):
 apK n (pre++(g++l)) (some v) (some (fl,r::new))=some (.ret (.slr n (pre++(g++l)).length 0 (rows.length+(r::new).length)),apE v n fl (rows++r::new) (pre++(g++l)).length):=by
 rcases ho with⟨rfl,rfl⟩|⟨b,w,rfl,h2⟩
 ·rw[aLP,if_pos (by simp at hl ⊢;omega)]
  simp[apE]
 ·have hb:=(aoG.1 h2).1
  have hq:(pre++(g++l))[b+k]?=some (.live n fl w rows):=by
   rw[av7 (by omega),auJ (by omega)]
   rw[show b+k-pre.length=b by omega];exact h2
  rw[aLD,hq,aJW,if_pos ⟨rfl,by omega,by simp only[avI];omega⟩]
  simp[apE]
theorem aTW{k n:Nat}{fl:Bool}{rows:List (List AV)}{v:AV}{g:aaP}(ho:aEQ k n fl rows v g){pre:aaP}(hk:pre.length=k)(l:aaP)(st:Nat)(fl':Bool)(rows':List (List AV))(base:Nat):
 alZ (pre++(g++l)) (apE v st fl' rows' base)=pre++(kl k v g++(l++[.live st fl' false rows'])):=by
 rcases ho with⟨rfl,rfl⟩|⟨b,w,rfl,h2⟩
 ·simp[apE,alZ,ar6,kl]
 ·have hb:=(aoG.1 h2).1
  simp only[apE,alZ,ar6,kl,Nat.add_sub_cancel]
  rw[List.set_append_right _ _ (by omega),show b+k-pre.length=b by omega,List.set_append_left _ _ hb]
  simp
def pkd(O:Orc)(f:Nat)(args:List AV):Prop:=hdR args=true→(aCC args||O.md f)=false
theorem awP{O:Orc}{f:Nat}{args:List AV}(h:hdR args=false):pkd O f args:=fun k=>by rw[h]at k;cases k
theorem aDJ{O:Orc}{h:aaP}{f:Nat}{args:List AV}(hd:pkd O f args):cl O h (some (.func (.func f) [] [])) (some args)=cr (an1 O (hf h) h.length (.fn f) args):=by
 rw[aMP]
 simp only[auT,atY]
 split
 ·rename_i hh
  unfold shC
  rw[hd hh];simp only[Bool.false_eq_true,if_false]
 ·rfl
theorem aEQ.ln{P:Program}{k st:Nat}{fl:Bool}{rows:List (List AV)}{v:AV}{g:aaP}(h:aEQ k st fl rows v g){ty e:TypeId}(hu:P.underlying ty=some (.slice e)):ln P ty (some v)=some (.ret (.int .i64 rows.length),[]):=by
 rcases h with⟨rfl,rfl⟩|⟨b,w,rfl,_⟩
 ·simp[Ev.ln,az0,hu,r1]
 ·simp[Ev.ln,az0,hu,r1]
def a0A(a:Int)(i:Nat):Int:=a.fdiv (2 ^ (min i 64))
def a5R(a:Int):Int:=IntKind.i64.wrap ((BitVec.ofInt 64 a&&&BitVec.ofInt 64 1).toNat:Int)
def aTF(n:Nat):Int:=IntKind.i64.wrap (1*2 ^ (min n 64))
section
variable {P:Program} (ty:TypeId)
theorem aZY(a:Int)(i:Nat):ao1 P .shr ty (.int .i64 a) (.int .i64 (i:Int))=some (.int .i64 (a0A a i)):=by
 simp[ao1,a0A,IntKind.bits]
theorem a12(a:Int):ao1 P .and ty (.int .i64 a) (.int .i64 1)=some (.int .i64 (a5R a)):=by
 show(if IntKind.i64=IntKind.i64 then aqA .and .i64 a 1 else none)=_
 rw[if_pos rfl];rfl
theorem a2V(n:Nat):ao1 P .shl ty (.int .i64 1) (.int .i64 (n:Int))=some (.int .i64 (aTF n)):=by
 simp[ao1,aTF,IntKind.bits]
end
def EVr:=PLift.up (ahB @aZY (ahB @a12 @a2V))
end
noncomputable section
open Go.RowKit
section
variable {P:Program} {O:Orc} {pr:ap6}
def a3A(r:Bool)(x:Option aaP):Option (Out × aaP):=x.map fun h2=>(.ret (.bool r),h2)
def a55(b:Nat)(x:R):Option (Out × aaP):=
 match x with
 |some (.normal,s)=>a3A true (aBD s.h b LSt.isBusy .ready)
 |some (.ret,s)=>a3A false (aBD s.h b LSt.isBusy (.done .ret))
 |some (.exit i,s)=>a3A false (aBD s.h b LSt.isBusy (.done (.exit i)))
 |_=>none
def RnE(b:Nat)(Q:Out→aaP→Prop)(x:R):Prop:=∃o h',a55 b x=some (o,h')∧Q o h'
theorem aWY(h:aaP)(f:Nat)(args:List AV):aKO O h f args=if(aCC args||O.md f)=true then some [.all]else ftR h args:=alV rfl rfl
theorem aSV{b:Nat}{Q:Out→aaP→Prop}:¬RnE b Q none:=fun⟨_,_,h,_⟩=>by simp[a55]at h
end
def mfF(f:Nat→Nat):ak8→ak8
 | .cells b o n=>.cells (f b) o n
 | .blk b=>.blk (f b)
 | .all=>.all
def lgF(f:Nat→Nat)(log:Log):List (List ak8 × List ak8):=log.map fun x=>(x.1.map fun e=>mfF f e.foot,x.2.map (mfF f))
def aGL(x y:List ak8 × List ak8):Bool:=x.1.any (fun f=>(y.1++y.2).any f.meets)||y.1.any (fun f=>x.2.any f.meets)
def aFO(ops:List Oper)(lg:List (List ak8 × List ak8)):Bool:=
 (aBK ops).all fun(i,j)=>match lg[i]?,lg[j]? with
   |some x,some y=> !aGL x y
   |_,_=>false
def aCE(n q:Nat)(b:Nat):Nat:=if b<q then b else b-n+1000
theorem aB4{n q b:Nat}(h:b<q):aCE n q b=b:=by simp[aCE,h]
theorem aCV(f:Nat→Nat)(x y:ak8)(h:x.meets y=true):(mfF f x).meets (mfF f y)=true:=by
 cases x<;>cases y<;>simp_all[ak8.meets,mfF]
theorem aTK(f:Nat→Nat)(x y:List acP × List ak8)(h:ar9 x y=true):aGL (x.1.map fun e=>mfF f e.foot,x.2.map (mfF f)) (y.1.map fun e=>mfF f e.foot,y.2.map (mfF f))=true:=by
 simp only[ar9,aGL,azT,azU,aoU,auW]at h ⊢
 rcases h with⟨a,⟨e,he,rfl⟩,b,hb,hm⟩|⟨a,⟨e,he,rfl⟩,b,hb,hm⟩
 ·refine .inl ⟨_,⟨e,he,rfl⟩,mfF f b,?_,aCV f _ _ hm⟩
  rcases hb with⟨e',he',rfl⟩|hb
  ·exact .inl ⟨e',he',rfl⟩
  ·exact .inr ⟨b,hb,rfl⟩
 ·exact .inr ⟨_,⟨e,he,rfl⟩,mfF f b,⟨b,hb,rfl⟩,aCV f _ _ hm⟩
theorem aWG(f:Nat→Nat){ops:List Oper}{log:Log}(h:aFO ops (lgF f log)=true):an7 ops log=true:=by
 simp only[aFO,an7,apD]at h ⊢
 rintro⟨i,j⟩ hij
 have:=h (i,j) hij
 simp only[lgF,List.getElem?_map]at this ⊢
 cases hi:log[i]? with
 |none=>simp[hi]at this
 |some x=>
  cases hj:log[j]? with
  |none=>simp[hi,hj]at this
  |some y=>
   simp only[hi,hj,arI,az1,aAQ]at this ⊢
   cases hc:ar9 x y with
   |false=>rfl
   |true=>rw[aTK f x y hc]at this;cases this
theorem aGB(n q:Nat){C:R→Prop}{ops:List Oper}{log:Log}{k:R}(hb:aFO ops (lgF (aCE n q) log)=true)(h:True→C k):C (apH (an7 ops log) k):=aTH (aWG _ hb) h
theorem aGR(f:Nat→Nat):lgF f []=[]:=alV rfl rfl
theorem aB0(f:Nat→Nat)(x:List acP)(y:List ak8)(l:Log):lgF f ((x,y)::l)=(x.map (fun e=>mfF f e.foot),y.map (mfF f))::lgF f l:=alV rfl rfl
theorem aw4(f:Nat→Nat)(b o n:Nat):mfF f (.cells b o n)=.cells (f b) o n:=alV rfl rfl
theorem aAD(f:Nat→Nat)(b:Nat):mfF f (.blk b)=.blk (f b):=alV rfl rfl
theorem aC6(b:Nat)(c:CB):acP.foot (.new b c)=.blk b:=alV rfl rfl
theorem azJ(b r o:Nat)(vs:List AV):acP.foot (.cells b r o vs)=.cells b o vs.length:=alV rfl rfl
section
variable {P:Program} {O:Orc}
theorem aHN(t:List AV)(h:aaP)(ty:TypeId)(x i:Operand):aoA O P t h (.index ty x i)=r1 ((acR t x).bind fun x=>(acR t i).bind fun i=>awF P ty x i):=by
 rw[an0 _ _ _ rfl]
 simp only[exec]
 cases acR t x with
 |none=>rfl
 |some a=>
  cases acR t i with
  |none=>rfl
  |some b=>exact apB _
end
def EVs:=PLift.up (ahB @aHN @aHN)
end
noncomputable section
open Go.RowKit
set_option maxRecDepth 100000
def EVZ:=PLift.up (ahB EVa.down (ahB EVb.down (ahB EVc.down (ahB EVd.down (ahB EVe.down (ahB EVf.down (ahB EVg.down (ahB EVh.down (ahB EVi.down (ahB EVj.down (ahB EVk.down (ahB EVl.down (ahB EVm.down (ahB EVn.down (ahB EVo.down EVq.down)))))))))))))))
section
variable {P:Program} {O:Orc}
class NoN(C:R→Prop):Prop where
 no:¬C none
instance{q:Nat}{rs:List ResultVar}{Q:Out→aaP→Prop}:NoN (FnE P q rs Q):=⟨aT2⟩
instance{rs:List ResultVar}{Q:Out→aaP→Prop}:NoN (FnS P rs Q):=⟨aSF⟩
instance{N:Nat}{J:Tm→aaP→Prop}{Q:Ex→St→Prop}:NoN (Rnd N J Q):=⟨aSE⟩
instance{b:Nat}{Q:Out→aaP→Prop}:NoN (RnE b Q):=⟨aSV⟩
end
end
noncomputable section
open Go.RowKit
set_option maxRecDepth 100000
section
variable {P:Program} {O:Orc}
class Spl(r:R)(b:outParam Bool)(x y:outParam R):Prop where
 sp:∀{C:R→Prop},(b=true→C x)→(b=false→C y)→C r
instance{n:Nat}{k:List af2}{d:Option Nat}{op:Op}{cs:List CO}{b w:Bool}{t:List AV}{h:aaP}:Spl (rcG O P n k d op cs (.bool b) w t h) b (rcG O P n k d op cs (.bool true) w t h) (rcG O P n k d op cs (.bool false) w t h):=⟨a5F⟩
instance{n:Nat}{x y:Code}{k:List af2}{g:Bool}{s:St}:Spl (cdK O P n x y k (some (.bool g)) s) g (evM O P n x k s) (evM O P n y k s):=⟨a5T⟩
instance{n:Nat}{k:List af2}{d:Option Nat}{op:Op}{cs:List CO}{b w:Bool}{t:List AV}{h:aaP}:Spl (rqG O P n k d op cs (.bool b) w t h) b (rqG O P n k d op cs (.bool true) w t h) (rqG O P n k d op cs (.bool false) w t h):=⟨a6D⟩
instance{n:Nat}{k:List af2}{d:Option Nat}{op:Op}{cs:List CO}{b w:Bool}{t:List AV}{h:aaP}:Spl (rwG O P n k d op cs (.bool b) w t h) b (rwG O P n k d op cs (.bool true) w t h) (rwG O P n k d op cs (.bool false) w t h):=⟨a5G⟩
instance{n:Nat}{k:List af2}{ops:List Oper}{d:Option Nat}{op:Op}{cs:List CO}{b w:Bool}{t:List AV}{h:aaP}{log:Log}:Spl (rlG O P n k ops d op cs (.bool b) w t h log) b (rlG O P n k ops d op cs (.bool true) w t h log) (rlG O P n k ops d op cs (.bool false) w t h log):=⟨a6M⟩
theorem fsp{C:R→Prop}{r x y:R}{b:Bool}(h1:b=true→C x)(h2:b=false→C y)(s:Spl r b x y:=by infer_instance):C r:=s.sp h1 h2
class Drw(i:Nat)(r:R)(c:outParam Bool)(r':outParam R):Prop where
 dr:∀{C:R→Prop},¬C none→c=true→C r'→C r
instance{b:Bool}{k:R}:Drw 0 (apH b k) b k:=⟨fun _=>aYY⟩
instance{n id:Nat}{ops:Array Oper}{k:List af2}{t:List AV}{h:aaP}:Drw 1 (evM O P (n+1) (.region id ops true) k ⟨t,h⟩) (asC ops.toList&&aMU ops.toList) (rw O P n k (ops.toList.map (ap0 ops.toList)) t h):=⟨fun h=>a4H h⟩
instance{n id:Nat}{ops:Array Oper}{k:List af2}{t:List AV}{h:aaP}:Drw 2 (evM O P (n+1) (.region id ops true) k ⟨t,h⟩) (asC ops.toList&&a54 ops.toList) (rq O P n k (ops.toList.map (ap0 ops.toList)) t h):=⟨fun h=>a4O h⟩
instance{n id:Nat}{ops:Array Oper}{k:List af2}{t:List AV}{h:aaP}:Drw 3 (evM O P (n+1) (.region id ops true) k ⟨t,h⟩) (asC ops.toList) (rl O P n k ops.toList (ops.toList.map (ap0 ops.toList)) t h []):=⟨fun h=>a5A h⟩
structure Dw(r r':R):Prop where
 dr:∀{C:R→Prop},¬C none→C r'→C r
theorem dg{r r':R}{c:Bool}[d:Drw 0 r c r'](h:c=true:=by kernel_rfl):Dw r r':=⟨fun n k=>d.dr n h k⟩
theorem dw(i:Nat){r r':R}{c:Bool}[d:Drw i r c r'](h:c=true:=by decide+kernel):Dw r r':=⟨fun n k=>d.dr n h k⟩
theorem fd{C:R→Prop}{r r':R}[n:NoN C](k:C r')(e:Dw r r':=by first|exact dg|exact dw 1|exact dw 2|exact dw 3):C r:=e.dr n.no k
theorem fdq{C:R→Prop}{r r':R}[n:NoN C](k:C r')(e:Dw r r':=by first|exact dw 1|exact dw 2|exact dw 3):C r:=e.dr n.no k
end
section
variable {P:Program} {O:Orc}
def Un(O:Orc)(P:Program)(n:Nat)(k:List af2)(c:Code)(C:R→Prop):R→Prop
 |some (.normal,s)=>C (lpK O P n k (O.loop c s))
 |some (e,s)=>C (alN (evM O P n) k e s)
 |none=>False
theorem aP8(n:Nat)(k:List af2)(c:Code)(C:R→Prop)(s:St):Un O P n k c C (some (.normal,s))=C (lpK O P n k (O.loop c s)):=alV rfl rfl
theorem aWC(n:Nat)(k:List af2)(c:Code)(C:R→Prop)(i:Nat)(s:St):Un O P n k c C (some (.exit i,s))=C (alN (evM O P n) k (.exit i) s):=alV rfl rfl
theorem a21(n:Nat)(k:List af2)(c:Code)(C:R→Prop)(s:St):Un O P n k c C (some (.ret,s))=C (alN (evM O P n) k .ret s):=alV rfl rfl
instance{n:Nat}{k:List af2}{c:Code}{C:R→Prop}:NoN (Un O P n k c C):=⟨fun h=>h⟩
theorem a41{pr:ap6}{C:R→Prop}[N:NoN C]{n:Nat}{k:List af2}{c:Code}{s:St}(h:Un (om P pr) P n k c C (evM (om P pr) P 5000 c [] s)):C (lpK (om P pr) P n k ((om P pr).loop c s)):=by
 cases hm:evM (om P pr) P 5000 c [] s with
 |none=>rw[hm]at h;exact h.elim
 |some x=>
  obtain⟨e,s'⟩:=x
  rw[hm]at h
  cases e with
  |normal=>
   replace h:C (lpK (om P pr) P n k ((om P pr).loop c s')):=h
   cases hl:(om P pr).loop c s' with
   |none=>rw[hl]at h;exact(N.no h).elim
   |some y=>
    obtain⟨e,s''⟩:=y
    rw[hl]at h
    rw[av3 hm hl];exact h
  |exit i=>rw[apW hm (by simp)];exact h
  |ret=>rw[apW hm (by simp)];exact h
  |pan v=>rw[apW hm (by simp)];exact h
end
theorem aS8:IntKind.i64.wrap 1=1:=alV rfl rfl
def EE:=PLift.up (ahB EVZ.down (ahB @aS8 (ahB @aP8 (ahB @aWC (ahB @a21 (ahB @ap0.eq_1 (ahB @acR.eq_1 (ahB @acR.eq_2 (ahB @acR.eq_4 (ahB @alE.eq_1 (ahB @alE.eq_2 (ahB @aE0.eq_3 (ahB @axS.eq_1 (ahB @axS.eq_2 (ahB @axS.eq_3 (ahB @axS.eq_4 (ahB @axS.eq_5 (ahB @alZ.eq_1 (ahB @alZ.eq_2 (ahB @ar6.eq_1 (ahB @ar6.eq_2 (ahB @ar6.eq_3 (ahB @aq4.eq_1 (ahB @alK.eq_1 (ahB @bsK.eq_1 (ahB @asW.eq_1 (ahB @asW.eq_2 (ahB @decide_true @decide_false))))))))))))))))))))))))))))
def EF:=PLift.up (ahB EE.down EVr.down)
def EG:=PLift.up (ahB EF.down EVs.down)
end
noncomputable section
open Go.RowKit
def On(m:List Nat)(F:Nat→Option Nat):Prop:=∀i b,m[i]?=some b→F i=some b
theorem On.mono{m m':List Nat}{F:Nat→Option Nat}(h:On m' F)(hp:m <+:m'):On m F:=fun _ _ hi=>h _ _ (aqQ hp hi)
structure Gd(m m' R:List Nat):Prop where
 pre:m <+:m'
 nd:m.Nodup→m'.Nodup
 sub:∀b∈m',b∈m∨b∈R
theorem Gd.refl(m R:List Nat):Gd m m R:=⟨av8 _,id,fun _ h=>.inl h⟩
theorem Gd.trans{m m1 m2 R1 R2 R:List Nat}(h1:Gd m m1 R1)(h2:Gd m1 m2 R2)(k1:∀b∈R1,b∈R)(k2:∀b∈R2,b∈R):Gd m m2 R:=
 ⟨h1.pre.trans h2.pre,fun h=>h2.nd (h1.nd h),fun b hb=>(h2.sub b hb).elim (fun h=>(h1.sub b h).imp id (k1 b)) (fun h=>.inr (k2 b h))⟩
theorem aJS(m:List Nat)(b:Nat){R:List Nat}(hb:b∈R):Gd m (place m b).2 R:=by
 refine⟨(aqT m b).2.1,(aqT m b).2.2,fun x hx=>?_⟩
 unfold place at hx
 split at hx
 ·exact .inl hx
 ·rcases aoU.1 hx with h|h
  ·exact .inl h
  ·simp at h;subst h;exact .inr hb
def Sp(e:Nat)(x:AV)(R:List Nat):Prop:=∀m,∃x' m',alF e m x=some (x',m')∧Gd m m' R∧∀F,On m' F→aoH e F x'=some x
def SpL(e:Nat)(l:List AV)(R:List Nat):Prop:=∀m,∃l' m',alF.refL (alF e) m l=some (l',m')∧Gd m m' R∧∀F,On m' F→afG (aoH e F) l'=some l
def SpR(l:List (List AV))(R:List Nat):Prop:=∀m,∃l' m',ao3 m l=some (l',m')∧Gd m m' R∧∀F,On m' F→afG (afG (aoH 8 F)) l'=some l
theorem spL{f:AV→Option (AV × List Nat)}{e:Nat}:∀{l:List AV} {p:List AV × List Nat},rdL f l=some p→(∀x∈l,∀q,f x=some q→Sp e x q.2)→SpL e l p.2
 | [],p,h,_=>fun m=>⟨[],m,rfl,Gd.refl _ _,fun _ _=>rfl⟩
 |a::l,p,h,hf=>fun m=>by
  simp only[rdL,aeG,acQ]at h
  obtain⟨q,hq,r,hr,rfl⟩:=h
  obtain⟨x',m1,e1,g1,k1⟩:=hf a (aoD ..) q hq m
  obtain⟨l',m2,e2,g2,k2⟩:=spL hr (fun x hx=>hf x (am7 _ hx)) m1
  refine⟨x'::l',m2,by simp[alF.refL,e1,e2],g1.trans g2 (fun _ h=>ap1 _ h) (fun _ h=>aq0 _ h),fun F hF=>?_⟩
  simp[afG,k1 F (hF.mono g2.pre),k2 F hF]
theorem spR{f:AV→Option (AV × List Nat)}:∀{l:List (List AV)} {p:List (List AV) × List Nat},alA f l=some p→(∀r∈l,∀x∈r,∀q,f x=some q→Sp 8 x q.2)→SpR l p.2
 | [],p,h,_=>fun m=>⟨[],m,rfl,Gd.refl _ _,fun _ _=>rfl⟩
 |a::l,p,h,hf=>fun m=>by
  simp only[alA,aeG,acQ]at h
  obtain⟨q,hq,r,hr,rfl⟩:=h
  obtain⟨x',m1,e1,g1,k1⟩:=spL hq (hf a (aoD ..)) m
  obtain⟨l',m2,e2,g2,k2⟩:=spR hr (fun x hx=>hf x (am7 _ hx)) m1
  refine⟨x'::l',m2,by simp[ao3,e1,e2],g1.trans g2 (fun _ h=>ap1 _ h) (fun _ h=>aq0 _ h),fun F hF=>?_⟩
  simp[afG,k1 F (hF.mono g2.pre),k2 F hF]
theorem sp{g:HF}:∀{d e:Nat} {v:AV} {p:AV × List Nat},d≤e→rd d g v=some p→Sp e v p.2
 |0,e,v,p,_,h=>by simp[rd]at h
 |d+1,0,v,p,he,h=>by omega
 |d+1,e+1,v,p,he,h=>by
  have IH:∀x q,rd d g x=some q→Sp e x q.2:=fun x q hx=>sp (by omega) hx
  intro m
  cases v with
  |slr st b r len=>
   simp only[rd,aeG]at h
   obtain⟨z,_,h⟩:=h
   split at h
   ·have hb:b∈p.2:=by
     cases hfl:z.2.1 with
     |true=>rw[hfl]at h;simp at h;rw[←h];simp
     |false=>rw[hfl]at h;simp only[cond_false,acQ]at h;obtain⟨q,_,rfl⟩:=h;simp
    exact⟨_,_,rfl,aJS m b hb,fun F hF=>by simp[aoH,hF _ _ (aqT m b).1]⟩
   ·cases h
  |agg cs=>
   simp only[rd,acQ]at h
   obtain⟨q,hq,rfl⟩:=h
   obtain⟨l',m1,e1,g1,k1⟩:=spL hq (fun x _=>IH x) m
   exact⟨.agg l',m1,by simp[alF,e1],g1,fun F hF=>by simp[aoH,k1 F hF]⟩
  |iface t x=>
   simp only[rd,acQ]at h
   obtain⟨q,hq,rfl⟩:=h
   obtain⟨l',m1,e1,g1,k1⟩:=IH x q hq m
   exact⟨.iface t l',m1,by simp[alF,e1],g1,fun F hF=>by simp[aoH,k1 F hF]⟩
  |func fn a b=>
   cases a with
   |cons=>simp[rd]at h
   |nil=>
    cases b with
    |cons=>simp[rd]at h
    |nil=>exact⟨_,m,rfl,Gd.refl _ _,fun _ _=>rfl⟩
  |ptr b r o=>simp[rd]at h
  |tup cs=>simp[rd]at h
  |yl b=>simp[rd]at h
  |mapr b=>simp[rd]at h
  |imm=>simp[rd]at h
  |iptr=>simp[rd]at h
  |_=>exact⟨_,m,rfl,Gd.refl _ _,fun _ _=>rfl⟩
def Cl(g:HF)(S:List Nat):Prop:=∀b∈S,∃z,(g b).bind agI=some z∧(z.2.1=false→∃d q,d≤8∧alA (rd d g) z.2.2=some q∧∀x∈q.2,x∈S)
theorem Cl.nil(g:HF):Cl g []:=fun _ h=>by cases h
theorem Cl.app{g:HF}{S T:List Nat}(h1:Cl g S)(h2:Cl g T):Cl g (S++T):=fun b hb=>by
 rcases aoU.1 hb with h|h
 ·obtain⟨z,k1,k2⟩:=h1 b h
  exact⟨z,k1,fun e=>by obtain⟨d,q,a1,a2,a3⟩:=k2 e;exact⟨d,q,a1,a2,fun x hx=>ap1 _ (a3 x hx)⟩⟩
 ·obtain⟨z,k1,k2⟩:=h2 b h
  exact⟨z,k1,fun e=>by obtain⟨d,q,a1,a2,a3⟩:=k2 e;exact⟨d,q,a1,a2,fun x hx=>aq0 _ (a3 x hx)⟩⟩
theorem clL{g:HF}{f:AV→Option (AV × List Nat)}:∀{l:List AV} {p:List AV × List Nat},rdL f l=some p→(∀x∈l,∀q,f x=some q→Cl g q.2)→Cl g p.2
 | [],p,h,_=>by simp[rdL]at h;subst h;exact Cl.nil g
 |a::l,p,h,hf=>by
  simp only[rdL,aeG,acQ]at h
  obtain⟨q,hq,r,hr,rfl⟩:=h
  exact(hf a (aoD ..) q hq).app (clL hr fun x hx=>hf x (am7 _ hx))
theorem clR{g:HF}{f:AV→Option (AV × List Nat)}:∀{l:List (List AV)} {p:List (List AV) × List Nat},alA f l=some p→(∀r∈l,∀x∈r,∀q,f x=some q→Cl g q.2)→Cl g p.2
 | [],p,h,_=>by simp[alA]at h;subst h;exact Cl.nil g
 |a::l,p,h,hf=>by
  simp only[alA,aeG,acQ]at h
  obtain⟨q,hq,r,hr,rfl⟩:=h
  exact(clL hq (hf a (aoD ..))).app (clR hr fun x hx=>hf x (am7 _ hx))
theorem aD4{g:HF}:∀{d:Nat} {v:AV} {p:AV × List Nat},d≤9→rd d g v=some p→Cl g p.2
 |0,v,p,_,h=>by simp[rd]at h
 |d+1,v,p,hd,h=>by
  have IH:∀x q,rd d g x=some q→Cl g q.2:=fun x q hx=>aD4 (by omega) hx
  cases v with
  |slr st b r len=>
   simp only[rd,aeG]at h
   obtain⟨z,hz,h⟩:=h
   have hz':(g b).bind agI=some z:=aeG.2 hz
   split at h
   ·cases hfl:z.2.1 with
    |true=>
     rw[hfl]at h;simp at h;rw[←h]
     intro b' hb'
     simp at hb';subst hb'
     exact⟨z,hz',fun e=>by rw[hfl]at e;cases e⟩
    |false=>
     rw[hfl]at h;simp only[cond_false,acQ]at h
     obtain⟨q,hq,rfl⟩:=h
     intro b' hb'
     rcases atT.1 hb' with rfl|hb'
     ·exact⟨z,hz',fun _=>⟨d,q,by omega,hq,fun x hx=>am7 _ hx⟩⟩
     ·obtain⟨z',k1,k2⟩:=clR hq (fun r _ x _=>IH x) b' hb'
      exact⟨z',k1,fun e=>by obtain⟨d',q',a1,a2,a3⟩:=k2 e;exact⟨d',q',a1,a2,fun x hx=>am7 _ (a3 x hx)⟩⟩
   ·cases h
  |agg cs=>
   simp only[rd,acQ]at h
   obtain⟨q,hq,rfl⟩:=h
   exact clL hq fun x _=>IH x
  |iface t x=>
   simp only[rd,acQ]at h
   obtain⟨q,hq,rfl⟩:=h
   exact IH x q hq
  |func fn a b=>
   cases a<;>cases b<;>first|(simp[rd]at h;subst h;exact Cl.nil g)|(simp[rd]at h)
  |_=>first|(simp[rd]at h;subst h;exact Cl.nil g)|(simp[rd]at h)
theorem aAG{F:Nat→Option Nat}(f:Nat→Nat):∀{e:Nat} {x' x:AV},aoH e F x'=some x→∃y,alC e f x'=some y
 |0,x',x,h=>by simp[aoH]at h
 |e+1,x',x,h=>by
  have L:∀{l l1:List AV},afG (aoH e F) l=some l1→∃y,afG (alC e f) l=some y:=fun {l}=>by
   induction l with
   |nil=>exact fun _=>⟨[],rfl⟩
   |cons a l ih=>
    intro l1 h
    simp only[afG,aeG,acQ]at h
    obtain⟨b,hb,c,hc,_⟩:=h
    obtain⟨y,hy⟩:=aAG f hb
    obtain⟨ys,hys⟩:=ih hc
    exact⟨y::ys,by simp[afG,hy,hys]⟩
  cases x' with
  |agg cs=>simp only[aoH,acQ]at h;obtain⟨_,h,_⟩:=h;obtain⟨y,hy⟩:=L h;exact⟨.agg y,by simp[alC,hy]⟩
  |tup cs=>simp only[aoH,acQ]at h;obtain⟨_,h,_⟩:=h;obtain⟨y,hy⟩:=L h;exact⟨.tup y,by simp[alC,hy]⟩
  |iface t x=>simp only[aoH,acQ]at h;obtain⟨_,h,_⟩:=h;obtain⟨y,hy⟩:=aAG f h;exact⟨.iface t y,by simp[alC,hy]⟩
  |func fn a b=>
   simp only[aoH,aeG,acQ]at h
   obtain⟨_,h1,_,h2,_⟩:=h
   obtain⟨y,hy⟩:=L h1
   obtain⟨y2,hy2⟩:=L h2
   exact⟨.func fn y y2,by simp[alC,hy,hy2]⟩
  |_=>exact⟨_,rfl⟩
theorem aGC{α β γ:Type}{f:α→Option β}{f':α→Option γ}(H:∀a b,f a=some b→∃c,f' a=some c):∀{l:List α} {r:List β},afG f l=some r→∃s,afG f' l=some s
 | [],_,_=>⟨[],rfl⟩
 |a::l,r,h=>by
  simp only[afG,aeG,acQ]at h
  obtain⟨b,hb,c,hc,_⟩:=h
  obtain⟨y,hy⟩:=H a b hb
  obtain⟨ys,hys⟩:=aGC H hc
  exact⟨y::ys,by simp[afG,hy,hys]⟩
def Stn(F:Nat→Option Nat)(c':CB)(z:Nat × Bool × List (List AV)):Prop:=
 ∃rows',agI c'=some (z.1,z.2.1,rows')∧(z.2.1=true→rows'=z.2.2)∧(z.2.1=false→afG (afG (aoH 8 F)) rows'=some z.2.2)
def Rnm(c:CB):Prop:=∀f,∃c',amM f c=some c'
theorem spB{g:HF}{S:List Nat}(H:Cl g S){b:Nat}(hb:b∈S)(m:List Nat):∃c c' m' z,g b=some c∧agI c=some z∧ar8 m c=some (c',m')∧Gd m m' S∧(∀F,On m' F→Stn F c' z)∧Rnm c':=by
 obtain⟨z,hz,hc⟩:=H b hb
 obtain⟨c,k1,k2⟩:=aeG.1 hz
 have R:∀rows,z.2.1=false→rows=z.2.2→∃l' m',ao3 m rows=some (l',m')∧Gd m m' S∧∀F,On m' F→afG (afG (aoH 8 F)) l'=some rows:=fun rows e er=>by
  obtain⟨d,q,a1,a2,a3⟩:=hc e
  obtain⟨l',m',e1,g1,e2⟩:=spR (er▸a2) (fun r _ x _ q hx=>sp a1 hx) m
  exact⟨l',m',e1,⟨g1.pre,g1.nd,fun x hx=>(g1.sub x hx).imp id (a3 x)⟩,e2⟩
 have R2:∀l' rows m',(∀F,On m' F→afG (afG (aoH 8 F)) l'=some rows)→∀f,∃y,afG (afG (alC 8 f)) l'=some y:=fun l' rows m' h f=>
  aGC (fun a b hab=>aGC (fun a b hab=>aAG f hab) hab) (h (fun i=>m'[i]?) (fun _ _ h=>h))
 cases c with
 |live st fl w rows=>
  simp[agI]at k2;subst k2
  cases fl with
  |true=>exact⟨_,_,m,_,k1,rfl,rfl,Gd.refl _ _,fun F _=>⟨rows,rfl,fun _=>rfl,fun e=>by cases e⟩,fun f=>⟨_,rfl⟩⟩
  |false=>
   obtain⟨l',m',e1,g1,e2⟩:=R rows rfl rfl
   refine⟨_,.live st false w l',m',_,k1,rfl,by simp[ar8,e1],g1,fun F hF=>⟨l',rfl,fun e=>(by cases e),fun _=>e2 F hF⟩,fun f=>?_⟩
   obtain⟨y,hy⟩:=R2 l' rows m' e2 f
   exact⟨.live st false w y,by simp[amM,hy]⟩
 |frz st fl rows=>
  simp[agI]at k2;subst k2
  cases fl with
  |true=>exact⟨_,_,m,_,k1,rfl,rfl,Gd.refl _ _,fun F _=>⟨rows,rfl,fun _=>rfl,fun e=>by cases e⟩,fun f=>⟨_,rfl⟩⟩
  |false=>
   obtain⟨l',m',e1,g1,e2⟩:=R rows rfl rfl
   refine⟨_,.frz st false l',m',_,k1,rfl,by simp[ar8,e1],g1,fun F hF=>⟨l',rfl,fun e=>(by cases e),fun _=>e2 F hF⟩,fun f=>?_⟩
   obtain⟨y,hy⟩:=R2 l' rows m' e2 f
   exact⟨.frz st false y,by simp[amM,hy]⟩
 |dead=>simp[agI]at k2
 |lp=>simp[agI]at k2
theorem aTI{S:List Nat}:∀{m:List Nat},m.Nodup→(∀b∈m,b∈S)→m.length≤S.length:=by
 induction S with
 |nil=>intro m _ h;cases m with
  |nil=>simp
  |cons a m=>exact absurd (h a (aoD ..)) (by simp)
 |cons s S ih=>
  intro m hn h
  have h2:=ih (m:=m.erase s) (hn.erase s) (fun b hb=>by
   have hb':=List.mem_of_mem_erase hb
   rcases atT.1 (h b hb')with rfl|h'
   ·exact absurd hb (hn.not_mem_erase)
   ·exact h')
  have h3:m.length≤(m.erase s).length+1:=by
   by_cases hs:s∈m
   ·rw[List.length_erase_of_mem hs];omega
   ·rw[List.erase_of_not_mem hs];omega
  simp;omega
theorem spC{g:HF}{S:List Nat}(H:Cl g S):∀(n i:Nat) (m:List Nat),m.Nodup→(∀b∈m,b∈S)→S.length<n+i→i≤m.length→
 ∃cs m',ap3 n g i m=some (cs,m')∧m <+:m'∧m'.Nodup∧(∀b∈m',b∈S)∧i+cs.length=m'.length∧(∀c∈cs,Rnm c)∧
  ∀F,On m' F→∀j c',cs[j]?=some c'→∃b z,m'[i+j]?=some b∧(g b).bind agI=some z∧Stn F c' z
 |0,i,m,hn,hs,hl,hi=>by have:=aTI hn hs;omega
 |n+1,i,m,hn,hs,hl,hi=>by
  unfold ap3
  cases hm:m[i]? with
  |none=>
   have:m.length≤i:=aAZ.1 hm
   exact⟨[],m,rfl,av8 _,hn,hs,by simp;omega,(fun c hc=>by cases hc),fun F _ j c' hj=>by simp at hj⟩
  |some b=>
   have hlt:=(aoG.1 hm).1
   obtain⟨c,c',m1,z,k1,k2,k3,g1,k4,k5⟩:=spB H (hs b (at0 hm)) m
   obtain⟨cs,m',e1,p1,p2,p3,p4,p5,p6⟩:=spC H n (i+1) m1 (g1.nd hn) (fun b hb=>(g1.sub b hb).elim (hs b) id) (by omega) (by have:=g1.pre.length_le;omega)
   refine⟨c'::cs,m',by simp[k1,k3,e1],g1.pre.trans p1,p2,p3,by simp;omega,fun x hx=>?_,fun F hF j x hj=>?_⟩
   ·rcases atT.1 hx with rfl|hx
    ·exact k5
    ·exact p5 x hx
   ·cases j with
    |zero=>
     simp at hj;subst hj
     exact⟨b,z,aqQ (g1.pre.trans p1) (by simpa using hm),by rw[k1];exact k2,k4 F (hF.mono p1)⟩
    |succ j=>
     simp at hj
     obtain⟨b',z',a1,a2,a3⟩:=p6 F hF j x hj
     exact⟨b',z',by rw[←a1];congr 1;omega,a2,a3⟩
theorem a25{h:aaP}{v:AV}{R:List Nat}(hs:Sp 8 v R)(hc:Cl (hf h) R)(hR:R.length<5000):
 ∃v' cs F,ar0 0 v h=some (v',cs)∧aNH F (hf cs) (hf h)∧aoH 8 F v'=some v∧∀c∈cs,Rnm c:=by
 obtain⟨v',m,e1,g1,k1⟩:=hs []
 have hm:∀b∈m,b∈R:=fun b hb=>(g1.sub b hb).elim (fun h=>by cases h) id
 obtain⟨cs,m',e2,p1,p2,p3,p4,p5,p6⟩:=spC hc 5000 0 m (g1.nd aBV) hm (by omega) (Nat.zero_le _)
 refine⟨v',cs,fun i=>m'[i]?,by simp[ar0,aqK,alF.refL,e1,e2,aBX],fun i b hi z hz=>?_,k1 _ (fun _ _ h=>aqQ p1 h),p5⟩
 have hlt:=(aoG.1 hi).1
 obtain⟨b',z',a1,a2,rows',a3,a4,a5⟩:=p6 (fun i=>m'[i]?) (fun _ _ h=>h) i _ (apM (by omega))
 rw[axA]at a1
 have hbb:b=b':=by have hi':m'[i]?=some b:=hi;rw[hi']at a1;cases a1;rfl
 subst hbb
 rw[hz]at a2;cases a2
 exact⟨rows',by show(cs[i]?).bind agI=_;rw[apM (by omega)];exact a3,a4,a5⟩
end
end Go.Ev
namespace Go.Ev
open Go.RowKit
theorem atD{f:Nat→Nat}{F:Nat→Option Nat}(hF:∀b,F (f b)=some b):∀{e:Nat} {x x1:AV},alC e f x=some x1→aoH e F x1=some x
 |0,x,x1,h=>by simp[alC]at h
 |e+1,x,x1,h=>by
  have L:∀{l l1:List AV},afG (alC e f) l=some l1→afG (aoH e F) l1=some l:=fun {l}=>by
   induction l with
   |nil=>intro l1 h;simp[afG]at h;subst h;rfl
   |cons a l ih=>
    intro l1 h
    simp only[afG,aeG,acQ]at h
    obtain⟨b,hb,c,hc,rfl⟩:=h
    simp[afG,atD hF hb,ih hc]
  cases x with
  |agg cs=>simp only[alC,acQ]at h;obtain⟨_,h,rfl⟩:=h;simp[aoH,L h]
  |tup cs=>simp only[alC,acQ]at h;obtain⟨_,h,rfl⟩:=h;simp[aoH,L h]
  |iface t x=>simp only[alC,acQ]at h;obtain⟨_,h,rfl⟩:=h;simp[aoH,atD hF h]
  |func fn a b=>
   simp only[alC,aeG,acQ]at h
   obtain⟨_,h1,_,h2,rfl⟩:=h
   simp[aoH,L h1,L h2]
  |_=>simp only[alC,atV.injEq]at h;subst h;simp[aoH,hF]
theorem atG{α β:Type}{f:α→Option β}{f':β→Option α}(H:∀a b,f a=some b→f' b=some a):∀{l:List α} {r:List β},afG f l=some r→afG f' r=some l
 | [],r,h=>by simp[afG]at h;subst h;rfl
 |a::l,r,h=>by
  simp only[afG,aeG,acQ]at h
  obtain⟨b,hb,c,hc,rfl⟩:=h
  simp[afG,H a b hb,atG H hc]
theorem aDB{f:Nat→Nat}:∀{cs:List CB} (_:∀c∈cs,Rnm c) (base:Nat),∃ns cs1,ao8 f base cs=some ns∧(∀G,alZ G ns=G++cs1)∧afG (amM f) cs=some cs1
 | [],_,base=>⟨[],[],rfl,fun G=>by simp[alZ],rfl⟩
 |c::cs,h,base=>by
  obtain⟨c1,e1⟩:=h c (aoD ..) f
  obtain⟨ns,cs1,e2,e3,e4⟩:=aDB (f:=f) (cs:=cs) (fun c hc=>h c (am7 _ hc)) (base+1)
  exact⟨.new base c1::ns,c1::cs1,by simp[ao8,e1,e2],fun G=>by simp[alZ,ar6,e3],by simp[afG,e1,e4]⟩
theorem aQV{f:Nat→Nat}{F:Nat→Option Nat}(hF:∀b,F (f b)=some b){c c1:CB}(h:amM f c=some c1){z:Nat × Bool × List (List AV)}(hz:agI c=some z):Stn F c1 z:=by
 cases c with
 |live st fl w rows=>
  simp[agI]at hz;subst hz
  cases fl with
  |true=>simp[amM]at h;subst h;exact⟨rows,rfl,fun _=>rfl,fun e=>by cases e⟩
  |false=>
   simp only[amM,acQ]at h
   obtain⟨r,hr,rfl⟩:=h
   exact⟨r,rfl,fun e=>(by cases e),fun _=>atG (fun a b hab=>atG (fun a b hab=>atD hF hab) hab) hr⟩
 |frz st fl rows=>
  simp[agI]at hz;subst hz
  cases fl with
  |true=>simp[amM]at h;subst h;exact⟨rows,rfl,fun _=>rfl,fun e=>by cases e⟩
  |false=>
   simp only[amM,acQ]at h
   obtain⟨r,hr,rfl⟩:=h
   exact⟨r,rfl,fun e=>(by cases e),fun _=>atG (fun a b hab=>atG (fun a b hab=>atD hF hab) hab) hr⟩
 |dead=>simp[agI]at hz
 |lp=>simp[agI]at hz
structure Kp(lent:List Nat)(H H1:aaP):Prop where
 len:H.length≤H1.length
 rows:∀b,b<H.length→(hf H1 b).bind agI=(hf H b).bind agI
 same:∀b,b<H.length→b∉lent→H1[b]?=H[b]?
end Go.Ev
namespace Go.Ev
noncomputable section
open Go.RowKit
theorem fdx{C:R→Prop}{r r':R}[n:NoN C](k:C r')(e:Dw r r':=by first|exact dw 1|exact dw 3):C r:=e.dr n.no k
theorem aGH{g:HF}(f:Nat→Nat):∀{d e:Nat} {v:AV} {p:AV × List Nat},d≤e→rd d g v=some p→∃y,alC e f v=some y
 |0,e,v,p,_,h=>by simp[rd]at h
 |d+1,0,v,p,he,h=>by omega
 |d+1,e+1,v,p,he,h=>by
  have L:∀{l:List AV} {q:List AV × List Nat},rdL (rd d g) l=some q→∃y,afG (alC e f) l=some y:=fun {l}=>by
   induction l with
   |nil=>exact fun _=>⟨[],rfl⟩
   |cons a l ih=>
    intro q h
    simp only[rdL,aeG,acQ]at h
    obtain⟨b,hb,c,hc,_⟩:=h
    obtain⟨y,hy⟩:=aGH f (show d≤e by omega) hb
    obtain⟨ys,hys⟩:=ih hc
    exact⟨y::ys,by simp[afG,hy,hys]⟩
  cases v with
  |agg cs=>simp only[rd,acQ]at h;obtain⟨_,h,_⟩:=h;obtain⟨y,hy⟩:=L h;exact⟨.agg y,by simp[alC,hy]⟩
  |iface t x=>simp only[rd,acQ]at h;obtain⟨_,h,_⟩:=h;obtain⟨y,hy⟩:=aGH f (show d≤e by omega) h;exact⟨.iface t y,by simp[alC,hy]⟩
  |func fn a b=>
   cases a<;>cases b<;>first|exact⟨_,rfl⟩|(simp[rd]at h)
  |tup cs=>simp[rd]at h
  |_=>exact⟨_,rfl⟩
theorem auF{g:HF}:∀{d e:Nat} {v:AV} {p:AV × List Nat},d≤e→rd d g v=some p→apY e g v=some p.1
 |0,e,v,p,_,h=>by simp[rd]at h
 |d+1,0,v,p,he,h=>by omega
 |d+1,e+1,v,p,he,h=>by
  cases v with
  |slr st b r len=>exact aB3 (aGK he h)
  |agg cs=>
   simp only[rd,acQ]at h
   obtain⟨q,hq,rfl⟩:=h
   simp[apY,azO (f':=apY e g) hq (fun x _ q' hx=>auF (show d≤e by omega) hx)]
  |iface t x=>
   simp only[rd,acQ]at h
   obtain⟨q,hq,rfl⟩:=h
   simp[apY,auF (show d≤e by omega) hq]
  |func fn a b=>cases a<;>cases b<;>first|(simp[rd]at h;subst h;rfl)|(simp[rd]at h)
  |_=>first|(simp[rd]at h;subst h;rfl)|(simp[rd]at h)
theorem aS4{f:AV→Option (AV × List Nat)}{f':AV→List Nat}:∀{l:List AV} {p:List AV × List Nat},rdL f l=some p→(∀x∈l,∀q,f x=some q→∀b∈f' x,b∈q.2)→∀b∈l.flatMap f',b∈p.2
 | [],p,h,_=>fun b hb=>by simp at hb
 |a::l,p,h,hf=>fun b hb=>by
  simp only[rdL,aeG,acQ]at h
  obtain⟨q,hq,r,hr,rfl⟩:=h
  rw[aC9]at hb
  rcases aoU.1 hb with hb|hb
  ·exact ap1 _ (hf a (aoD ..) q hq b hb)
  ·exact aq0 _ (aS4 hr (fun x hx=>hf x (am7 _ hx)) b hb)
theorem aZH{f:AV→Option (AV × List Nat)}{f':AV→List Nat}:∀{l:List (List AV)} {p:List (List AV) × List Nat},alA f l=some p→(∀r∈l,∀x∈r,∀q,f x=some q→∀b∈f' x,b∈q.2)→∀b∈l.flatMap (fun cs=>cs.flatMap f'),b∈p.2
 | [],p,h,_=>fun b hb=>by simp at hb
 |a::l,p,h,hf=>fun b hb=>by
  simp only[alA,aeG,acQ]at h
  obtain⟨q,hq,r,hr,rfl⟩:=h
  rw[aC9]at hb
  rcases aoU.1 hb with hb|hb
  ·exact ap1 _ (aS4 hq (hf a (aoD ..)) b hb)
  ·exact aq0 _ (aZH hr (fun x hx=>hf x (am7 _ hx)) b hb)
theorem ayO{g:HF}:∀{e d:Nat} {v:AV} {p:AV × List Nat},rd d g v=some p→∀b∈ahD e g v,b∈p.2
 |0,d,v,p,_,b,hb=>by simp[ahD]at hb
 |e+1,0,v,p,h,b,hb=>by simp[rd]at h
 |e+1,d+1,v,p,h,b,hb=>by
  cases v with
  |slr st c r len=>
   simp only[rd,aeG]at h
   obtain⟨z,hz,h⟩:=h
   split at h
   ·rename_i hq
    obtain⟨rfl,rfl,rfl⟩:=hq
    simp only[ahD,azK (aeG.2 hz)]at hb
    cases hfl:z.2.1 with
    |true=>rw[hfl]at h hb;simp at h hb;rw[←h];simp[hb]
    |false=>
     rw[hfl]at h hb
     simp only[cond_false,acQ]at h
     obtain⟨q,hq',rfl⟩:=h
     rcases atT.1 hb with rfl|hb
     ·exact aoD ..
     ·exact am7 _ (aZH hq' (fun r _ x _ q' hx b hb=>ayO hx b hb) b (by simpa using hb))
   ·cases h
  |agg cs=>
   simp only[rd,acQ]at h
   obtain⟨q,hq,rfl⟩:=h
   exact aS4 hq (fun x _ q' hx b hb=>ayO hx b hb) b hb
  |iface t x=>
   simp only[rd,acQ]at h
   obtain⟨q,hq,rfl⟩:=h
   exact ayO hq b hb
  |_=>simp[ahD]at hb
theorem aRT{e:Nat}{F:Nat→Option Nat}{v:AV}{outs:List AV}(h:aoH (e+1) F v=some (.tup outs)):∃o,v=.tup o∧afG (aoH e F) o=some outs:=by
 cases v with
 |tup cs=>simp[aoH]at h;exact⟨_,rfl,h⟩
 |func fn a b=>simp only[aoH,aeG,acQ]at h;obtain⟨_,_,_,_,h⟩:=h;cases h
 |_=>simp[aoH]at h
def RdV(O:Orc)(f:Nat)(vs:List AV)(x:AV)(k:Nat):Prop:=
 ∃v h' R,O.call (.fn f) vs []=some (.ret v,h')∧rd 6 (hf h') v=some (x,R)∧R.length≤k∧∀c∈h',Rnm c
theorem av9{O:Orc}{H:aaP}{f:Nat}{args vs:List AV}{v:AV}(hh:pkd O f args)(ha:afG (rdV H) args=some vs)(hp:vs.all (ahO 8)=true)(hc:O.call (.fn f) vs []=some (.ret v,[]))(h1:ahO 8 v=true)(h2:hasImm 8 v=false):
 cl O H (some (.func (.func f) [] [])) (some args)=some (.ret v,[]):=by
 rw[aDJ hh,aE6 ha hp,hc,aFA,if_pos ⟨h1,h2⟩]
theorem aUD{h:aaP}{v x:AV}{R:List Nat}{Q:Out→aaP→Prop}(h1:rd 6 (hf h) v=some (x,R))(hR:R.length<5000)
 (q:∀v' h' R',rd 6 (hf h') v'=some (x,R')→R'.length=R.length→(∀c∈h',Rnm c)→Q (.ret v') h'):Rt 0 (some [v]) h Q:=by
 obtain⟨v',cs,F,e1,e2,e3,e4⟩:=a25 (sp (e:=8) (by omega) h1) (aD4 (by omega) h1) hR
 obtain⟨R',k1,k2,_⟩:=aD1 e2 e3 h1
 exact⟨_,_,by simp[aPV,asW,e1],q _ _ _ k1 k2 e4⟩
theorem hid{C:R→Prop}[n:NoN C]{r:R}(h:∀K:R→Prop,NoN K→(∀x,C x→K x)→K r):C r:=h C n fun _ h=>h
theorem aDV{v:AV}{H:aaP}{b:Nat}(l:List CB)(hb:b<H.length)(hv:∀a c r m,v=.slr a c r m→c≠b):(kl 0 v H++l)[b]?=H[b]?:=by
 rw[auJ (by rw[arR];exact hb)]
 unfold kl
 split
 ·rename_i a c r m
  rw[List.getElem?_set_ne];simpa using hv a c r m rfl
 ·rfl
theorem aK6{g:HF}{d:Nat}{v:AV}{p:AV × List Nat}(hd:d≤9)(h:rd d g v=some p):∀b∈p.2,∃z,(g b).bind agI=some z:=fun b hb=>by
 obtain⟨z,hz,_⟩:=aD4 hd h b hb
 exact⟨z,hz⟩
theorem as5{H:aaP}{b:Nat}{z:Nat × Bool × List (List AV)}(h:(hf H b).bind agI=some z):b<H.length:=by
 obtain⟨c,hc,_⟩:=aeG.1 h
 exact(aoG.1 hc).1
theorem aq7{g g':HF}{d:Nat}{l:List AV}{p:List AV × List Nat}(h:rdL (rd d g) l=some p)(ha:Agr p.2 g g'):rdL (rd d g') l=some p:=
 auZ h fun _ _ _ hq hs=>aqL hq fun b hb=>ha b (hs b hb)
theorem aqE{g g':HF}{d:Nat}{l:List (List AV)}{p:List (List AV) × List Nat}(h:alA (rd d g) l=some p)(ha:Agr p.2 g g'):alA (rd d g') l=some p:=
 auN h fun _ _ _ _ _ hq hs=>aqL hq fun b hb=>ha b (hs b hb)
theorem aDW{H:aaP}{d:Nat}{l:List AV}{p:List AV × List Nat}(hd:d≤9)(h:rdL (rd d (hf H)) l=some p):∀b∈p.2,b<H.length:=fun b hb=>by
 obtain⟨z,hz,_⟩:=clL h (fun x _ q hx=>aD4 hd hx) b hb
 exact as5 hz
theorem aAH{H:aaP}{d:Nat}{l:List (List AV)}{p:List (List AV) × List Nat}(hd:d≤9)(h:alA (rd d (hf H)) l=some p):∀b∈p.2,b<H.length:=fun b hb=>by
 obtain⟨z,hz,_⟩:=clR h (fun r _ x _ q hx=>aD4 hd hx) b hb
 exact as5 hz
theorem ayK{f:AV→Option (AV × List Nat)}:∀{l:List (List AV)} {p:List (List AV) × List Nat},alA f l=some p→l.length=p.1.length
 | [],p,h=>by simp[alA]at h;subst h;rfl
 |a::l,p,h=>by
  simp only[alA,aeG,acQ]at h
  obtain⟨q,hq,r,hr,rfl⟩:=h
  simp[ayK hr]
theorem aD7{f:AV→Option (AV × List Nat)}:∀{l:List (List AV)} {p:List (List AV) × List Nat} {i:Nat} {X:List AV},alA f l=some p→p.1[i]?=some X→∃r R,l[i]?=some r∧rdL f r=some (X,R)
 | [],p,i,X,h,hx=>by simp[alA]at h;subst h;simp at hx
 |a::l,p,i,X,h,hx=>by
  simp only[alA,aeG,acQ]at h
  obtain⟨q,hq,r,hr,rfl⟩:=h
  cases i with
  |zero=>simp at hx;subst hx;exact⟨a,q.2,rfl,hq⟩
  |succ i=>simp at hx;obtain⟨r',R',k1,k2⟩:=aD7 hr hx;exact⟨r',R',by simpa using k1,k2⟩
theorem aB2{f:AV→Option (AV × List Nat)}:∀{l:List AV} {p:List AV × List Nat},rdL f l=some p→l.length=p.1.length
 | [],p,h=>by simp[rdL]at h;subst h;rfl
 |a::l,p,h=>by
  simp only[rdL,aeG,acQ]at h
  obtain⟨q,hq,r,hr,rfl⟩:=h
  simp[aB2 hr]
theorem ai3{f:AV→Option (AV × List Nat)}{l xs:List AV}{x:AV}{R:List Nat}(h:rdL f l=some (x::xs,R)):∃a l' R1 R2,l=a::l'∧f a=some (x,R1)∧rdL f l'=some (xs,R2)∧R=R1++R2:=by
 cases l with
 |nil=>simp[rdL]at h
 |cons a l=>
  simp only[rdL,aeG,acQ]at h
  obtain⟨q,hq,r,hr,he⟩:=h
  simp only[Prod.mk.injEq,avD.injEq]at he
  obtain⟨⟨rfl,rfl⟩,rfl⟩:=he
  exact⟨a,l,q.2,r.2,rfl,hq,hr,rfl⟩
theorem aHG{f:AV→Option (AV × List Nat)}{l:List AV}{R:List Nat}(h:rdL f l=some ([],R)):l=[]∧R=[]:=by
 cases l with
 |nil=>simp[rdL]at h;exact⟨rfl,h⟩
 |cons a l=>have:=aB2 h;simp at this
theorem a0Y{g:HF}{d:Nat}{v:AV}{xs:List AV}{R:List Nat}(h:rd (d+1) g v=some (.agg xs,R)):∃cs,v=.agg cs∧rdL (rd d g) cs=some (xs,R):=by
 cases v with
 |slr st b r len=>
  simp only[rd,aeG]at h
  obtain⟨z,_,h⟩:=h
  split at h
  ·cases hfl:z.2.1<;>rw[hfl]at h<;>simp at h
  ·cases h
 |agg cs=>
  simp only[rd,acQ]at h
  obtain⟨q,hq,he⟩:=h
  simp only[Prod.mk.injEq,AV.agg.injEq]at he
  obtain⟨rfl,rfl⟩:=he
  exact⟨cs,rfl,hq⟩
 |func fn a b=>cases a<;>cases b<;>simp[rd]at h
 |iface t x=>simp[rd]at h
 |_=>simp[rd]at h
theorem avR{g:HF}{d:Nat}{v:AV}{k:IntKind}{n:Int}{R:List Nat}(h:rd (d+1) g v=some (.int k n,R)):v=.int k n∧R=[]:=by
 cases v with
 |slr st b r len=>
  simp only[rd,aeG]at h
  obtain⟨z,_,h⟩:=h
  split at h
  ·cases hfl:z.2.1<;>rw[hfl]at h<;>simp at h
  ·cases h
 |func fn a b=>cases a<;>cases b<;>simp[rd]at h
 |int k' n'=>simp[rd]at h;exact⟨by simp[h],h.2⟩
 |agg cs=>simp[rd]at h
 |iface t x=>simp[rd]at h
 |_=>simp[rd]at h
theorem auR{g:HF}{d st:Nat}{fl nn:Bool}{v:AV}{rows:List (List AV)}{R:List Nat}(h:rd (d+1) g v=some (slv st fl nn rows,R)):v.isCell=true∧v.flat=false:=by
 have hs:slv st fl nn rows=.nils∨∃r,slv st fl nn rows=.imm st fl r:=by
  cases rows with
  |nil=>cases nn with
   |true=>exact .inr ⟨_,rfl⟩
   |false=>exact .inl rfl
  |cons=>exact .inr ⟨_,rfl⟩
 generalize slv st fl nn rows=X at h hs
 cases v with
 |func fn a b=>cases a<;>cases b<;>first|exact⟨rfl,rfl⟩|(simp[rd]at h)
 |agg cs=>simp only[rd,acQ]at h;obtain⟨_,_,h⟩:=h;simp only[Prod.mk.injEq]at h;obtain⟨h,_⟩:=h;subst h;rcases hs with hs|⟨_,hs⟩<;>cases hs
 |ptr b r o=>exact⟨rfl,rfl⟩
 |yl b=>exact⟨rfl,rfl⟩
 |mapr b=>exact⟨rfl,rfl⟩
 |tup cs=>simp[rd]at h
 |bool b=>simp[rd]at h;obtain⟨h,_⟩:=h;subst h;rcases hs with hs|⟨_,hs⟩<;>cases hs
 |int k n=>simp[rd]at h;obtain⟨h,_⟩:=h;subst h;rcases hs with hs|⟨_,hs⟩<;>cases hs
 |str s=>simp[rd]at h;obtain⟨h,_⟩:=h;subst h;rcases hs with hs|⟨_,hs⟩<;>cases hs
 |_=>exact⟨rfl,rfl⟩
theorem awK{g:HF}{d st:Nat}{fl nn:Bool}{v:AV}{rows:List (List AV)}{R:List Nat}(h:rd (d+1) g v=some (slv st fl nn rows,R)):
 (v=.nils∧rows=[])∨∃b rows',v=.slr st b 0 rows.length∧(g b).bind agI=some (st,fl,rows')∧rows'.length=rows.length∧(fl=true→rows'=rows)∧(fl=false→∃R',alA (rd d g) rows'=some (rows,R')):=by
 have hs:(slv st fl nn rows=.nils∧rows=[])∨slv st fl nn rows=.imm st fl rows:=by
  cases rows with
  |nil=>cases nn with
   |true=>exact .inr rfl
   |false=>exact .inl ⟨rfl,rfl⟩
  |cons=>exact .inr rfl
 generalize slv st fl nn rows=X at h hs
 cases v with
 |nils=>simp[rd]at h;obtain⟨rfl,_⟩:=h;rcases hs with⟨_,hs⟩|hs
        ·exact .inl ⟨rfl,hs⟩
        ·cases hs
 |slr st' b r len=>
  simp only[rd,aeG]at h
  obtain⟨z,hz,h⟩:=h
  split at h
  ·rename_i hq
   obtain⟨q1,rfl,q3⟩:=hq
   obtain⟨z1,z2,z3⟩:=z
   simp only at q1 q3 h
   subst q1
   cases z2 with
   |true=>
    simp at h
    obtain⟨rfl,_⟩:=h
    rcases hs with⟨hs,_⟩|hs
    ·cases hs
    ·cases hs
     exact .inr ⟨b,_,by rw[q3],aeG.2 hz,rfl,fun _=>rfl,fun e=>by cases e⟩
   |false=>
    simp only[cond_false,acQ]at h
    obtain⟨q,hq,he⟩:=h
    simp only[Prod.mk.injEq]at he
    obtain⟨rfl,_⟩:=he
    rcases hs with⟨hs,_⟩|hs
    ·cases hs
    ·cases hs
     have hl:z3.length=q.1.length:=ayK hq
     exact .inr ⟨b,z3,by rw[q3,hl],aeG.2 hz,hl,fun e=>(by cases e),fun _=>⟨q.2,hq⟩⟩
  ·cases h
 |func fn a b=>cases a<;>cases b<;>simp[rd]at h<;>(obtain⟨rfl,_⟩:=h;rcases hs with⟨hs,_⟩|hs<;>cases hs)
 |agg cs=>simp only[rd,acQ]at h;obtain⟨_,_,h⟩:=h;simp only[Prod.mk.injEq]at h;obtain⟨rfl,_⟩:=h;rcases hs with⟨hs,_⟩|hs<;>cases hs
 |iface t x=>simp only[rd,acQ]at h;obtain⟨_,_,h⟩:=h;simp only[Prod.mk.injEq]at h;obtain⟨rfl,_⟩:=h;rcases hs with⟨hs,_⟩|hs<;>cases hs
 |ptr b r o=>simp[rd]at h
 |yl b=>simp[rd]at h
 |mapr b=>simp[rd]at h
 |tup cs=>simp[rd]at h
 |imm=>simp[rd]at h
 |iptr=>simp[rd]at h
 |_=>simp[rd]at h;obtain⟨rfl,_⟩:=h;rcases hs with⟨hs,_⟩|hs<;>cases hs
theorem aWW{H:aaP}{b st:Nat}{fl:Bool}{rows:List (List AV)}(h:(hf H b).bind agI=some (st,fl,rows))(i:Nat):asX (H[b]?) i=rows[i]?:=by
 obtain⟨c,hc,hz⟩:=aeG.1 h
 rw[show H[b]?=some c from hc]
 cases c<;>simp[agI]at hz<;>(obtain⟨_,_,rfl⟩:=hz;rfl)
theorem aoL{g:HF}{d:Nat}(k:IntKind)(n:Int):rd (d+1) g (.int k n)=some (.int k n,[]):=rfl
theorem aUM{g:HF}{d:Nat}:rd (d+1) g .nils=some (.nils,[]):=rfl
theorem apI{g:HF}{d st b n:Nat}{rows:List (List AV)}(h:(g b).bind agI=some (st,true,rows))(hn:n=rows.length):rd (d+1) g (.slr st b 0 n)=some (.imm st true rows,[b]):=by
 subst hn;simp[rd,h]
theorem aI5{g:HF}{d:Nat}{cs xs:List AV}{R:List Nat}(h:rdL (rd d g) cs=some (xs,R)):rd (d+1) g (.agg cs)=some (.agg xs,R):=by simp[rd,h]
theorem as0{f:AV→Option (AV × List Nat)}:rdL f []=some ([],[]):=rfl
theorem agK{f:AV→Option (AV × List Nat)}{a x:AV}{l xs:List AV}{R1 R2:List Nat}(h1:f a=some (x,R1))(h2:rdL f l=some (xs,R2)):rdL f (a::l)=some (x::xs,R1++R2):=by simp[rdL,h1,h2]
theorem aQ0{x:Option (List AV)}{vs:List AV}{h:aaP}{Q:Out→aaP→Prop}(hx:x=some vs)(k:Rt 0 (some vs) h Q):Rt 0 x h Q:=hx▸k
theorem RdV.of{O:Orc}{f:Nat}{vs:List AV}{x:AV}{k:Nat}(h:ClQ O f vs [] fun o h'=>∃v R,o=.ret v∧rd 6 (hf h') v=some (x,R)∧R.length≤k∧∀c∈h',Rnm c):RdV O f vs x k:=by
 obtain⟨o,h',e,v,R,rfl,k1,k2,k3⟩:=h
 exact⟨v,h',R,e,k1,k2,k3⟩
theorem auD{f:AV→Option (AV × List Nat)}:∀{l:List (List AV)} {p:List (List AV) × List Nat} {r:List AV} {q:List AV × List Nat},alA f l=some p→rdL f r=some q→alA f (l++[r])=some (p.1++[q.1],p.2++q.2)
 | [],p,r,q,h,hr=>by simp[alA]at h;subst h;simp[alA,hr]
 |a::l,p,r,q,h,hr=>by
  simp only[alA,aeG,acQ]at h
  obtain⟨q1,hq1,r1,hr1,rfl⟩:=h
  simp[alA,hq1,auD hr1 hr]
end
noncomputable section
open Go.RowKit
section
variable {P:Program} {O:Orc}
def slx(P:Program)(ty:TypeId)(a:Option AV)(l h:Option (Option AV)):OE:=r1 (a.bind fun a=>l.bind fun l=>h.bind fun h=>aDE P ty a l h)
theorem aUC(t:List AV)(h:aaP)(ty:TypeId)(x:Operand)(lo hi:Option Operand):aoA O P t h (.slice ty x lo hi none)=slx P ty (acR t x) (azX t lo) (azX t hi):=by
 rw[an0 _ _ _ rfl]
 simp only[exec,slx]
 cases acR t x with
 |none=>rfl
 |some a=>
  cases azX t lo with
  |none=>rfl
  |some l=>
   cases azX t hi with
   |none=>rfl
   |some h=>exact apB _
def oS(x:Option AV):Option (Option AV):=x.map some
theorem aYH(v:AV):oS (some v)=some (some v):=alV rfl rfl
theorem aPP(t:List AV):azX t none=some none:=alV rfl rfl
theorem aOV(t:List AV)(x:Operand):azX t (some x)=oS (acR t x):=alV rfl rfl
theorem aZV{ty:TypeId}{n:Nat}(hs:SlT P ty n)(fl:Bool)(rows:List (List AV))(i:Nat)(hi:i≤rows.length):slx P ty (some (.imm n fl rows)) (some none) (some (some (.int .i64 i)))=some (.ret (.imm n fl (rows.take i)),[]):=by
 obtain⟨e,h1,h2⟩:=hs
 simp only[slx,aoF,aDE,h1,h2,arG]
 simp[hi,r1]
end
end
noncomputable section
set_option maxRecDepth 100000
def aKX(fI:Nat)(md:Nat→Bool):ap6:=⟨fun f=>if f=fI then some aEZ else none,md⟩
section
variable {P:Program} {G:Nat→Option Obj}
theorem aPT{fI:Nat}{md:Nat→Bool}(hI:∀args h out h',aEZ args h=some (out,h')→
 (∀args w,(callFunc fI args).run P w=.ok (.enter fI args) w)∧
 ∀w S ρ (cargs:Array Value),Inv G w S→HR w S ρ (hf h)→(∀b,h.length≤b→ρ b=.fresh)→(∀b,b<h.length→ρ b≠.fresh)→LR w S ρ args cargs.toList→Calls P fI cargs w (as2 h w S ρ out h')):aGZ P G (aKX fI md):=by
 intro f p hp
 simp only[aKX]at hp
 split at hp
 ·rename_i e;subst e;cases hp;exact hI
 ·cases hp
end
section
variable {P:Program}
theorem a0M{ty:TypeId}{n:Nat}(hs:SlT P ty n)(fl nn:Bool){rows:List (List AV)}{i:Nat}(hi:i<rows.length):slx P ty (some (slv n fl nn rows)) (some none) (some (some (.int .i64 i)))=some (.ret (.imm n fl (rows.take i)),[]):=by
 cases rows with
 |nil=>simp at hi
 |cons r rs=>rw[aRU];exact aZV hs fl _ i (by omega)
end
def lsE(e:AV→AV→Bool):List AV→List AV→Bool
 | [],[]=>true
 |a::l,b::r=>e a b&&lsE e l r
 |_,_=>false
def rsE(e:AV→AV→Bool):List (List AV)→List (List AV)→Bool
 | [],[]=>true
 |a::l,b::r=>lsE e a b&&rsE e l r
 |_,_=>false
def avE:Nat→AV→AV→Bool
 |0,_,_=>false
 |d+1,x,y=>
  match x,y with
  | .bool a,.bool b=>a==b
  | .int k a,.int j b=>k==j&&a==b
  | .str a,.str b=>a==b
  | .nils,.nils=>true
  | .imm n f r,.imm n' f' r'=>n==n'&&f==f'&&rsE (avE d) r r'
  | .agg a,.agg b=>lsE (avE d) a b
  |_,_=>false
theorem aF9{e:AV→AV→Bool}(h:∀a b,e a b=true→a=b):∀{l r:List AV},lsE e l r=true→l=r
 | [],[],_=>rfl
 |a::l,b::r,k=>by
  simp only[lsE,atX]at k
  rw[h a b k.1,aF9 h k.2]
 | [],_::_,k=>by cases k
 |_::_,[],k=>by cases k
theorem aT6{e:AV→AV→Bool}(h:∀a b,e a b=true→a=b):∀{l r:List (List AV)},rsE e l r=true→l=r
 | [],[],_=>rfl
 |a::l,b::r,k=>by
  simp only[rsE,atX]at k
  rw[aF9 h k.1,aT6 h k.2]
 | [],_::_,k=>by cases k
 |_::_,[],k=>by cases k
theorem aK0:∀{d:Nat} {x y:AV},avE d x y=true→x=y
 |0,_,_,h=>by cases h
 |d+1,x,y,h=>by
  unfold avE at h
  split at h
  ·simp at h;rw[h]
  ·simp at h;rw[h.1,h.2]
  ·simp at h;rw[h]
  ·rfl
  ·simp only[atX,beq_iff_eq]at h
   rw[h.1.1,h.1.2,aT6 (fun a b k=>aK0 k) h.2]
  ·rw[aF9 (fun a b k=>aK0 k) h]
  ·cases h
structure Ent where
 f:Nat
 args:List AV
 res:Out × aaP
def a57(tab:List Ent)(f:Nat)(a:List AV)(h:aaP):Option (Out × aaP):=
 match h with
 | []=>(tab.find? fun e=>e.f==f&&lsE (avE 8) e.args a).map (·.res)
 |_=>none
def ayX(pr:ap6)(tab:List Ent):ap6:=⟨fun f=>if tab.any (·.f==f)=true then some (a57 tab f)else pr f,pr.md⟩
theorem awV{O:Orc}{pr:ap6}{tab:List Ent}(h0:∀f p,pr f=some p→∀a h r,p a h=some r→O.call (.fn f) a h=some r)(h1:∀e∈tab,O.call (.fn e.f) e.args []=some e.res):
 ∀f p,ayX pr tab f=some p→∀a h r,p a h=some r→O.call (.fn f) a h=some r:=by
 intro f p hp a h r hr
 simp only[ayX]at hp
 split at hp
 ·cases hp
  unfold a57 at hr
  split at hr
  ·obtain⟨e,he,rfl⟩:=acQ.1 hr
   have h2:=List.find?_some he
   simp only[atX,beq_iff_eq]at h2
   rw[←h2.1,←aF9 (fun a b k=>aK0 k) h2.2]
   exact h1 e (List.mem_of_find?_eq_some he)
  ·cases hr
 ·exact h0 f p hp a h r hr
def EVu:=PLift.up (ahB @aVX (ahB @a28 (ahB @aUC (ahB @aPP (ahB @aOV @aYH)))))
end
noncomputable section
section
variable {α:Type}
end
end
section
def mrg:aaP→aaP→aaP
 | [],h'=>h'
 |c₀::h,[]=>c₀::h
 |c₀::h,c::h'=>(bif c₀.quiet c then c₀ else c.mark)::mrg h h'
def aTQ(h h':aaP):Prop:=h.length≤h'.length∧∀(i:Nat) (c₀ c:CB),h[i]?=some c₀→h'[i]?=some c→c₀.quiet c=true∨c₀.isLive=true
theorem aGJ:∀(h h' pre:aaP),aTQ h h'→∃es,aoC pre.length h h'=some es∧alZ (pre++h) es=pre++mrg h h'
 | [],h',pre,_=>⟨_,rfl,by simp[az4,mrg]⟩
 |c₀::h,[],pre,ok=>by simp[aTQ]at ok
 |c₀::h,c::h',pre,ok=>by
  have ok':aTQ h h':=⟨by simpa using ok.1,fun i a b h1 h2=>ok.2 (i+1) a b (by simpa using h1) (by simpa using h2)⟩
  cases hq:c₀.quiet c with
  |true=>
   obtain⟨es,e1,e2⟩:=aGJ h h' (pre++[c₀]) ok'
   refine⟨es,?_,?_⟩
   ·simp only[aoC,hq,cond_true]
    simpa using e1
   ·simpa [mrg,hq]using e2
  |false=>
   have hl:c₀.isLive=true:=by
    rcases ok.2 0 c₀ c rfl rfl with h|h
    ·rw[hq]at h;cases h
    ·exact h
   obtain⟨es,e1,e2⟩:=aGJ h h' (pre++[c.mark]) ok'
   refine⟨.put pre.length c.mark::es,?_,?_⟩
   ·simp only[aoC,hq,hl,cond_false,cond_true]
    simp only[List.length_append,avI,List.length_nil]at e1
    rw[e1];rfl
   ·simp only[alZ,ar6,mrg,hq,cond_false]
    have:(pre++c₀::h).set pre.length c.mark=(pre++[c.mark])++h:=by simp
    rw[this,e2];simp
theorem aMR:∀{h h':aaP},h.length≤h'.length→(mrg h h').length=h'.length
 | [],h',_=>rfl
 |c₀::h,[],hl=>by simp at hl
 |c₀::h,c::h',hl=>by simp[mrg,aMR (h:=h) (h':=h') (by simpa using hl)]
theorem aIJ:∀{h h':aaP} {i:Nat} {c₀ c:CB},h[i]?=some c₀→h'[i]?=some c→c₀.quiet c=true→(mrg h h')[i]?=some c₀
 | [],h',i,c₀,c,h1,_,_=>by simp at h1
 |a::h,[],i,c₀,c,_,h2,_=>by simp at h2
 |a::h,b::h',0,c₀,c,h1,h2,hq=>by
  simp at h1 h2;subst h1 h2;simp[mrg,hq]
 |a::h,b::h',i+1,c₀,c,h1,h2,hq=>by
  simp at h1 h2;simpa [mrg]using aIJ h1 h2 hq
theorem aL3:∀{h h':aaP} {i:Nat} {c₀ c:CB},h[i]?=some c₀→h'[i]?=some c→c₀.quiet c=false→(mrg h h')[i]?=some c.mark
 | [],h',i,c₀,c,h1,_,_=>by simp at h1
 |a::h,[],i,c₀,c,_,h2,_=>by simp at h2
 |a::h,b::h',0,c₀,c,h1,h2,hq=>by
  simp at h1 h2;subst h1 h2;simp[mrg,hq]
 |a::h,b::h',i+1,c₀,c,h1,h2,hq=>by
  simp at h1 h2;simpa [mrg]using aL3 h1 h2 hq
theorem aMC:∀{h h':aaP} {i:Nat},h.length≤h'.length→h.length≤i→(mrg h h')[i]?=h'[i]?
 | [],h',i,_,_=>rfl
 |a::h,[],i,hl,_=>by simp at hl
 |a::h,b::h',0,_,hi=>by simp at hi
 |a::h,b::h',i+1,hl,hi=>by
  simpa [mrg]using aMC (h:=h) (h':=h') (i:=i) (by simpa using hl) (by simpa using hi)
theorem avL{h:aaP}{i:Nat}{c:CB}(hc:h[i]?=some c):(clH h)[i]?=some c.clean:=by simp[clH,hc]
theorem axG(h:aaP):(clH h).length=h.length:=by simp[clH]
theorem ayD(c:CB):agI c.clean=agI c:=by cases c<;>rfl
theorem aPB(c:CB):agI c.mark=agI c:=by cases c<;>rfl
theorem aVN{O:Orc}{H:aaP}{f:Nat}{args:List AV}{Q:Out→aaP→Prop}(hd:hdR args=true)(hm:O.md f=true)(K:ShQ O f args (clH H) Q)(ok:∀o G,Q o G→aTQ H G):
 ∃o G es,cl O H (some (.func (.func f) [] [])) (some args)=some (o,es)∧alZ H es=mrg H G∧Q o G:=by
 obtain⟨o,G,hc,hq⟩:=K
 obtain⟨es,e1,e2⟩:=aGJ H G [] (ok o G hq)
 refine⟨o,G,es,?_,by simpa using e2,hq⟩
 rw[aMP]
 simp only[auT,atY,hd,if_true,shC,hm,Bool.or_true,hc]
 rw[aT5]
 have e1':aoC 0 H G=some es:=e1
 rw[e1'];rfl
structure aqH(X:List Nat)(H H1:aaP):Prop where
 len:H.length≤H1.length
 same:∀b,b<H.length→b∉X→H1[b]?=H[b]?
theorem aqH.refl(H:aaP):aqH [] H H:=⟨Nat.le_refl _,fun _ _ _=>rfl⟩
theorem aqH.app(H l:aaP):aqH [] H (H++l):=⟨by simp,fun b hb _=>auJ hb⟩
theorem aqH.trans{X Y:List Nat}{H H1 H2:aaP}(h1:aqH X H H1)(h2:aqH Y H1 H2):aqH (X++Y) H H2:=
 ⟨Nat.le_trans h1.len h2.len,fun b hb hn=>by
   rw[h2.same b (Nat.lt_of_lt_of_le hb h1.len) (fun h=>hn (aq0 _ h)),h1.same b hb (fun h=>hn (ap1 _ h))]⟩
theorem aqH.mono{X Y:List Nat}{H H1:aaP}(h:aqH X H H1)(hs:∀b∈X,b∈Y∨H.length≤b):aqH Y H H1:=
 ⟨h.len,fun b hb hn=>h.same b hb (fun hx=>by rcases hs b hx with h|h;exact hn h;omega)⟩
theorem aqH.agr{X R:List Nat}{H H1:aaP}(h:aqH X H H1)(hR:∀b∈R,b<H.length∧b∉X):Agr R (hf H) (hf H1):=fun b hb z hz=>by
 show(H1[b]?).bind agI=_
 rw[h.same b (hR b hb).1 (hR b hb).2];exact hz
end
noncomputable section
open Go.RowKit
def au9(f:Nat→Nat):Log→List (List ak8 × List ak8)→Prop
 | [],[]=>True
 |(es,fs)::l,(w,r)::l'=>(∀e∈es,ak8.all∈w∨mfF f e.foot∈w)∧(∀x∈fs,ak8.all∈r∨mfF f x∈r)∧au9 f l l'
 |_,_=>False
theorem au9.get{f:Nat→Nat}:∀{l:Log} {l':List (List ak8 × List ak8)} {i:Nat} {y:List ak8 × List ak8},au9 f l l'→l'[i]?=some y→∃x,l[i]?=some x∧(∀e∈x.1,ak8.all∈y.1∨mfF f e.foot∈y.1)∧(∀a∈x.2,ak8.all∈y.2∨mfF f a∈y.2)
 | [],[],i,y,_,h=>by simp at h
 |(es,fs)::l,(w,r)::l',0,y,h,hy=>by simp at hy;subst hy;exact⟨_,rfl,h.1,h.2.1⟩
 |(es,fs)::l,(w,r)::l',i+1,y,h,hy=>by
  obtain⟨x,h1,h2⟩:=au9.get h.2.2 (i:=i) (by simpa using hy)
  exact⟨x,by simpa using h1,h2⟩
theorem aOU(x:ak8):x.meets .all=true:=by cases x<;>rfl
theorem aO2(x:ak8):ak8.meets .all x=true:=by cases x<;>rfl
theorem aSK(f:Nat→Nat){ops:List Oper}{log:Log}(lg:List (List ak8 × List ak8))(hc:au9 f log lg)(hd:aFO ops lg=true):an7 ops log=true:=by
 simp only[aFO,an7,apD]at hd ⊢
 rintro⟨i,j⟩ hij
 have:=hd (i,j) hij
 simp only at this ⊢
 cases hi:lg[i]? with
 |none=>simp[hi]at this
 |some x=>
  cases hj:lg[j]? with
  |none=>simp[hi,hj]at this
  |some y=>
   obtain⟨x',a1,a2,a3⟩:=hc.get hi
   obtain⟨y',b1,b2,b3⟩:=hc.get hj
   simp only[hi,hj,a1,b1,az1,aAQ]at this ⊢
   cases hk:ar9 x' y' with
   |false=>rfl
   |true=>
    rw[←this];symm
    have mt:∀{p q:ak8} {P Q:List ak8},p.meets q=true→(ak8.all∈P∨mfF f p∈P)→(ak8.all∈Q∨mfF f q∈Q)→∃p'∈P,∃q'∈Q,p'.meets q'=true:=fun {p q P Q} hm hp hq=>by
     rcases hp with hp|hp<;>rcases hq with hq|hq
     ·exact⟨_,hp,_,hq,rfl⟩
     ·exact⟨_,hp,_,hq,aO2 _⟩
     ·exact⟨_,hp,_,hq,aOU _⟩
     ·exact⟨_,hp,_,hq,aCV f _ _ hm⟩
    simp only[ar9,aGL,azT,azU,aoU,auW]at hk ⊢
    rcases hk with⟨_,⟨e,he,rfl⟩,b,hb,hm⟩|⟨_,⟨e,he,rfl⟩,b,hb,hm⟩
    ·left
     rcases hb with⟨e',he',rfl⟩|hb
     ·obtain⟨p,hp,q,hq,hpq⟩:=mt hm (a2 e he) (b2 e' he')
      exact⟨p,hp,q,.inl hq,hpq⟩
     ·obtain⟨p,hp,q,hq,hpq⟩:=mt hm (a2 e he) (b3 b hb)
      exact⟨p,hp,q,.inr hq,hpq⟩
    ·right
     obtain⟨p,hp,q,hq,hpq⟩:=mt hm (b2 e he) (a3 b hb)
     exact⟨p,hp,q,hq,hpq⟩
theorem asZ(f:Nat→Nat)(lg:List (List ak8 × List ak8)){C:R→Prop}{ops:List Oper}{log:Log}{k:R}(hb:aFO ops lg=true)(hc:au9 f log lg)(h:True→C k):C (apH (an7 ops log) k):=aTH (aSK f lg hc hb) h
theorem aRG(f:Nat→Nat):au9 f [] []=True:=rfl
theorem aQO(f:Nat→Nat)(es:List acP)(fs:List ak8)(l:Log)(w r:List ak8)(l':List (List ak8 × List ak8)):au9 f ((es,fs)::l) ((w,r)::l')=((∀e∈es,ak8.all∈w∨mfF f e.foot∈w)∧(∀x∈fs,ak8.all∈r∨mfF f x∈r)∧au9 f l l'):=rfl
theorem aC3{f:Nat→Nat}:∀{cs:List CB} {base:Nat} {ns:List acP},ao8 f base cs=some ns→∀e∈ns,∃b,e.foot=.blk b∧base≤b
 | [],base,ns,h,e,he=>by simp[ao8]at h;subst h;simp at he
 |c::cs,base,ns,h,e,he=>by
  simp only[ao8,aeG,acQ]at h
  obtain⟨c1,_,ns',h2,rfl⟩:=h
  rcases atT.1 he with rfl|he
  ·exact⟨base,rfl,Nat.le_refl _⟩
  ·obtain⟨b,h3,h4⟩:=aC3 h2 e he
   exact⟨b,h3,by omega⟩
theorem a0R{O:Orc}{H:aaP}{f:Nat}{args vs:List AV}{v:AV}{h':aaP}(hh:pkd O f args)(ha:afG (rdV H) args=some vs)(hp:vs.all (ahO 8)=true)
 (hc:O.call (.fn f) vs []=some (.ret v,h')) (h1:∀f,∃y,alC 8 f v=some y) (h2:∀c∈h',Rnm c) (hl:args.flatMap (ahD 12 (hf H))=[]):
 ∃v1 es cs1,cl O H (some (.func (.func f) [] [])) (some args)=some (.ret v1,es)∧alZ H es=H++cs1∧afG (amM fun i=>H.length+i) h'=some cs1∧alC 8 (fun i=>H.length+i) v=some v1∧∀e∈es,∃b,e.foot=.blk b∧H.length≤b:=by
 obtain⟨v1,e1⟩:=h1 (fun i=>H.length+i)
 obtain⟨ns,cs1,e2,e3,e4⟩:=aDB (f:=fun i=>H.length+i) h2 H.length
 have key:cl O H (some (.func (.func f) [] [])) (some args)=some (.ret v1,ns):=by
  rw[aDJ hh,aE6 ha hp,hc]
  simp only[crR,aoF,Out.v,e1,e2,arI,Out.map,hl]
  split<;>rfl
 exact⟨v1,ns,cs1,key,e3 H,e4,e1,aC3 e2⟩
theorem aL4(n:Nat)(b:Nat):(fun i=>if n≤i then some (i-n)else none:Nat→Option Nat) (n+b)=some b:=by simp
theorem aGF{H:aaP}{h' cs1:aaP}(h:afG (amM fun i=>H.length+i) h'=some cs1):aNH (fun i=>if H.length≤i then some (i-H.length)else none) (hf (H++cs1)) (hf h'):=fun i b hi z hz=>by
 simp only at hi
 split at hi
 ·rename_i hle
  simp only[atV.injEq]at hi
  obtain⟨c,hcc,hcz⟩:=aeG.1 hz
  obtain⟨c1,g1,g2⟩:=asB h (show h'[b]?=some c from hcc)
  obtain⟨rows',r1,r2,r3⟩:=aQV (F:=fun i=>if H.length≤i then some (i-H.length)else none) (aL4 H.length) g2 hcz
  refine⟨rows',?_,r2,r3⟩
  show((H++cs1)[i]?).bind agI=_
  rw[av7 (by omega),hi,g1]
  exact r1
 ·cases hi
theorem aP6(g:HF){vs:List AV}(hp:vs.all (ahO 8)=true):aqK g [] vs=some (vs,[],[]):=by
 simp only[apD]at hp
 rw[aqK,aq1 fun x hx=>aqI [] (hp x hx)];rfl
theorem aBW{O:Orc}{H:aaP}{f:Nat}{args vs:List AV}(hh:pkd O f args)(ha:afG (rdV H) args=some vs)(hp:vs.all (ahO 8)=true):
 ∃fs,ftC O H (some (.func (.func f) [] [])) (some args)=some fs∧∀x∈fs,∃b∈args.flatMap (ahD 12 (hf H)),x=.blk b:=by
 have key:ftR H args=some ((args.flatMap (ahD 12 (hf H))).map ak8.blk):=by rw[aSS,ha,aHU,aP6 _ hp,aIS,atY]
 have e:ftC O H (some (.func (.func f) [] [])) (some args)=some []∨ftC O H (some (.func (.func f) [] [])) (some args)=some ((args.flatMap (ahD 12 (hf H))).map ak8.blk):=by
  rw[aGQ]
  simp only[auT,atY]
  split
  ·rename_i hd
   right
   rw[aWY,if_neg (by rw[hh hd];simp)];exact key
  ·split
   ·exact .inl rfl
   ·exact .inr key
 rcases e with e|e
 ·exact⟨_,e,fun x hx=>by cases hx⟩
 ·exact⟨_,e,fun x hx=>by obtain⟨b,hb,rfl⟩:=auW.1 hx;exact⟨b,hb,rfl⟩⟩
theorem aSD{m m':List Nat}{c c':CB}(h:ar8 m c=some (c',m'))(hl:∃st fl w rows,c=.live st fl w rows):∃st fl w rows,c'=.live st fl w rows:=by
 obtain⟨st,fl,w,rows,rfl⟩:=hl
 cases fl with
 |true=>simp[ar8]at h;obtain⟨rfl,_⟩:=h;exact⟨_,_,_,_,rfl⟩
 |false=>simp only[ar8,acQ]at h;obtain⟨⟨r,m1⟩,_,h⟩:=h;cases h;exact⟨_,_,_,_,rfl⟩
theorem aJ3{f:Nat→Nat}{c c':CB}(h:amM f c=some c')(hl:∃st fl w rows,c=.live st fl w rows):∃st fl w rows,c'=.live st fl w rows:=by
 obtain⟨st,fl,w,rows,rfl⟩:=hl
 cases fl with
 |true=>simp[amM]at h;subst h;exact⟨_,_,_,_,rfl⟩
 |false=>simp only[amM,acQ]at h;obtain⟨r,_,rfl⟩:=h;exact⟨_,_,_,_,rfl⟩
theorem aG1{g:HF}:∀{d e:Nat} {v:AV} {p:AV × List Nat},d≤e→rd d g v=some p→hasImm e v=false
 |0,e,v,p,_,h=>by simp[rd]at h
 |d+1,0,v,p,he,h=>by omega
 |d+1,e+1,v,p,he,h=>by
  have L:∀{l:List AV} {q:List AV × List Nat},rdL (rd d g) l=some q→l.any (hasImm e)=false:=fun {l}=>by
   induction l with
   |nil=>exact fun _=>rfl
   |cons a l ih=>
    intro q h
    simp only[rdL,aeG,acQ]at h
    obtain⟨b,hb,c,hc,_⟩:=h
    rw[an9,aG1 (by omega) hb,ih hc];rfl
  cases v with
  |agg cs=>simp only[rd,acQ]at h;obtain⟨_,h,_⟩:=h;exact L h
  |iface t x=>simp only[rd,acQ]at h;obtain⟨_,h,_⟩:=h;show hasImm e x=false;exact aG1 (show d≤e by omega) h
  |func fn a b=>cases a<;>cases b<;>first|rfl|(simp[rd]at h)
  |tup cs=>simp[rd]at h
  |imm=>simp[rd]at h
  |iptr=>simp[rd]at h
  |_=>rfl
theorem aCT:∀{e:Nat} {m m':List Nat} {x y:AV},alF e m x=some (y,m')→hasImm e y=hasImm e x
 |0,m,m',x,y,h=>by simp[alF]at h
 |e+1,m,m',x,y,h=>by
  have L:∀{l l':List AV} {m m':List Nat},alF.refL (alF e) m l=some (l',m')→l'.any (hasImm e)=l.any (hasImm e):=fun {l}=>by
   induction l with
   |nil=>intro l' m m' h;simp[alF.refL]at h;rw[h.1]
   |cons a l ih=>
    intro l' m m' h
    simp only[alF.refL,aeG,acQ]at h
    obtain⟨⟨b,m1⟩,hb,⟨c,m2⟩,hc,he⟩:=h
    cases he
    rw[an9,an9,aCT hb,ih hc]
  cases x with
  |agg cs=>simp only[alF,acQ]at h;obtain⟨⟨c,m1⟩,h,he⟩:=h;cases he;exact L h
  |tup cs=>simp only[alF,acQ]at h;obtain⟨⟨c,m1⟩,h,he⟩:=h;cases he;exact L h
  |iface t x=>simp only[alF,acQ]at h;obtain⟨⟨c,m1⟩,h,he⟩:=h;cases he;show hasImm e c=hasImm e x;exact aCT h
  |func fn a b=>
   simp only[alF,aeG,acQ]at h
   obtain⟨⟨c,m1⟩,h1,⟨d,m2⟩,h2,he⟩:=h
   cases he
   show(c.any _||d.any _)=(a.any _||b.any _)
   rw[L h1,L h2]
  |_=>simp only[alF,atV.injEq,Prod.mk.injEq]at h;obtain⟨rfl,_⟩:=h;rfl
theorem aCI{f:Nat→Nat}:∀{e:Nat} {x y:AV},alC e f x=some y→hasImm e y=hasImm e x
 |0,x,y,h=>by simp[alC]at h
 |e+1,x,y,h=>by
  have L:∀{l l':List AV},afG (alC e f) l=some l'→l'.any (hasImm e)=l.any (hasImm e):=fun {l}=>by
   induction l with
   |nil=>intro l' h;simp[afG]at h;rw[h]
   |cons a l ih=>
    intro l' h
    simp only[afG,aeG,acQ]at h
    obtain⟨b,hb,c,hc,rfl⟩:=h
    rw[an9,an9,aCI hb,ih hc]
  cases x with
  |agg cs=>simp only[alC,acQ]at h;obtain⟨_,h,rfl⟩:=h;exact L h
  |tup cs=>simp only[alC,acQ]at h;obtain⟨_,h,rfl⟩:=h;exact L h
  |iface t x=>simp only[alC,acQ]at h;obtain⟨c,h,rfl⟩:=h;show hasImm e c=hasImm e x;exact aCI h
  |func fn a b=>
   simp only[alC,aeG,acQ]at h
   obtain⟨c,h1,d,h2,rfl⟩:=h
   show(c.any _||d.any _)=(a.any _||b.any _)
   rw[L h1,L h2]
  |_=>simp only[alC,atV.injEq]at h;subst h;rfl
theorem awX:∀{l l':List (List AV)} {m m':List Nat},ao3 m l=some (l',m')→(l'.any fun cs=>cs.any (hasImm 8))=l.any fun cs=>cs.any (hasImm 8)
 | [],l',m,m',h=>by simp[ao3]at h;rw[h.1]
 |r::l,l',m,m',h=>by
  simp only[ao3,aeG,acQ]at h
  obtain⟨⟨b,m1⟩,hb,⟨c,m2⟩,hc,he⟩:=h
  cases he
  have L:∀{l l':List AV} {m m':List Nat},alF.refL (alF 8) m l=some (l',m')→l'.any (hasImm 8)=l.any (hasImm 8):=fun {l}=>by
   induction l with
   |nil=>intro l' m m' h;simp[alF.refL]at h;rw[h.1]
   |cons a l ih=>
    intro l' m m' h
    simp only[alF.refL,aeG,acQ]at h
    obtain⟨⟨b,m1⟩,hb,⟨c,m2⟩,hc,he⟩:=h
    cases he
    rw[an9,an9,aCT hb,ih hc]
  rw[an9,an9,L hb,awX hc]
theorem awT{f:Nat→Nat}:∀{l l':List (List AV)},afG (afG (alC 8 f)) l=some l'→(l'.any fun cs=>cs.any (hasImm 8))=l.any fun cs=>cs.any (hasImm 8)
 | [],l',h=>by simp[afG]at h;rw[h]
 |r::l,l',h=>by
  simp only[afG,aeG,acQ]at h
  obtain⟨b,hb,c,hc,rfl⟩:=h
  have L:∀{l l':List AV},afG (alC 8 f) l=some l'→l'.any (hasImm 8)=l.any (hasImm 8):=fun {l}=>by
   induction l with
   |nil=>intro l' h;simp[afG]at h;rw[h]
   |cons a l ih=>
    intro l' h
    simp only[afG,aeG,acQ]at h
    obtain⟨b,hb,c,hc,rfl⟩:=h
    rw[an9,an9,aCI hb,ih hc]
  rw[an9,an9,L hb,awT hc]
theorem ax4{g:HF}{d:Nat}(hd:d≤8):∀{l:List (List AV)} {q:List (List AV) × List Nat},alA (rd d g) l=some q→(l.any fun cs=>cs.any (hasImm 8))=false
 | [],q,h=>rfl
 |r::l,q,h=>by
  simp only[alA,aeG,acQ]at h
  obtain⟨b,hb,c,hc,rfl⟩:=h
  have L:∀{l:List AV} {q:List AV × List Nat},rdL (rd d g) l=some q→l.any (hasImm 8)=false:=fun {l}=>by
   induction l with
   |nil=>exact fun _=>rfl
   |cons a l ih=>
    intro q h
    simp only[rdL,aeG,acQ]at h
    obtain⟨b,hb,c,hc,_⟩:=h
    rw[an9,aG1 (by omega) hb,ih hc];rfl
  rw[an9,L hb,ax4 hd hc];rfl
theorem a3M{g:HF}{S:List Nat}(H:Cl g S){b:Nat}(hb:b∈S){c c':CB}{m m':List Nat}(hc:g b=some c)(h:ar8 m c=some (c',m')):c'.hasImm=false:=by
 obtain⟨z,hz,hr⟩:=H b hb
 rw[hc]at hz
 cases c with
 |live st fl w rows=>
  simp[agI]at hz;subst hz
  cases fl with
  |true=>simp[ar8]at h;obtain⟨rfl,_⟩:=h;rfl
  |false=>
   simp only[ar8,acQ]at h
   obtain⟨⟨r,m1⟩,h,he⟩:=h
   cases he
   obtain⟨d,q,hd,hq,_⟩:=hr rfl
   exact(awX h).trans (ax4 hd hq)
 |frz st fl rows=>
  simp[agI]at hz;subst hz
  cases fl with
  |true=>simp[ar8]at h;obtain⟨rfl,_⟩:=h;rfl
  |false=>
   simp only[ar8,acQ]at h
   obtain⟨⟨r,m1⟩,h,he⟩:=h
   cases he
   obtain⟨d,q,hd,hq,_⟩:=hr rfl
   exact(awX h).trans (ax4 hd hq)
 |dead=>simp[agI]at hz
 |lp=>simp[agI]at hz
theorem aVO{f:Nat→Nat}{c c':CB}(h:amM f c=some c')(hi:c.hasImm=false)(hr:∃z,agI c=some z):c'.hasImm=false:=by
 obtain⟨z,hz⟩:=hr
 cases c with
 |live st fl w rows=>
  cases fl with
  |true=>simp[amM]at h;subst h;rfl
  |false=>simp only[amM,acQ]at h;obtain⟨r,h,rfl⟩:=h;exact(awT h).trans hi
 |frz st fl rows=>
  cases fl with
  |true=>simp[amM]at h;subst h;rfl
  |false=>simp only[amM,acQ]at h;obtain⟨r,h,rfl⟩:=h;exact(awT h).trans hi
 |dead=>simp[agI]at hz
 |lp=>simp[agI]at hz
theorem aKH{g:HF}{S:List Nat}(H:Cl g S):∀(n i:Nat) (m:List Nat) {cs:List CB} {m':List Nat},(∀b∈m,b∈S)→ap3 n g i m=some (cs,m')→
 m <+:m'∧∀j c',cs[j]?=some c'→∃b c,m'[i+j]?=some b∧g b=some c∧((∃st fl w rows,c=.live st fl w rows)→∃st fl w rows,c'=.live st fl w rows)∧c'.hasImm=false
 |0,i,m,cs,m',hs,h=>by simp[ap3]at h
 |n+1,i,m,cs,m',hs,h=>by
  unfold ap3 at h
  cases hm:m[i]? with
  |none=>rw[hm]at h;simp at h;obtain⟨rfl,rfl⟩:=h;exact⟨av8 _,fun j c' hj=>by simp at hj⟩
  |some b=>
   rw[hm]at h
   obtain⟨c,c',m1,z,k1,k2,k3,g1,k4,k5⟩:=spB H (hs b (at0 hm)) m
   simp only[k1,k3,aoF,acQ]at h
   obtain⟨⟨cs1,m2⟩,h2,h3⟩:=h
   cases h3
   obtain⟨p1,p2⟩:=aKH H n (i+1) m1 (fun b hb=>(g1.sub b hb).elim (hs b) id) h2
   refine⟨g1.pre.trans p1,fun j x hj=>?_⟩
   cases j with
   |zero=>
    simp at hj;subst hj
    exact⟨b,c,aqQ (g1.pre.trans p1) (by simpa using hm),k1,fun hl=>aSD k3 hl,a3M H (hs b (at0 hm)) k1 k3⟩
   |succ j=>
    simp at hj
    obtain⟨b',c1,a1,a2⟩:=p2 j x hj
    exact⟨b',c1,by rw[←a1];congr 1;omega,a2⟩
def Rws(c:CB):Prop:=∃z,agI c=some z
theorem Rws.quiet{c:CB}(h:Rws c):c.quiet c.clean=true:=by
 obtain⟨z,h⟩:=h
 cases c<;>first|rfl|(simp[agI]at h)
theorem Rws.ren{f:Nat→Nat}{c c':CB}(h:Rws c)(hr:amM f c=some c'):Rws c':=by
 obtain⟨z,h⟩:=h
 cases c with
 |live st fl w rows=>obtain⟨st,fl,w,rows,rfl⟩:=aJ3 hr ⟨_,_,_,_,rfl⟩;exact⟨_,rfl⟩
 |frz st fl rows=>
  cases fl with
  |true=>simp[amM]at hr;subst hr;exact⟨_,rfl⟩
  |false=>simp only[amM,acQ]at hr;obtain⟨r,_,rfl⟩:=hr;exact⟨_,rfl⟩
 |_=>simp[agI]at h
theorem Rws.renL{f:Nat→Nat}{cs cs1:aaP}(h:∀c∈cs,Rws c)(hr:afG (amM f) cs=some cs1):∀c∈cs1,Rws c:=fun c hc=>by
 obtain⟨i,hi⟩:=ayL hc
 obtain⟨h1,h2⟩:=an5 hr
 obtain⟨a,ha,hf⟩:=h2 i c hi
 exact(h a (at0 ha)).ren hf
theorem aV1{h:aaP}{v:AV}{R:List Nat}(hs:Sp 8 v R)(hc:Cl (hf h) R)(hR:R.length<5000):
 ∃v' cs F,ar0 0 v h=some (v',cs)∧aNH F (hf cs) (hf h)∧aoH 8 F v'=some v∧(∀c∈cs,Rnm c)∧(∀c∈cs,Rws c∧c.hasImm=false)∧∀i b,F i=some b→(∃st fl w rows,h[b]?=some (.live st fl w rows))→∃st fl w rows,cs[i]?=some (.live st fl w rows):=by
 obtain⟨v',m,e1,g1,k1⟩:=hs []
 have hm:∀b∈m,b∈R:=fun b hb=>(g1.sub b hb).elim (fun h=>by cases h) id
 obtain⟨cs,m',e2,p1,p2,p3,p4,p5,p6⟩:=spC hc 5000 0 m (g1.nd aBV) hm (by omega) (Nat.zero_le _)
 obtain⟨_,q2⟩:=aKH hc 5000 0 m hm e2
 refine⟨v',cs,fun i=>m'[i]?,by simp[ar0,aqK,alF.refL,e1,e2,aBX],fun i b hi z hz=>?_,k1 _ (fun _ _ h=>aqQ p1 h),p5,fun c hc=>?_,fun i b hi hb=>?_⟩
 ·have hlt:=(aoG.1 hi).1
  obtain⟨b',z',a1,a2,rows',a3,a4,a5⟩:=p6 (fun i=>m'[i]?) (fun _ _ h=>h) i _ (apM (by omega))
  rw[axA]at a1
  have hbb:b=b':=by have hi':m'[i]?=some b:=hi;rw[hi']at a1;cases a1;rfl
  subst hbb
  rw[hz]at a2;cases a2
  exact⟨rows',by show(cs[i]?).bind agI=_;rw[apM (by omega)];exact a3,a4,a5⟩
 ·obtain⟨j,hj⟩:=ayL hc
  obtain⟨b',z',a1,a2,rows',a3,a4,a5⟩:=p6 (fun i=>m'[i]?) (fun _ _ h=>h) j _ hj
  obtain⟨_,_,_,_,_,a6⟩:=q2 j _ hj
  exact⟨⟨_,a3⟩,a6⟩
 ·have hlt:=(aoG.1 hi).1
  obtain⟨b',c,a1,a2,a3,_⟩:=q2 i _ (apM (show i<cs.length by omega))
  rw[axA]at a1
  have hbb:b=b':=by have hi':m'[i]?=some b:=hi;rw[hi']at a1;cases a1;rfl
  subst hbb
  obtain⟨s1,f1,w1,r1,hc2⟩:=hb
  obtain⟨st,fl,w,rows,e⟩:=a3 ⟨s1,f1,w1,r1,by have h3:h[b]?=some c:=a2;rw[hc2]at h3;cases h3;rfl⟩
  exact⟨st,fl,w,rows,by rw[apM (by omega),e]⟩
theorem aIH{g:HF}{d e:Nat}(h:d≤e){l:List AV}{p:List AV × List Nat}(hr:rdL (rd d g) l=some p):rdL (rd e g) l=some p:=auZ hr fun _ _ _ hq _=>aGK h hq
theorem aMX{f:AV→Option (AV × List Nat)}:∀{a b x y:List AV} {R1 R2:List Nat},rdL f a=some (x,R1)→rdL f b=some (y,R2)→rdL f (a++b)=some (x++y,R1++R2)
 | [],b,x,y,R1,R2,h1,h2=>by simp[rdL]at h1;obtain⟨rfl,rfl⟩:=h1;exact h2
 |c::a,b,x,y,R1,R2,h1,h2=>by
  simp only[rdL,aeG,acQ]at h1
  obtain⟨q,hq,⟨r1,r2⟩,hr,he⟩:=h1
  cases he
  have:=aMX hr h2
  simp[rdL,hq,this]
def wo(g:HF)(p:Nat):HF:=fun b=>if b=p then none else g b
theorem a3V{g:HF}{p:Nat}(R:List Nat):Agr R (wo g p) g:=fun b _ z hz=>by
 unfold wo at hz
 split at hz
 ·cases hz
 ·exact hz
theorem a3E{g:HF}{p:Nat}{l:List AV}{q:List AV × List Nat}{d:Nat}(hd:d≤9)(h:rdL (rd d (wo g p)) l=some q):p∉q.2:=fun hp=>by
 obtain⟨z,hz,_⟩:=clL h (fun x _ q hx=>aD4 hd hx) p hp
 simp[wo]at hz
def PB(g:HF)(p st:Nat)(X:List AV)(k:Nat):Prop:=∃w row R,g p=some (.live st false w [row])∧rdL (rd 6 (wo g p)) row=some (X,R)∧R.length≤k
theorem PB.of{g:HF}{p st k:Nat}{X:List AV}{w:Bool}{row:List AV}{R:List Nat}(h:g p=some (.live st false w [row]))(hr:rdL (rd 6 g) row=some (X,R))(hp:p∉R)(hk:R.length≤k):PB g p st X k:=
 ⟨w,row,R,h,aq7 hr (fun b hb z hz=>by unfold wo;rw[if_neg (fun e=>hp (by rw[←e];exact hb))];exact hz),hk⟩
theorem PB.get{g:HF}{p st k:Nat}{X:List AV}(h:PB g p st X k):∃w row R,g p=some (.live st false w [row])∧rdL (rd 6 g) row=some (X,R)∧p∉R∧R.length≤k:=by
 obtain⟨w,row,R,h1,h2,h3⟩:=h
 exact⟨w,row,R,h1,aq7 h2 (a3V R),a3E (by omega) h2,h3⟩
theorem PB.ren{F:Nat→Option Nat}{g' g:HF}(H:aNH F g' g){i p st k:Nat}{X:List AV}(hi:F i=some p)(hl:∃st fl w rows,g' i=some (.live st fl w rows))(h:PB g p st X k):PB g' i st X k:=by
 obtain⟨w,row,R,h1,h2,h3⟩:=h
 obtain⟨st',fl,w',rows,hl⟩:=hl
 obtain⟨rows',k1,_,k3⟩:=H i p hi (st,false,[row]) (by rw[h1];rfl)
 rw[hl]at k1
 simp only[aoF,agI,atV.injEq,Prod.mk.injEq]at k1
 obtain⟨rfl,rfl,rfl⟩:=k1
 have k3:=k3 rfl
 obtain⟨row',rfl⟩:∃r,rows=[r]:=by
  have:=arH k3
  match rows,this with
  | [r],_=>exact⟨r,rfl⟩
 simp only[afG,aeG,arI,atV.injEq,avD.injEq,and_true,exists_eq_right]at k3
 have H0:aNH F (wo g' i) (wo g p):=fun j b hj z hz=>by
  have hbp:b≠p:=fun e=>by subst e;simp[wo]at hz
  have hji:j≠i:=fun e=>by subst e;rw[hi]at hj;cases hj;exact hbp rfl
  simp only[wo,if_neg hbp,if_neg hji]at hz ⊢
  exact H j b hj z hz
 obtain⟨R',a1,a2,_⟩:=azA (f':=rd 6 (wo g' i)) (Z:=fun i=>∃b,F i=some b) k3 h2 (fun x' x q a b=>aD1 H0 a b)
 exact⟨w',row',R',hl,a1,by rw[a2];exact h3⟩
theorem a2T{h:aaP}{p st k:Nat}{X:List AV}{n:Int}{ki:IntKind}{Q:Out→aaP→Prop}(hp:PB (hf h) p st X k)(hk:k<4000)
 (q:∀i h',PB (hf h') i st X k→(∀c∈h',Rnm c)→(∀c∈h',Rws c∧c.hasImm=false)→Q (.ret (.tup [.ptr i 0 0,.int ki n])) h'):Rt 0 (some [.ptr p 0 0,.int ki n]) h Q:=by
 obtain⟨w,row,R,h1,h2,h3⟩:=hp.get
 obtain⟨h3,h4⟩:=h3
 have hs:Sp 8 (.tup [.ptr p 0 0,.int ki n]) (p::R):=fun m=>
  ⟨.tup [.ptr (place m p).1 0 0,.int ki n],(place m p).2,by simp[alF,alF.refL],aJS m p (aoD ..),fun F hF=>by simp[aoH,afG,hF _ _ (aqT m p).1]⟩
 have hc:Cl (hf h) (p::R):=fun b hb=>by
  rcases atT.1 hb with rfl|hb
  ·exact⟨_,by rw[h1];rfl,fun _=>⟨6,([X],R++[]),by omega,by simp[alA,h2],fun x hx=>am7 _ (by simpa using hx)⟩⟩
  ·obtain⟨z,k1,k2⟩:=clL h2 (fun x _ q hx=>aD4 (by omega) hx) b hb
   exact⟨z,k1,fun e=>by obtain⟨d,q,a1,a2,a3⟩:=k2 e;exact⟨d,q,a1,a2,fun x hx=>am7 _ (a3 x hx)⟩⟩
 obtain⟨v',cs,F,e1,e2,e3,e4,e6,e5⟩:=aV1 hs hc (by simp;omega)
 obtain⟨o1,rfl,ho⟩:=aRT e3
 have key:∃i,o1=[.ptr i 0 0,.int ki n]∧F i=some p:=by
  have hl:=arH ho
  match o1,hl with
  | [a,b],_=>
    simp only[afG,aeG,acQ]at ho
    obtain⟨a',ha,r,⟨b',hb,r',hr,rfl⟩,he⟩:=ho
    simp only[avD.injEq]at he
    obtain⟨rfl,rfl,_⟩:=he
    have hb1:b=.int ki n:=by
     cases b with
     |func fn a b=>simp only[aoH,aeG,acQ]at hb;obtain⟨_,_,_,_,hb⟩:=hb;cases hb
     |_=>simp[aoH]at hb<;>first|(obtain⟨rfl,rfl⟩:=hb;rfl)|skip
    have ha1:∃i,a=.ptr i 0 0∧F i=some p:=by
     cases a with
     |func fn a b=>simp only[aoH,aeG,acQ]at ha;obtain⟨_,_,_,_,ha⟩:=ha;cases ha
     |ptr b r o=>simp only[aoH,acQ]at ha;obtain⟨b',hb,he⟩:=ha;cases he;exact⟨b,rfl,hb⟩
     |_=>simp[aoH]at ha
    obtain⟨i,rfl,hi⟩:=ha1
    exact⟨i,by rw[hb1],hi⟩
 obtain⟨i,rfl,hi⟩:=key
 refine⟨_,_,by simp[aPV,asW,e1],q i cs (PB.ren e2 hi (e5 i p hi ⟨_,_,_,_,h1⟩) hp) e4 e6⟩
theorem aM8{O:Orc}{H:aaP}{f:Nat}{args:List AV}{o:Out}{l:aaP}(hd:hdR args=true)(hm:O.md f=true)(hc:O.call (.sh f) args (clH H)=some (o,clH H++l))(hq:ajX H=true):
 cl O H (some (.func (.func f) [] [])) (some args)=some (o,aqN H.length l):=by
 rw[aMP]
 simp only[auT,atY,hd,if_true,shC,hm,Bool.or_true,hc]
 rw[aT5,aMA hq]
 simp
theorem aMV{O:Orc}{H:aaP}{f:Nat}{args:List AV}{o:Out}(hd:hdR args=true)(hm:O.md f=true)(hc:O.call (.sh f) args (clH H)=some (o,clH H))(hq:ajX H=true):
 cl O H (some (.func (.func f) [] [])) (some args)=some (o,[]):=by
 have:=aM8 (l:=[]) hd hm (by simpa using hc) hq
 simpa [aqN]using this
theorem atK{H:aaP}(h:∀c∈H,c.quiet c.clean=true):ajX H=true:=by simp only[ajX,apD];exact h
theorem asG{H:aaP}(h:ajX H=true){b:Nat}{c:CB}(hb:H[b]?=some c):c.quiet c.clean=true:=by
 simp only[ajX,apD]at h
 exact h c (at0 hb)
theorem aqG{H l:aaP}(h:ajX H=true)(hl:ajX l=true):ajX (H++l)=true:=by
 simp only[ajX,apD,aoU]at h hl ⊢
 exact fun c hc=>hc.elim (h c) (hl c)
theorem ayE{H:aaP}(h:ajX H=true)(b:Nat){c:CB}(hc:c.quiet c.clean=true):ajX (H.set b c)=true:=by
 simp only[ajX,apD]at h ⊢
 exact fun x hx=>(azS hx).elim (h x) (fun e=>e▸hc)
theorem aIA{c:CB}(h:c.quiet c.clean=true):c.clean.quiet c.clean.clean=true:=by cases c<;>first|rfl|exact h
theorem aAI{H:aaP}(h:ajX H=true):ajX (clH H)=true:=by
 simp only[ajX,clH,apD,auW]at h ⊢
 rintro c ⟨c0,h0,rfl⟩
 exact aIA (h c0 h0)
theorem aKW{c:CB}(h:c.quiet c.clean=true):c.mark.quiet c.mark.clean=true:=by cases c<;>first|rfl|exact h
theorem azI{H0 G:aaP}{X:List Nat}(hq:ajX H0=true)(K:aqH X (clH H0) G)(hX:∀b∈X,b<H0.length∧∀c0 c,H0[b]?=some c0→G[b]?=some c→c0.isLive=true∧c0.quiet c=false):
 aTQ H0 G∧(mrg H0 G).length=G.length∧(∀b,H0.length≤b→(mrg H0 G)[b]?=G[b]?)∧(∀b,b<H0.length→b∉X→(mrg H0 G)[b]?=H0[b]?)∧(∀b∈X,∀c,G[b]?=some c→(mrg H0 G)[b]?=some c.mark):=by
 have hlen:H0.length≤G.length:=by have:=K.len;rwa[axG]at this
 have old:∀b c0,H0[b]?=some c0→b∉X→G[b]?=some c0.clean:=fun b c0 h0 hb=>by
  rw[K.same b (by rw[axG];exact(aoG.1 h0).1) hb,avL h0]
 refine⟨⟨hlen,fun b c0 c h0 h1=>?_⟩,aMR hlen,fun b hb=>aMC hlen hb,fun b hb hn=>?_,fun b hb c hc=>?_⟩
 ·by_cases hb:b∈X
  ·exact .inr ((hX b hb).2 c0 c h0 h1).1
  ·rw[old b c0 h0 hb]at h1;cases h1
   exact .inl (asG hq h0)
 ·obtain⟨c0,h0⟩:∃c,H0[b]?=some c:=⟨_,apM hb⟩
  rw[h0];exact aIJ h0 (old b c0 h0 hn) (asG hq h0)
 ·obtain⟨h1,h2⟩:=hX b hb
  obtain⟨c0,h0⟩:∃c,H0[b]?=some c:=⟨_,apM h1⟩
  exact aL3 h0 hc (h2 c0 c h0 hc).2
theorem aOF{H0 G:aaP}{X:List Nat}(hq:ajX H0=true)(K:aqH X (clH H0) G)(hX:∀b∈X,b<H0.length∧∀c0 c,H0[b]?=some c0→G[b]?=some c→c0.isLive=true∧c0.quiet c=false)(hg:ajX G=true):ajX (mrg H0 G)=true:=by
 obtain⟨_,k1,k2,k3,k4⟩:=azI hq K hX
 refine atK fun c hc=>?_
 obtain⟨b,hb⟩:=ayL hc
 by_cases h1:b<H0.length
 ·by_cases h2:b∈X
  ·obtain⟨c1,h3⟩:∃c,G[b]?=some c:=⟨_,apM (by rw[←k1];exact(aoG.1 hb).1)⟩
   rw[k4 b h2 c1 h3]at hb;cases hb
   exact aKW (asG hg h3)
  ·rw[k3 b h1 h2]at hb;exact asG hq hb
 ·rw[k2 b (by omega)]at hb;exact asG hg hb
theorem aN5{H0 G:aaP}{X:List Nat}(hq:ajX H0=true)(K:aqH X (clH H0) G)(hX:∀b∈X,b<H0.length∧∀c0 c,H0[b]?=some c0→G[b]?=some c→c0.isLive=true∧c0.quiet c=false)(b:Nat):(hf (mrg H0 G) b).bind agI=(hf G b).bind agI:=by
 obtain⟨_,k1,k2,k3,k4⟩:=azI hq K hX
 show((mrg H0 G)[b]?).bind agI=(G[b]?).bind agI
 by_cases h1:b<H0.length
 ·by_cases h2:b∈X
  ·cases h3:G[b]? with
   |none=>rw[aAZ]at h3;have h4:=K.len;rw[axG]at h4;omega
   |some c1=>rw[k4 b h2 c1 h3];exact aPB c1
  ·rw[k3 b h1 h2,K.same b (by rw[axG];exact h1) h2]
   cases h3:H0[b]? with
   |none=>simp[clH,h3]
   |some c=>rw[avL h3];exact(ayD c).symm
 ·rw[k2 b (by omega)]
theorem aXZ{O:Orc}{f:Nat}{args vs:List AV}{h':aaP}{i st k:Nat}{X:List AV}{n:Int}{ki:IntKind}(H:aaP)(hh:pkd O f args)(ha:afG (rdV H) args=some vs)(hp:vs.all (ahO 8)=true)
 (hc:O.call (.fn f) vs []=some (.ret (.tup [.ptr i 0 0,.int ki n]),h')) (h2:∀c∈h',Rnm c) (h3:∀c∈h',Rws c∧c.hasImm=false) (hP:PB (hf h') i st X k):
 ∃j es l,cl O H (some (.func (.func f) [] [])) (some args)=some (.ret (.tup [.ptr j 0 0,.int ki n]),es)∧alZ H es=H++l∧H.length≤j∧(∀c∈l,Rws c)∧∃w row R,(H++l)[j]?=some (.live st false w [row])∧rdL (rd 6 (hf (H++l))) row=some (X,R)∧j∉R∧∀b∈R,H.length≤b:=by
 obtain⟨ns,cs1,e2,e3,e4⟩:=aDB (f:=fun i=>H.length+i) h2 H.length
 have hni:ns.any acP.hasImm=false:=by
  have:∀{cs ns:_} {base:Nat},ao8 (fun i=>H.length+i) base cs=some ns→(∀c∈cs,Rws c∧c.hasImm=false)→ns.any acP.hasImm=false:=fun {cs}=>by
   induction cs with
   |nil=>intro ns base h _;simp[ao8]at h;subst h;rfl
   |cons c cs ih=>
    intro ns base h hcs
    simp only[ao8,aeG,acQ]at h
    obtain⟨c1,h1,ns',h2,rfl⟩:=h
    have hc:=hcs c (aoD ..)
    rw[an9,ih h2 fun c hc=>hcs c (am7 _ hc)]
    show(c1.hasImm||false)=false
    rw[aVO h1 hc.2 hc.1];rfl
  exact this e2 h3
 have key:cl O H (some (.func (.func f) [] [])) (some args)=some (.ret (.tup [.ptr (H.length+i) 0 0,.int ki n]),ns):=by
  rw[aDJ hh,aE6 ha hp,hc]
  simp only[crR,aoF,Out.v,e2,arI,Out.map,hni]
  simp[alC,afG,hasImm]
 have hP2:=hP
 obtain⟨w,row,R,k1,k2,k3,k4⟩:=hP.get
 obtain⟨c1,g1,g2⟩:=asB e4 (show h'[i]?=some _ from k1)
 obtain⟨st',fl',w',rows',hl⟩:=aJ3 g2 ⟨_,_,_,_,rfl⟩
 have hj:(H++cs1)[H.length+i]?=some (.live st' fl' w' rows'):=by rw[av7 (by omega),Nat.add_sub_cancel_left,g1,hl]
 have hP3:PB (hf (H++cs1)) (H.length+i) st X k:=PB.ren (aGF e4) (aL4 H.length i) ⟨_,_,_,_,hj⟩ hP
 obtain⟨w2,row2,R2,m1,m2,m3,_⟩:=hP3.get
 have hrr:∃R3,rdL (rd 6 (hf (H++cs1))) row2=some (X,R3)∧∀b∈R3,H.length≤b:=by
  have hm1:(H++cs1)[H.length+i]?=some (.live st false w2 [row2]):=m1
  rw[hj]at hm1
  cases hm1
  rw[hl]at g2
  simp only[amM,acQ]at g2
  obtain⟨r,g3,g4⟩:=g2
  cases g4
  simp only[afG,aeG,arI,atV.injEq,avD.injEq,and_true,exists_eq_right]at g3
  have g5:=atG (fun a b hab=>atD (F:=fun i=>if H.length≤i then some (i-H.length)else none) (aL4 H.length) hab) g3
  obtain⟨R3,a1,a2,a3⟩:=azA (f':=rd 6 (hf (H++cs1))) (Z:=fun i=>∃b,(if H.length≤i then some (i-H.length)else none:Option Nat)=some b) g5 k2 (fun x' x q a b=>aD1 (aGF e4) a b)
  refine⟨R3,a1,fun b hb=>?_⟩
  obtain⟨c,hc⟩:=a3 b hb
  split at hc
  ·assumption
  ·cases hc
 obtain⟨R3,n1,n2⟩:=hrr
 have:R3=R2:=by rw[m2]at n1;cases n1;rfl
 subst this
 exact⟨_,ns,cs1,key,e3 H,Nat.le_add_right ..,Rws.renL (fun c hc=>(h3 c hc).1) e4,w2,row2,R3,m1,m2,m3,n2⟩
end
end Go.Ev
