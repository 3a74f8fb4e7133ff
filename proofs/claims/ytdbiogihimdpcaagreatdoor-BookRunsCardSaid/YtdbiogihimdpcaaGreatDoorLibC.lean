/- The evaluator and its soundness. -/
import Derived.Test.YtdbiogihimdpcaaGreatDoorLibB
import Derived.OrdersIn
import Derived.RangeFuncNested
open Eq renaming trans→aaS
open Option renaming bind_eq_some_iff→aaW,bind_some→aa0,some→acF,map_some→acK,map_eq_some_iff→ae7,getD_some→au7
open List renaming mem_cons_of_mem→aa6,mem_cons_self→abB,mem_singleton→abO,all_eq_true→abT,getElem?_eq_some_iff→abY,mem_flatMap→acZ,mem_range→aeP,filter_cons_of_pos→aeZ,getElem?_set→ae6,mem_map→ae8,filter_cons_of_neg→af4,getElem?_map→ai5,getElem?_eq_none→akJ,ext_getElem?→alC,getElem?_eq_getElem→alD,flatMap_cons→alE,mem_append_right→alF,mem_append→alG,any_eq_false→anY,length_cons→apM,range→apQ,mem_append_left→apT,mem_filter→ap5,getElem?_range→arH,getElem?_take→as1,getElem?_drop→auC,mem_of_getElem?→auR,mem_filterMap→auV,getElem?_append_left→au2,nil_append→au4,take_left'→au9,flatMap_eq_nil_iff→avA
open Nat renaming le_refl→ab9,le_trans→afM,strongRecOn→anI,lt_of_lt_of_le→apU,lt_trichotomy→apV
open Bool renaming false_eq_true→adV,and_eq_true→aeW,not_eq_true→ap2,and_assoc→arN
open Array renaming getD_eq_getD_getElem?→aeH,getElem?_eq_some_iff→aeM,foldl_toList→apY,all_eq_true'→ap8,replicate→aqW,getElem?_eq_none→au3,getElem?_toList→au5,getElem?_eq_getElem→au6,getElem?_replicate→au8
set_option linter.unusedSimpArgs false
set_option linter.unusedVariables false
namespace Go.Ev
open Go.RowKit
theorem oS(cs:List AV){vs us:List AV}{o p:Nat}(hd:o+vs.length≤p∨p+us.length≤o):
 Ee (Ee cs o vs) p us=Ee (Ee cs p us) o vs:=by
 apply alC
 intro j
 rw[Jp (Ee cs o vs),Jp (Ee cs p us),Jp cs vs,Jp cs us,Jw,Jw]
 by_cases a1:p≤j∧j<p+us.length∧j<cs.length
 ·rw[if_pos a1,if_neg (by omega),if_pos a1]
 ·rw[if_neg a1]
  by_cases a2:o≤j∧j<o+vs.length∧j<cs.length
  ·rw[if_pos a2,if_pos a2]
  ·rw[if_neg a2,if_neg a2,if_neg a1]
theorem xE(rows:List (List AV)){r q:Nat}{vs us:List AV}{o p:Nat}(hd:o+vs.length≤p∨p+us.length≤o):
 Nl (Nl rows r o vs) q p us=Nl (Nl rows q p us) r o vs:=by
 unfold Nl
 by_cases hrq:r=q
 ·subst hrq
  cases h:rows[r]? with
  |none=>simp[h]
  |some cs=>
   have hr:r<rows.length:=(abY.1 h).1
   simp[hr,oS cs hd]
 ·cases h:rows[r]? with
  |none=>
   cases h2:rows[q]? with
   |none=>simp[h,h2]
   |some cs2=>simp[ae6,Ne.symm hrq,h,h2]
  |some cs=>
   cases h2:rows[q]? with
   |none=>simp[ae6,hrq,h,h2]
   |some cs2=>simp only[ae6,hrq,Ne.symm hrq,if_false,h,h2];rw[List.set_comm _ _ hrq]
def Ad.eff:Ad→Option CB→Option CB
 | .new _ c,_=>some c
 | .put _ c,_=>some c
 | .cells _ r o vs,x=>match x with
   |some (.live st fl _ rows)=>some (.live st (fl&&vs.all AV.flat) true (Nl rows r o vs))
   |x=>x
theorem Lc(g:HF)(e:Ad)(i:Nat):Ce g e i=if i=e.id then e.eff (g i)else g i:=by
 cases e with
 |new b c=>by_cases hi:i=b<;>simp[Ce,Kv,Ad.id,Ad.eff,hi]
 |put b c=>by_cases hi:i=b<;>simp[Ce,Kv,Ad.id,Ad.eff,hi]
 |cells b r o vs=>
  by_cases hi:i=b
  ·subst hi
   simp only[Ce,Ad.id,Ad.eff,if_true]
   cases hg:g i with
   |none=>simp[hg]
   |some c=>cases c<;>simp[hg,Kv]
  ·have e:∀(x:Option CB) (y:HF),(match x with
    |some (.live st fl _ rows)=>Kv y b (.live st (fl&&vs.all AV.flat) true (Nl rows r o vs))
    |_=>y) i=y i:=fun x y=>by
    cases x with
    |none=>rfl
    |some c=>cases c<;>simp[Kv,hi]
   rw[if_neg (show ¬i=(Ad.cells b r o vs).id from hi)]
   exact e (g b) g
theorem ai1{e e':Ad}(Gs:e.id=e'.id)(h:e.foot.meets e'.foot=false)(x:Option CB):e'.eff (e.eff x)=e.eff (e'.eff x):=by
 cases e<;>cases e'<;>simp[Ad.id]at Gs<;>subst Gs<;>simp[Ad.foot,Et.meets]at h
 rename_i b r o vs r' o' vs'
 cases x with
 |none=>rfl
 |some c=>
  cases c with
  |live st fl w rows=>
   simp only[Ad.eff]
   rw[xE rows (by omega)]
   rw[arN,Bool.and_comm (vs.all AV.flat),←arN]
  |_=>rfl
theorem yI(g:HF){e e':Ad}(h:e.foot.meets e'.foot=false):Ce (Ce g e) e'=Ce (Ce g e') e:=by
 funext i
 rw[Lc,Lc,Lc,Lc]
 by_cases h1:i=e'.id
 ·by_cases h2:i=e.id
  ·rw[if_pos h1,if_pos h2,if_pos h2,if_pos h1];exact ai1 (h2.symm.trans h1) h _
  ·rw[if_pos h1,if_neg h2,if_neg h2,if_pos h1]
 ·by_cases h2:i=e.id
  ·rw[if_neg h1,if_pos h2,if_pos h2,if_neg h1]
  ·rw[if_neg h1,if_neg h2,if_neg h2,if_neg h1]
theorem nX(g:HF){e:Ad}:∀{es:List Ad},(∀x∈es,e.foot.meets x.foot=false)→Ax (Ce g e) es=Ce (Ax g es) e
 | [],_=>rfl
 |x::es,h=>by
  simp only[Ax]
  rw[yI g (h x (abB ..))]
  exact nX (Ce g x) (fun y hy=>h y (aa6 _ hy))
theorem qH:∀{es es':List Ad} (g:HF),(∀x∈es,∀y∈es',x.foot.meets y.foot=false)→Ax (Ax g es) es'=Ax (Ax g es') es
 | [],es',g,_=>rfl
 |e::es,es',g,h=>by
  simp only[Ax]
  rw[qH (Ce g e) (fun x hx=>h x (aa6 _ hx)),nX g (h e (abB ..))]
inductive Jy(o n:Nat):Option CB→Option CB→Prop
 |refl (x:Option CB):Jy o n x x
 |live {st st':Nat} {fl fl' w w':Bool} {rows rows':List (List AV)}:rows.length=rows'.length→
   (∀(r:Nat) cs cs',rows[r]?=some cs→rows'[r]?=some cs'→cs.length=cs'.length∧∀j,o≤j→j<o+n→cs[j]?=cs'[j]?)→Jy o n (some (.live st fl w rows)) (some (.live st' fl' w' rows'))
def Eh(g g':HF):Et→Prop
 | .blk b=>g' b=g b
 | .cells b o n=>Jy o n (g b) (g' b)
 | .all=>g'=g
theorem Jy.trans{o n:Nat}{x y z:Option CB}(h:Jy o n x y)(k:Jy o n y z):Jy o n x z:=by
 cases h with
 |refl=>exact k
 |live a b=>
  cases k with
  |refl=>exact .live a b
  |live c d=>
   refine .live (a.trans c) (fun r cs cs' h1 h2=>?_)
   have hr:=(abY.1 h1).1
   have h3:=alD (a▸hr)
   obtain⟨b1,b2⟩:=b r _ _ h1 h3
   obtain⟨d1,d2⟩:=d r _ _ h3 h2
   exact⟨b1.trans d1,fun j q1 q2=>(b2 j q1 q2).trans (d2 j q1 q2)⟩
theorem Eh.refl(g:HF)(f:Et):Eh g g f:=by
 cases f with
 |blk b=>rfl
 |cells b o n=>exact Jy.refl _
 |all=>rfl
theorem Eh.trans{g g' g'':HF}{f:Et}(h:Eh g g' f)(k:Eh g' g'' f):Eh g g'' f:=by
 cases f with
 |blk b=>exact aaS k h
 |cells b o n=>exact Jy.trans h k
 |all=>exact aaS k h
theorem Wy(rows:List (List AV))(r o:Nat)(vs:List AV):(Nl rows r o vs).length=rows.length:=by
 unfold Nl;split<;>simp
theorem cU{rows:List (List AV)}{r o:Nat}{vs:List AV}{q:Nat}{cs':List AV}(h:(Nl rows r o vs)[q]?=some cs'):∃cs,rows[q]?=some cs∧cs'=if q=r then Ee cs o vs else cs:=by
 unfold Nl at h
 split at h
 ·rename_i cs hr
  rw[ae6]at h
  by_cases hq:r=q
  ·subst hq
   have hlt:r<rows.length:=(abY.1 hr).1
   simp[hlt]at h;subst h
   exact⟨cs,hr,by simp⟩
  ·rw[if_neg hq]at h;exact⟨cs',h,by rw[if_neg (Ne.symm hq)]⟩
 ·rename_i hr
  refine⟨cs',h,?_⟩
  rw[if_neg (fun e=>by subst e;rw[hr]at h;cases h)]
theorem Eh.edit(g:HF){e:Ad}{f:Et}(h:e.foot.meets f=false):Eh g (Ce g e) f:=by
 cases f with
 |all=>cases e<;>simp[Ad.foot,Et.meets]at h
 |blk b=>
  show Ce g e b=g b
  rw[Lc,if_neg]
  intro hb
  cases e<;>simp[Ad.foot,Et.meets,Ad.id]at h hb<;>omega
 |cells b o n=>
  show Jy o n (g b) (Ce g e b)
  rw[Lc]
  by_cases hb:b=e.id
  ·rw[if_pos hb]
   cases e with
   |new b' c=>simp[Ad.foot,Et.meets,Ad.id]at h hb;omega
   |put b' c=>simp[Ad.foot,Et.meets,Ad.id]at h hb;omega
   |cells b' r o' vs=>
    simp only[Ad.id]at hb
    subst hb
    simp only[Ad.foot,Et.meets,beq_self_eq_true,Bool.true_and,Bool.and_eq_false_iff,decide_eq_false_iff_not]at h
    cases hg:g b with
    |none=>exact .refl _
    |some c=>
     cases c with
     |live st fl w rows=>
      refine .live (Wy ..).symm (fun q cs cs' h1 h2=>?_)
      obtain⟨cs0,k1,k2⟩:=cU h2
      rw[h1]at k1;cases k1
      subst k2
      by_cases hq:q=r
      ·rw[if_pos hq]
       refine⟨(Jw ..).symm,fun j q1 q2=>?_⟩
       rw[Jp,if_neg (by omega)]
      ·rw[if_neg hq];exact⟨rfl,fun _ _ _=>rfl⟩
     |_=>exact .refl _
  ·rw[if_neg hb];exact .refl _
theorem Eh.both{g g':HF}{f:Et}(h:Eh g g' f)(e:Ad):Eh (Ce g e) (Ce g' e) f:=by
 cases f with
 |all=>show Ce g' e=Ce g e;rw[show g'=g from h]
 |blk b=>
  show Ce g' e b=Ce g e b
  rw[Lc,Lc,show g' b=g b from h]
 |cells b o n=>
  show Jy o n (Ce g e b) (Ce g' e b)
  have h':Jy o n (g b) (g' b):=h
  rw[Lc,Lc]
  by_cases hb:b=e.id
  ·rw[if_pos hb,if_pos hb]
   generalize g b=x at h'
   generalize g' b=y at h'
   cases e with
   |new b' c=>exact .refl _
   |put b' c=>exact .refl _
   |cells b' r o' vs=>
    cases h' with
    |refl=>exact .refl _
    |live a d=>
     refine .live (by rw[Wy,Wy];exact a) (fun q cs cs' h1 h2=>?_)
     obtain⟨c1,k1,k2⟩:=cU h1
     obtain⟨c2,k3,k4⟩:=cU h2
     obtain⟨d1,d2⟩:=d q c1 c2 k1 k3
     subst k2 k4
     by_cases hq:q=r
     ·rw[if_pos hq,if_pos hq]
      refine⟨by rw[Jw,Jw];exact d1,fun j q1 q2=>?_⟩
      rw[Jp,Jp,d1]
      split
      ·rfl
      ·exact d2 j q1 q2
     ·rw[if_neg hq,if_neg hq];exact⟨d1,d2⟩
  ·rw[if_neg hb,if_neg hb];exact h'
theorem Eh.edits{f:Et}:∀{es:List Ad} (g:HF),(∀e∈es,e.foot.meets f=false)→Eh g (Ax g es) f
 | [],g,_=>.refl g f
 |e::es,g,h=>(Eh.edit g (h e (abB ..))).trans (Eh.edits _ (fun x hx=>h x (aa6 _ hx)))
theorem Eh.boths{f:Et}:∀{es:List Ad} {g g':HF},Eh g g' f→Eh (Ax g es) (Ax g' es) f
 | [],_,_,h=>h
 |e::es,_,_,h=>Eh.boths (es:=es) (h.both e)
theorem Eh.symm{g g':HF}{f:Et}(h:Eh g g' f):Eh g' g f:=by
 cases f with
 |all=>exact Eq.symm h
 |blk b=>exact Eq.symm h
 |cells b o n=>
  have h':Jy o n (g b) (g' b):=h
  show Jy o n (g' b) (g b)
  generalize g b=x at h'
  generalize g' b=y at h'
  cases h' with
  |refl=>exact .refl _
  |live a d=>exact .live a.symm (fun r cs cs' h1 h2=>⟨(d r cs' cs h2 h1).1.symm,fun j q1 q2=>((d r cs' cs h2 h1).2 j q1 q2).symm⟩)
section
variable {P:Program}
theorem Js{t t':List AV}:∀{xs:List Operand},(∀x∈xs,Ak t x=Ak t' x)→Dn t xs=Dn t' xs
 | [],_=>rfl
 |x::xs,h=>by
  simp only[Dn]
  rw[h x (abB ..),Js (fun y hy=>h y (aa6 _ hy))]
theorem mD{t t':List AV}{x:Option Operand}(h:∀y,x=some y→Ak t y=Ak t' y):zQ t x=zQ t' x:=by
 cases x with
 |none=>rfl
 |some y=>simp only[zQ];rw[h y rfl]
theorem aeR{g:HF}{base:Nat}{t t':List AV}{o:Op}(h:∀x∈o.operands.toList,Ak t x=Ak t' x):exec P g base t o=exec P g base t' o:=by
 cases o with
 |alloc t=>rfl
 |build ty ps=>simp only[exec];rw[Js (t:=t) (t':=t') (xs:=ps.toList.map (·.2)) (fun x hx=>h x (by simp only[Op.operands];exact hx))]
 |buildSlice ty n ps=>simp only[exec];rw[Js (t:=t) (t':=t') (xs:=ps.toList.map (·.2)) (fun x hx=>h x (by simp only[Op.operands];exact hx))]
 |makeFunc fn xs ys=>
  cases fn with
  |func f=>
   simp only[exec]
   rw[Js (xs:=xs.toList) (fun x hx=>h x (by simp[Op.operands];exact .inl (by simpa using hx))),Js (xs:=ys.toList) (fun x hx=>h x (by simp[Op.operands];exact .inr (by simpa using hx)))]
  |_=>simp[exec]
 |slice ty x lo hi mx=>
  cases mx with
  |some m=>simp[exec]
  |none=>
   simp only[exec]
   rw[h x (by simp[Op.operands]),mD (x:=lo) (fun y hy=>h y (by subst hy;simp[Op.operands])),mD (x:=hi) (fun y hy=>h y (by subst hy;simp[Op.operands]))]
 |call c=>
  obtain⟨cal,args,ts⟩:=c
  cases cal with
  |builtin b=>simp only[exec];rw[Js (xs:=args.toList) (fun x hx=>h x (by simpa [Op.operands,Call.operands]using hx))]
  |_=>simp[exec]
 |pick c a b=>simp only[exec];rw[h c (by simp[Op.operands]),h a (by simp[Op.operands]),h b (by simp[Op.operands])]
 |store _ a b=>simp only[exec];rw[h a (by simp[Op.operands]),h b (by simp[Op.operands])]
 |binOp _ _ a b _=>simp only[exec];rw[h a (by simp[Op.operands]),h b (by simp[Op.operands])]
 |makeSlice _ a b=>simp only[exec];rw[h a (by simp[Op.operands]),h b (by simp[Op.operands])]
 |indexAddr _ a b=>simp only[exec];rw[h a (by simp[Op.operands]),h b (by simp[Op.operands])]
 |index _ a b=>simp only[exec];rw[h a (by simp[Op.operands]),h b (by simp[Op.operands])]
 |move a=>simp only[exec];rw[h a (by simp[Op.operands])]
 |assign a=>simp only[exec];rw[h a (by simp[Op.operands])]
 |box _ a=>simp only[exec];rw[h a (by simp[Op.operands])]
 |load _ a=>simp only[exec];rw[h a (by simp[Op.operands])]
 |nilCheck a=>simp only[exec];rw[h a (by simp[Op.operands])]
 |unOp _ _ a=>simp only[exec];rw[h a (by simp[Op.operands])]
 |convert _ _ a=>simp only[exec];rw[h a (by simp[Op.operands])]
 |makeInterface _ a=>simp only[exec];rw[h a (by simp[Op.operands])]
 |fieldAddr _ a _=>simp only[exec];rw[h a (by simp[Op.operands])]
 |field _ a _=>simp only[exec];rw[h a (by simp[Op.operands])]
 |extract a _=>simp only[exec];rw[h a (by simp[Op.operands])]
 |_=>rfl
theorem wZ{t t':List AV}{c:Call}(h:∀x∈c.operands.toList,Ak t x=Ak t' x):callee t c=callee t' c:=by
 obtain⟨cal,args,ts⟩:=c
 cases cal with
 |value f=>simp only[callee];rw[h f (by simp[Call.operands]),Js (xs:=args.toList) (fun x hx=>h x (by simp[Call.operands];exact .inr (by simpa using hx)))]
 |_=>rfl
theorem Jy.row{o n:Nat}{g g':HF}{b:Nat}(h:Jy o n (g b) (g' b)){r:Nat}{cs:List AV}(hr:cA g b r=some cs):
 ∃cs',cA g' b r=some cs'∧cs'.length=cs.length∧∀j,o≤j→j<o+n→cs'[j]?=cs[j]?:=by
 unfold cA at hr ⊢
 generalize g b=x at h hr
 generalize g' b=y at h
 cases h with
 |refl=>exact⟨cs,hr,rfl,fun _ _ _=>rfl⟩
 | @live st st' fl fl' w w' rows rows' a d=>
   simp only at hr ⊢
   have hlt:=(abY.1 hr).1
   have h3:=alD (a▸hlt)
   obtain⟨d1,d2⟩:=d r _ _ hr h3
   exact⟨_,h3,d1.symm,fun j q1 q2=>(d2 j q1 q2).symm⟩
theorem oI{cs cs':List AV}{o n:Nat}(h1:cs'.length=cs.length)(h2:∀j,o≤j→j<o+n→cs'[j]?=cs[j]?):(cs'.drop o).take n=(cs.drop o).take n:=by
 apply alC
 intro j
 rw[as1,as1]
 split
 ·rw[auC,auC];exact h2 _ (by omega) (by omega)
 ·rfl
theorem aeU{g g':HF}{t:TypeId}{p:AV}{d:Lq}(h:Ru P g t p=some d)(ha:∀f∈d.fs,Eh g g' f):Ru P g' t p=some d:=by
 unfold Ru at h ⊢
 simp only[aaW]at h ⊢
 obtain⟨isA,h1,n,h2,h⟩:=h
 refine⟨isA,h1,n,h2,?_⟩
 cases p with
 |iptr cs=>cases isA<;>cases cs<;>exact h
 |ptr b r o=>
  cases isA with
  |true=>
   simp only[aaW]at h ⊢
   obtain⟨cs,h3,h⟩:=h
   split at h<;>simp at h
   rename_i hle
   subst h
   obtain⟨cs',k1,k2,k3⟩:=Jy.row (ha (.cells b o n) (abO.2 rfl)) h3
   exact⟨cs',k1,by rw[if_pos (by omega),oI k2 k3]⟩
  |false=>
   simp only[aaW,ae7]at h ⊢
   obtain⟨cs,h3,v,h4,rfl⟩:=h
   obtain⟨cs',k1,k2,k3⟩:=Jy.row (ha (.cells b o 1) (abO.2 rfl)) h3
   exact⟨cs',k1,v,by rw[k3 o (ab9 _) (by omega)];exact h4,rfl⟩
 |_=>cases isA<;>simp at h
theorem yL{g g':HF}{t:TypeId}{p v:AV}{d:Lq}(h:Us P g t p v=some d)(ha:∀f∈d.fs,Eh g g' f):Us P g' t p v=some d:=by
 unfold Us at h ⊢
 simp only[aaW]at h ⊢
 obtain⟨n,h2,h⟩:=h
 refine⟨n,h2,?_⟩
 cases p with
 |ptr b r o=>
  simp only at h ⊢
  split at h
  ·rename_i st fl w rows hg
   simp only[aaW]at h
   obtain⟨cs,h3,h⟩:=h
   split at h<;>simp at h
   rename_i hc
   subst h
   have hA:Jy o n (g b) (g' b):=ha (.cells b o n) (abO.2 rfl)
   rw[hg]at hA
   generalize hy:g' b=y at hA
   cases hA with
   |refl=>simp only[aaW];exact⟨cs,h3,by rw[if_pos hc]⟩
   | @live _ _ _ _ _ _ _ rows' a d=>
     have hlt:=(abY.1 h3).1
     have h4:=alD (a▸hlt)
     obtain⟨d1,d2⟩:=d r _ _ h3 h4
     simp only[aaW]
     exact⟨_,h4,by rw[if_pos (by rw[←d1];exact hc)]⟩
  ·simp at h
 |_=>simp at h
theorem dI{g g':HF}{b r len:Nat}(h:g' b=g b):Gq g' b r len=Gq g b r len:=by unfold Gq;rw[h]
theorem vB{g g':HF}{e:TypeId}{x:AV}{fl:Bool}{rows:List (List AV)}{fs:List Et}(h:Pm P g e x=some (fl,rows,fs))(ha:∀f∈fs,Eh g g' f):Pm P g' e x=some (fl,rows,fs):=by
 cases x with
 |slr st b r len=>
  simp only[Pm,aaW]at h ⊢
  obtain⟨⟨st',fl',rows'⟩,h1,h⟩:=h
  simp only at h
  split at h<;>simp at h
  rename_i hs
  obtain⟨rfl,rfl,rfl⟩:=h
  refine⟨_,by rw[dI (ha (.blk b) (abO.2 rfl))];exact h1,?_⟩
  simp only;rw[if_pos hs]
 |_=>exact h
theorem hU{g g':HF}{base:Nat}{t:TypeId}{s x:AV}{d:Lq}(h:Im P g base t s x=some d)(ha:∀f∈d.fs,Eh g g' f):Im P g' base t s x=some d:=by
 unfold Im at h ⊢
 simp only[aaW]at h ⊢
 obtain⟨e,h1,n,h2,by_,h3,z,h4,⟨nfl,new,fs⟩,h5,h⟩:=h
 have hfs:(∀f∈fs,f∈d.fs):=by
  simp only at h
  split at h
  ·simp at h
  ·split at h
   ·split at h<;>simp at h<;>subst h<;>exact fun f hf=>hf
   ·split at h<;>simp at h
    subst h;exact fun f hf=>hf
   ·split at h
    ·split at h<;>simp at h
     subst h;exact fun f hf=>aa6 _ hf
    ·simp at h
   ·simp at h
 refine⟨e,h1,n,h2,by_,h3,z,h4,(nfl,new,fs),vB h5 (fun f hf=>ha f (hfs f hf)),?_⟩
 simp only at h ⊢
 split at h
 ·simp at h
 ·rename_i hn
  rw[if_neg hn]
  cases new with
  |nil=>exact h
  |cons n0 new=>
   cases s with
   |slr st b r len=>
    simp only at h ⊢
    split at h
    ·rename_i st' fl' w' rows' hg
     split at h
     ·rename_i hc
      simp at h
      subst h
      have hb:g' b=g b:=ha (.blk b) (abB ..)
      rw[hb,hg]
      simp only
      rw[if_pos hc]
      rfl
     ·simp at h
    ·simp at h
   |_=>exact h
theorem afS{g g':HF}{base:Nat}{t:List AV}{o:Op}{d:Lq}(h:exec P g base t o=some d)(ha:∀f∈d.fs,Eh g g' f):exec P g' base t o=some d:=by
 cases o with
 |load ty x=>
  simp only[exec,aaW]at h ⊢
  obtain⟨p,h1,h2⟩:=h
  exact⟨p,h1,aeU h2 ha⟩
 |store ty x y=>
  simp only[exec,aaW]at h ⊢
  obtain⟨p,h1,v,h2,h3⟩:=h
  exact⟨p,h1,v,h2,yL h3 ha⟩
 |makeFunc fn xs ys=>cases fn<;>exact h
 |slice ty x lo hi mx=>cases mx<;>exact h
 |call c=>
  obtain⟨cal,args,ts⟩:=c
  cases cal with
  |builtin b=>
   simp only[exec,aaW]at h ⊢
   obtain⟨vs,h1,h⟩:=h
   refine⟨vs,h1,?_⟩
   split at h
   ·exact h
   ·simp only[aaW]at h ⊢
    obtain⟨t0,h2,t1,h3,h⟩:=h
    refine⟨t0,h2,t1,h3,?_⟩
    split at h
    ·exact hU h ha
    ·exact hU h ha
    ·simp at h
   ·exact h
   ·exact h
   ·exact h
   ·exact h
   ·simp at h
  |_=>exact h
 |_=>exact h
def Xd(base:Nat)(F:Nat→Option Lq)(d:Lq):Prop:=(∀b c,Ad.new b c∈d.es→b=base)∧((∀b c,Ad.new b c∉d.es)→∀base',F base'=some d)
theorem qN{base:Nat}{v:AV}{d:Lq}(h:fZ base v=some d):Xd base (fun b=>fZ b v) d:=by
 unfold fZ at h
 split at h<;>simp at h
 subst h
 exact⟨fun b c hb=>by simp at hb;exact hb.1,fun hn=>(hn _ _ (abO.2 rfl)).elim⟩
theorem gC{base:Nat}{t:TypeId}{len:Nat}{parts:List (Nat × AV)}{d:Lq}(h:Ef P base t len parts=some d):Xd base (fun b=>Ef P b t len parts) d:=by
 unfold Ef at h
 simp only[aaW]at h
 obtain⟨e,h1,n,h2,z,h3,h⟩:=h
 split at h
 ·simp at h
 ·obtain⟨rows,h4,h⟩:=aaW.1 h
  split at h<;>simp at h
  subst h
  exact⟨fun b c hb=>by simp at hb;exact hb.1,fun hn=>(hn _ _ (abO.2 rfl)).elim⟩
theorem jN{base:Nat}{t:TypeId}{l c:AV}{d:Lq}(h:Iu P base t l c=some d):Xd base (fun b=>Iu P b t l c) d:=by
 unfold Iu at h
 simp only[aaW]at h
 obtain⟨e,h1,n,h2,b,h3,z,h4,h⟩:=h
 split at h
 ·split at h<;>simp at h
  subst h
  exact⟨fun b c hb=>by simp at hb;exact hb.1,fun hn=>(hn _ _ (abO.2 rfl)).elim⟩
 ·simp at h
theorem dY{g:HF}{base:Nat}{t:TypeId}{s x:AV}{d:Lq}(h:Im P g base t s x=some d):Xd base (fun b=>Im P g b t s x) d:=by
 have h0:=h
 unfold Im at h
 simp only[aaW]at h
 obtain⟨e,h1,n,h2,by_,h3,z,h4,⟨nfl,new,fs⟩,h5,h⟩:=h
 simp only at h
 split at h
 ·simp at h
 ·rename_i hn
  cases new with
  |nil=>
   refine⟨fun b c hb=>?_,fun _ base'=>?_⟩
   ·simp only at h
    split at h<;>simp at h<;>subst h<;>simp at hb
   ·unfold Im
    simp only[aaW]
    refine⟨e,h1,n,h2,by_,h3,z,h4,(nfl,[],fs),h5,?_⟩
    simp only;rw[if_neg hn];exact h
  |cons n0 new=>
   cases s with
   |nils=>
    simp only at h
    split at h<;>simp at h
    subst h
    exact⟨fun b c hb=>by simp at hb;exact hb.1,fun hn=>(hn _ _ (abO.2 rfl)).elim⟩
   |slr st b r len=>
    simp only at h
    split at h
    ·split at h<;>simp at h
     subst h
     exact⟨fun b c hb=>by simp at hb;exact hb.1,fun hn=>(hn _ _ (aa6 _ (abO.2 rfl))).elim⟩
    ·simp at h
   |_=>simp at h
theorem ab7{g:HF}{base:Nat}{t:List AV}{o:Op}{d:Lq}(h:exec P g base t o=some d):Xd base (fun b=>exec P g b t o) d:=by
 have still:(∀base',exec P g base' t o=exec P g base t o)→d.es=[]→Xd base (fun b=>exec P g b t o) d:=fun h1 h2=>
  ⟨fun b c hb=>by rw[h2]at hb;simp at hb,fun _ base'=>(h1 base').trans h⟩
 have pure':∀{x:Option AV} {d:Lq},Ic x=some d→d.es=[]:=fun hx=>by
  obtain⟨v,_,rfl⟩:=ae7.1 hx;rfl
 have lift:∀{α:Type} {x:Option α} {F:Nat→α→Option Lq} (v:α),x=some v→Xd base (fun b=>F b v) d→Xd base (fun b=>x.bind (F b)) d:=fun v hv k=>by
  subst hv;exact k
 have goodE:(∀(he:exec P g base t o=some d),d.es=[])→(∀base',exec P g base' t o=exec P g base t o)→Xd base (fun b=>exec P g b t o) d:=fun h1 h2=>still h2 (h1 h)
 cases o with
 |alloc ty=>obtain⟨z,h1,h⟩:=aaW.1 h;exact lift z h1 (qN h)
 |box ty x=>obtain⟨z,h1,h⟩:=aaW.1 h;exact lift z h1 (qN h)
 |buildSlice ty n ps=>obtain⟨z,h1,h⟩:=aaW.1 h;exact lift z h1 (gC h)
 |makeSlice ty x y=>
  obtain⟨p,h1,h⟩:=aaW.1 h
  obtain⟨q,h2,h⟩:=aaW.1 h
  exact lift p h1 (lift q h2 (jN h))
 |makeFunc fn xs ys=>
  cases fn with
  |func f=>
   refine still (fun _=>rfl) ?_
   simp only[exec,aaW]at h
   obtain⟨p,_,v,_,h⟩:=h
   simp at h;subst h;rfl
  |_=>simp[exec]at h
 |slice ty x lo hi mx=>
  cases mx with
  |some m=>simp[exec]at h
  |none=>
   refine still (fun _=>rfl) ?_
   simp only[exec,aaW]at h
   obtain⟨p,_,v,_,u,_,h⟩:=h
   exact pure' h
 |call c=>
  obtain⟨cal,args,ts⟩:=c
  cases cal with
  |builtin b=>
   obtain⟨vs,hvs,he⟩:=aaW.1 h
   have hx:Xd base (fun b'=>exec P g b' t (.call ⟨.builtin b,args,ts⟩)) d:=by
    simp only[exec]
    refine lift vs hvs ?_
    split at he
    ·obtain⟨t0,q1,q2⟩:=aaW.1 he
     exact⟨fun b c hb=>by rw[pure' q2]at hb;simp at hb,fun _ _=>he⟩
    ·obtain⟨t0,q1,q2⟩:=aaW.1 he
     obtain⟨t1,q3,q4⟩:=aaW.1 q2
     refine lift t0 q1 (lift t1 q3 ?_)
     split at q4
     ·exact dY q4
     ·exact dY q4
     ·simp at q4
    ·exact⟨fun b c hb=>by rw[pure' he]at hb;simp at hb,fun _ _=>he⟩
    ·exact⟨fun b c hb=>by rw[pure' he]at hb;simp at hb,fun _ _=>he⟩
    ·exact⟨fun b c hb=>by rw[pure' he]at hb;simp at hb,fun _ _=>he⟩
    ·exact⟨fun b c hb=>by rw[pure' he]at hb;simp at hb,fun _ _=>he⟩
    ·simp at he
   exact hx
  |_=>simp[exec]at h
 |load ty x=>
  refine still (fun _=>rfl) ?_
  obtain⟨p,_,he⟩:=aaW.1 h
  unfold Ru at he
  simp only[aaW]at he
  obtain⟨isA,_,n,_,he⟩:=he
  split at he
  ·split at he<;>simp at he;subst he;rfl
  ·obtain⟨cs,_,he⟩:=aaW.1 he
   split at he<;>simp at he;subst he;rfl
  ·simp at he;subst he;rfl
  ·obtain⟨cs,_,he⟩:=aaW.1 he
   obtain⟨v,_,rfl⟩:=ae7.1 he;rfl
  ·simp at he
 |store ty x y=>
  refine⟨fun b c hb=>?_,fun _ _=>h⟩
  simp only[exec,aaW]at h
  obtain⟨p,_,v,_,he⟩:=h
  unfold Us at he
  obtain⟨n,_,he⟩:=aaW.1 he
  cases p with
  |ptr b r o=>
   simp only at he
   split at he
   ·obtain⟨cs,_,he⟩:=aaW.1 he
    split at he<;>simp at he
    subst he;simp at hb
   ·simp at he
  |_=>simp at he
 |move x=>exact still (fun _=>rfl) (pure' h)
 |assign x=>exact still (fun _=>rfl) (pure' h)
 |pick a b c=>
  refine still (fun _=>rfl) ?_
  simp only[exec,aaW]at h
  obtain⟨c,_,x,_,y,_,he⟩:=h
  split at he<;>simp at he
  subst he;rfl
 |build ty ps=>obtain⟨z,_,he⟩:=aaW.1 h;exact still (fun _=>rfl) (pure' he)
 |nilCheck x=>
  refine still (fun _=>rfl) ?_
  obtain⟨p,_,he⟩:=aaW.1 h
  split at he<;>simp at he<;>subst he<;>rfl
 |binOp op ty x y yt=>
  refine still (fun _=>rfl) ?_
  simp only[exec,aaW]at h
  obtain⟨p,_,v,_,he⟩:=h;exact pure' he
 |unOp op ty x=>obtain⟨z,_,he⟩:=aaW.1 h;exact still (fun _=>rfl) (pure' he)
 |convert s ty x=>obtain⟨z,_,he⟩:=aaW.1 h;exact still (fun _=>rfl) (pure' he)
 |makeInterface ty x=>
  refine still (fun _=>rfl) ?_
  obtain⟨z,_,he⟩:=aaW.1 h
  split at he<;>simp at he;subst he;rfl
 |fieldAddr ty x f=>obtain⟨z,_,he⟩:=aaW.1 h;exact still (fun _=>rfl) (pure' he)
 |field ty x f=>obtain⟨z,_,he⟩:=aaW.1 h;exact still (fun _=>rfl) (pure' he)
 |indexAddr ty x y=>
  refine still (fun _=>rfl) ?_
  simp only[exec,aaW]at h
  obtain⟨p,_,v,_,he⟩:=h;exact pure' he
 |index ty x y=>
  refine still (fun _=>rfl) ?_
  simp only[exec,aaW]at h
  obtain⟨p,_,v,_,he⟩:=h;exact pure' he
 |extract x i=>
  refine still (fun _=>rfl) ?_
  obtain⟨z,_,he⟩:=aaW.1 h
  split at he
  ·exact pure' he
  ·simp at he
 |_=>simp[exec]at h
end
section
variable {P:Program} {O:Gn} {g g':HF}
theorem Qw{α β:Type}{f f':α→Option β}:∀{l:List α},(∀a∈l,f a=f' a)→Az f l=Az f' l
 | [],_=>rfl
 |a::l,h=>by
  simp only[Az]
  rw[h a (abB ..),Qw (fun b hb=>h b (aa6 _ hb))]
theorem Ll{α β:Type}{f f':α→List β}:∀{l:List α},(∀a∈l,f a=f' a)→l.flatMap f=l.flatMap f'
 | [],_=>rfl
 |a::l,h=>by
  simp only[alE]
  rw[h a (abB ..),Ll (fun b hb=>h b (aa6 _ hb))]
theorem aM:∀{d:Nat} {v:AV},(∀b∈Be d g v,g' b=g b)→Gy d g' v=Gy d g v∧Be d g' v=Be d g v
 |0,v,_=>⟨rfl,rfl⟩
 |d+1,v,h=>by
  cases v with
  |slr st b r len=>
   have hb:Gq g' b r len=Gq g b r len:=dI (h b (by simp[Be]))
   simp only[Gy,Be,hb]
   cases hr:Gq g b r len with
   |none=>exact⟨rfl,rfl⟩
   |some x=>
    obtain⟨st',fl,rows⟩:=x
    cases fl with
    |true=>exact⟨rfl,rfl⟩
    |false=>
     have hin:∀cs∈rows,∀c∈cs,Gy d g' c=Gy d g c∧Be d g' c=Be d g c:=fun cs hcs c hc=>aM fun b' hb'=>h b' (by
      simp only[Be,hr]
      exact aa6 _ (acZ.2 ⟨cs,hcs,acZ.2 ⟨c,hc,hb'⟩⟩))
     refine⟨?_,?_⟩
     ·show(Az (Az (Gy d g')) rows).map (AV.imm st' false)=(Az (Az (Gy d g)) rows).map (AV.imm st' false)
      rw[Qw (fun cs hcs=>Qw (fun c hc=>(hin cs hcs c hc).1))]
     ·show b::rows.flatMap (fun cs=>cs.flatMap (Be d g'))=b::rows.flatMap (fun cs=>cs.flatMap (Be d g))
      rw[Ll (fun cs hcs=>Ll (fun c hc=>(hin cs hcs c hc).2))]
  |agg cs=>
   have hin:∀c∈cs,Gy d g' c=Gy d g c∧Be d g' c=Be d g c:=fun c hc=>aM fun b' hb'=>h b' (by simp only[Be];exact acZ.2 ⟨c,hc,hb'⟩)
   simp only[Gy,Be]
   rw[Qw (fun c hc=>(hin c hc).1),Ll (fun c hc=>(hin c hc).2)]
   exact⟨rfl,rfl⟩
  |iface t x=>
   have:=aM (d:=d) (v:=x) (fun b' hb'=>h b' (by simpa only[Be]using hb'))
   simp only[Gy,Be]
   rw[this.1,this.2]
   exact⟨rfl,rfl⟩
  |func fn a b=>cases a<;>cases b<;>exact⟨rfl,rfl⟩
  |_=>exact⟨rfl,rfl⟩
theorem kV:∀{d:Nat} {v:AV},(∀b∈Be d g v,g' b=g b)→Ih d g' v=Ih d g v
 |0,v,_=>rfl
 |d+1,v,h=>by
  cases v with
  |slr st b r len=>exact(aM h).1
  |agg cs=>
   have hin:∀c∈cs,Ih d g' c=Ih d g c:=fun c hc=>kV fun b' hb'=>h b' (by simp only[Be];exact acZ.2 ⟨c,hc,hb'⟩)
   simp only[Ih]
   rw[Qw hin]
  |iface t x=>
   have:=kV (d:=d) (v:=x) (fun b' hb'=>h b' (by simpa only[Be]using hb'))
   simp only[Ih]
   rw[this]
  |_=>rfl
theorem lM:∀{n i:Nat} {m m':List Nat} {cs:List CB},Ld n g i m=some (cs,m')→i≤m.length→(∀b∈m',g' b=g b)→Ld n g' i m=some (cs,m')
 |0,_,_,_,_,h,_,_=>by simp[Ld]at h
 |n+1,i,m,m',cs,h,hi,hm=>by
  have hpre:=(fR h hi).1
  unfold Ld at h ⊢
  cases hb:m[i]? with
  |none=>rw[hb]at h;exact h
  |some b=>
   rw[hb]at h
   simp only[aaW,ae7]at h ⊢
   obtain⟨c,h1,⟨c',m1⟩,h2,⟨cs',m2⟩,h3,h4⟩:=h
   simp at h4
   obtain⟨rfl,rfl⟩:=h4
   have hlt:=(abY.1 hb).1
   have hmem:b∈m2:=(List.IsPrefix.subset hpre) (auR hb)
   refine⟨c,by rw[hm b hmem];exact h1,(c',m1),h2,(cs',m2),?_,rfl⟩
   have hl:i+1≤m1.length:=by have:=((uQ h2).1).length_le;omega
   exact lM h3 hl hm
theorem wC{m m':List Nat}{vs vs':List AV}{cs:List CB}(h:Md g m vs=some (vs',cs,m'))(hm:∀b∈m',g' b=g b):Md g' m vs=some (vs',cs,m'):=by
 unfold Md at h ⊢
 simp only[aaW,ae7]at h ⊢
 obtain⟨⟨v1,m1⟩,h1,⟨c1,m2⟩,h2,h3⟩:=h
 simp at h3
 obtain⟨rfl,rfl,rfl⟩:=h3
 exact⟨_,h1,_,lM h2 (Nat.zero_le _) hm,rfl⟩
theorem iY:∀{l:List Nat},(∀b∈l,g' b=g b)→Ec g' l=Ec g l
 | [],_=>rfl
 |b::l,h=>by
  simp only[Ec]
  rw[h b (abB ..),iY (fun x hx=>h x (aa6 _ hx))]
theorem pP{base:Nat}{lent m:List Nat}{cs:List CB}{out:Eo}{h':Ab}{d:Nr}(h:Og g base lent m cs out h'=some d):d.fs=(lent++m).map .blk:=by
 unfold Og at h
 simp only[aaW]at h
 obtain⟨v,_,ps,_,ns,_,h⟩:=h
 simp at h
 subst h;simp
theorem zM{base:Nat}{f:Vy}{args:List AV}{d:Nr}(h:Ew O g base f args=some d)(ha:∀x∈d.fs,Eh g g' x):
 Ew O g' base f args=some d∧Az (Ih 12 g') args=Az (Ih 12 g) args∧∀vs vs' cs m,Az (Ih 12 g) args=some vs→Md g' [] vs=some (vs',cs,m)→Md g [] vs=some (vs',cs,m):=by
 unfold Ew at h ⊢
 simp only[aaW]at h
 obtain⟨vs,hvs,⟨vs',cs,m⟩,hp,h⟩:=h
 simp only at h
 split at h
 ·simp at h
 ·rename_i hlm
  simp only[aaW]at h
  obtain⟨⟨out,h'⟩,hc,hu⟩:=h
  simp only at hu
  have hfs:=pP hu
  have hl:∀b∈args.flatMap (Be 12 g),g' b=g b:=fun b hb=>ha (.blk b) (by rw[hfs];exact ae8.2 ⟨b,apT _ hb,rfl⟩)
  have hm:∀b∈m,g' b=g b:=fun b hb=>ha (.blk b) (by rw[hfs];exact ae8.2 ⟨b,alF _ hb,rfl⟩)
  have hin:∀x∈args,Gy 12 g' x=Gy 12 g x∧Be 12 g' x=Be 12 g x:=fun x hx=>aM fun b hb=>hl b (acZ.2 ⟨x,hx,hb⟩)
  have hlen:args.flatMap (Be 12 g')=args.flatMap (Be 12 g):=Ll fun x hx=>(hin x hx).2
  have harg:Az (Ih 12 g') args=Az (Ih 12 g) args:=Qw fun x hx=>kV fun b hb=>hl b (acZ.2 ⟨x,hx,hb⟩)
  have hp':=wC hp hm
  refine⟨?_,harg,fun vs1 vs1' cs1 m1 q1 q2=>?_⟩
  ·simp only[aaW]
   refine⟨vs,by rw[harg];exact hvs,(vs',cs,m),hp',?_⟩
   simp only[hlen]
   rw[if_neg hlm]
   simp only[aaW]
   refine⟨(out,h'),hc,?_⟩
   simp only
   unfold Og at hu ⊢
   rw[iY hl]
   exact hu
  ·rw[hvs]at q1;cases q1
   rw[hp']at q2
   rw[hp];exact q2
theorem gU{base:Nat}{f:Vy}{args:List AV}{d:Nr}(h:Ls O g base f args=some d):d.fs=[.all]:=by
 unfold Ls at h
 obtain⟨_,_,h⟩:=aaW.1 h
 obtain⟨_,_,h⟩:=aaW.1 h
 obtain⟨_,_,rfl⟩:=ae7.1 h
 rfl
theorem acY{base:Nat}{f:Vy}{args:List AV}{d:Nr}(h:Hj O g base f args=some d)(ha:∀x∈d.fs,Eh g g' x):
 Hj O g' base f args=some d∧Az (Ih 12 g') args=Az (Ih 12 g) args∧∀vs vs' cs m,Az (Ih 12 g) args=some vs→Md g' [] vs=some (vs',cs,m)→Md g [] vs=some (vs',cs,m):=by
 have sh:Ls O g base f args=some d→g'=g:=fun h=>ha .all (by rw[gU h];simp)
 by_cases hp:Yy O f args
 ·obtain⟨n,_,k2⟩:=hp.eq
  rw[k2]at h ⊢
  exact zM h ha
 ·rw[Yh hp]at h ⊢
  have:=sh h
  subst this
  exact⟨h,rfl,fun _ _ _ _ _ q=>q⟩
end
section
variable {P:Program} {O:Gn}
def mN(O:Gn)(P:Program)(ops:List Oper)(t:List AV)(g:HF)(base:Nat)(o:Oper):Option Lq:=
 match Gx ops t o with
 |none=>none
 |some false=>some ⟨.tup [],[],[]⟩
 |some true=>
  match Hr o.op with
  | .call c=>(callee t c).bind fun(f,args)=>(Hj O g base f args).bind fun d=>match d.out with
    | .ret v=>some ⟨v,d.es,d.fs⟩
    | .pan _=>none
  | .panic _=>none
  | .other=>exec P g base t o.op
inductive mG(O:Gn)(P:Program)(ops:List Oper):List (Oper × Lq)→St→St→Prop
 |nil (s:St):mG O P ops [] s s
 |cons {o:Oper} {d:Lq} {l:List (Oper × Lq)} {s s':St}:mN O P ops s.tmps (hf s.h) s.h.length o=some d→Fj s.h d.es→mG O P ops l ⟨put s.tmps o.dst d.v,Ba s.h d.es⟩ s'→mG O P ops ((o,d)::l) s s'
theorem kR{ops:List Oper}{gs:List Nat}{k:St→Ya→R}{r:Ex × St}:∀{rest:List Oper} {i:Nat} {s:St} {log:Ya},Ha O P ops gs rest i s log k (fun _ _=>none)=some r→
 ∃recs s',mG O P ops recs s s'∧recs.map (·.1)=rest∧k s' (log++recs.map fun x=>(x.2.es,x.2.fs))=some r
 | [],i,s,log,h=>⟨[],s,.nil s,rfl,by simpa [Ha]using h⟩
 |o::rest,i,s,log,h=>by
  have fin:∀(d:Lq),mN O P ops s.tmps (hf s.h) s.h.length o=some d→Fj s.h d.es→Ha O P ops gs rest (i+1) ⟨put s.tmps o.dst d.v,Ba s.h d.es⟩ (log++[(d.es,d.fs)]) k (fun _ _=>none)=some r→
   ∃recs s',mG O P ops recs s s'∧recs.map (·.1)=o::rest∧k s' (log++recs.map fun x=>(x.2.es,x.2.fs))=some r:=fun d h1 h2 h3=>by
   obtain⟨recs,s',k1,k2,k3⟩:=kR h3
   exact⟨(o,d)::recs,s',.cons h1 h2 k1,by simp[k2],by simpa using k3⟩
  unfold Ha at h
  split at h
  ·simp at h
  ·rename_i hw
   exact fin ⟨.tup [],[],[]⟩ (by simp only[mN,hw]) (.nil _) h
  ·rename_i hw
   cases hk:Hr o.op with
   |call c=>
    rw[hk]at h
    simp only[aaW]at h
    obtain⟨⟨fc,args⟩,hcal,d,hd,h⟩:=h
    simp only at hd
    cases ho:d.out with
    |ret v=>
     rw[ho]at h
     simp only[Hf]at h
     refine fin ⟨v,d.es,d.fs⟩ ?_ (dD hd) h
     simp only[mN,hw,hk,aaW]
     exact⟨(fc,args),hcal,d,hd,by simp only[ho]⟩
    |pan v=>rw[ho]at h;simp at h
   |panic x=>
    rw[hk]at h
    simp only[aaW]at h
    obtain⟨v,hv,h⟩:=h
    split at h<;>simp at h
   |other=>
    rw[hk]at h
    simp only[aaW,Hf]at h
    obtain⟨d,hd,h⟩:=h
    exact fin d (by simp only[mN,hw,hk];exact hd) (qG hd) h
def tS:(Nat→Bool)→List (Oper × Lq)→List AV→List AV
 |_,[],t=>t
 |D,x::l,t=>tS (fun n=>D (n+1)) l (if D 0=true then put t x.1.dst x.2.v else t)
def gS:(Nat→Bool)→List (Oper × Lq)→HF→HF
 |_,[],g=>g
 |D,x::l,g=>gS (fun n=>D (n+1)) l (if D 0=true then Ax g x.2.es else g)
theorem vR:∀{l:List (Oper × Lq)} {D D':Nat→Bool} {t:List AV},(∀i,i<l.length→D i=D' i)→tS D l t=tS D' l t
 | [],_,_,_,_=>rfl
 |x::l,D,D',t,h=>by
  simp only[tS]
  rw[h 0 (by simp),vR (fun i hi=>h (i+1) (by simp;omega))]
theorem sP:∀{l:List (Oper × Lq)} {D D':Nat→Bool} {g:HF},(∀i,i<l.length→D i=D' i)→gS D l g=gS D' l g
 | [],_,_,_,_=>rfl
 |x::l,D,D',g,h=>by
  simp only[gS]
  rw[h 0 (by simp),sP (fun i hi=>h (i+1) (by simp;omega))]
theorem sE:∀{l:List (Oper × Lq)} {D:Nat→Bool} {t:List AV},(∀i,D i=false)→tS D l t=t
 | [],_,_,_=>rfl
 |x::l,D,t,h=>by simp only[tS];rw[h 0];exact sE (fun i=>h (i+1))
theorem kM:∀{l:List (Oper × Lq)} {D:Nat→Bool} {g:HF},(∀i,D i=false)→gS D l g=g
 | [],_,_,_=>rfl
 |x::l,D,g,h=>by simp only[gS];rw[h 0];exact kM (fun i=>h (i+1))
theorem vN(i:Nat):(fun n=>decide (n+1<i+1))=fun n=>decide (n<i):=by funext n;simp
theorem mG.at{ops:List Oper}:∀{recs:List (Oper × Lq)} {s s':St},mG O P ops recs s s'→∀i o d,recs[i]?=some (o,d)→
 ∃h:Ab,mN O P ops (tS (fun n=>decide (n<i)) recs s.tmps) (gS (fun n=>decide (n<i)) recs (hf s.h)) h.length o=some d∧gS (fun n=>decide (n<i)) recs (hf s.h)=hf h∧Fj h d.es∧s.h.length≤h.length∧h.length≤s'.h.length∧
  (∀b,Ik d.es b→b<s'.h.length)∧∀j o' d',j<i→recs[j]?=some (o',d')→∀b,Ik d'.es b→b<h.length
 |_,_,_,.nil s,i,o,d,h=>by simp at h
 |_,s,s',.cons (o:=o0) (d:=d0) (l:=l) h1 h2 h3,i,o,d,h=>by
  obtain⟨e1,e2,e3,e4⟩:=Xj h2.ok
  have hlast:(Ba s.h d0.es).length≤s'.h.length:=by
   have aux:∀{recs:List (Oper × Lq)} {s s':St},mG O P ops recs s s'→s.h.length≤s'.h.length:=fun hr=>by
    induction hr with
    |nil=>exact ab9 _
    |cons _ k2 _ ih=>exact afM (Xj k2.ok).2.1 ih
   exact aux h3
  cases i with
  |zero=>
   simp at h
   obtain⟨rfl,rfl⟩:=h
   refine⟨s.h,?_,?_,h2,ab9 _,afM e2 hlast,fun b hb=>apU (e3 b hb) hlast,fun j _ _ hj=>by omega⟩
   ·rw[sE (fun i=>by simp),kM (fun i=>by simp)];exact h1
   ·rw[kM (fun i=>by simp)]
  |succ i=>
   simp at h
   obtain⟨hh,k1,k2,k3,k4,k5,k6,k7⟩:=mG.at h3 i o d h
   simp only[tS,gS,vN]
   simp only[Nat.zero_lt_succ,decide_true,if_true]
   rw[←e1]
   refine⟨hh,k1,k2,k3,afM e2 k4,k5,k6,fun j o' d' hj hr b hb=>?_⟩
   cases j with
   |zero=>simp at hr;obtain⟨rfl,rfl⟩:=hr;exact apU (e3 b hb) k4
   |succ j=>exact k7 j o' d' (by omega) (by simpa using hr) b hb
theorem Fj.trans{h:Ab}{es es':List Ad}(a:Fj h es)(b:Fj (Ba h es) es'):Fj h (es++es'):=by
 obtain⟨k1,k2,k3,k4⟩:=Xj a.ok
 have ok:∀(es:List Ad) (h:Ab),aO h.length es→aO (Ba h es).length es'→aO h.length (es++es'):=by
  intro es
  induction es with
  |nil=>intro h _ q;exact q
  |cons e es ih=>
   intro h q1 q2
   cases e with
   |new b c=>
    obtain⟨r1,r2⟩:=q1
    exact⟨r1,by have:=ih (h++[c]) (by simpa using r2) q2;simpa using this⟩
   |put b c=>
    obtain⟨r1,r2⟩:=q1
    exact⟨r1,by have:=ih (h.set b c) (by simpa using r2) q2;simpa using this⟩
   |cells b r o vs=>
    obtain⟨r1,r2⟩:=q1
    have hl:(Du h (.cells b r o vs)).length=h.length:=by
     simp only[Du];split<;>simp
    exact⟨r1,by have:=ih (Du h (.cells b r o vs)) (by rw[hl];exact r2) q2;rw[hl]at this;exact this⟩
 have fa:∀(es:List Ad) (g:HF),Ax g (es++es')=Ax (Ax g es) es':=by
  intro es
  induction es with
  |nil=>intro g;rfl
  |cons e es ih=>intro g;exact ih _
 have eid:∀b,Ik (es++es') b↔Ik es b∨Ik es' b:=fun b=>by
  constructor
  ·rintro⟨e,he,Gs⟩
   rcases alG.1 he with he|he
   ·exact .inl ⟨e,he,Gs⟩
   ·exact .inr ⟨e,he,Gs⟩
  ·rintro(⟨e,he,Gs⟩|⟨e,he,Gs⟩)
   ·exact⟨e,apT _ he,Gs⟩
   ·exact⟨e,alF _ he,Gs⟩
 refine⟨ok es h a.ok b.ok,fun x hx hlt=>?_,fun x hx=>?_⟩
 ·rw[fa,←k1]
  by_cases h1:Ik es x
  ·refine⟨(a.touched x h1 hlt).1,fun c hc=>?_⟩
   by_cases h2:Ik es' x
   ·exact(b.touched x h2 (k3 x h1)).2 c hc
   ·rw[b.untouched x h2,k1]at hc
    exact(a.touched x h1 hlt).2 c hc
  ·have h2:Ik es' x:=((eid x).1 hx).resolve_left h1
   obtain⟨q1,q2⟩:=b.touched x h2 (apU hlt k2)
   rw[k1,a.untouched x h1]at q1
   exact⟨q1,q2⟩
 ·have h1:¬Ik es x:=fun e=>hx ((eid x).2 (.inl e))
  have h2:¬Ik es' x:=fun e=>hx ((eid x).2 (.inr e))
  rw[fa,←k1,b.untouched x h2,k1,a.untouched x h1]
def cH(recs:List (Oper × Lq)):List Ad:=recs.flatMap (·.2.es)
theorem adN{recs:List (Oper × Lq)}{b:Nat}:Ik (cH recs) b↔∃(j:Nat) (o:Oper) (d:Lq),recs[j]?=some (o,d)∧Ik d.es b:=by
 unfold cH
 constructor
 ·rintro⟨e,he,Gs⟩
  obtain⟨x,hx,he⟩:=acZ.1 he
  obtain⟨j,hj⟩:=List.mem_iff_getElem?.1 hx
  exact⟨j,x.1,x.2,hj,e,he,Gs⟩
 ·rintro⟨j,o,d,hj,e,he,Gs⟩
  exact⟨e,acZ.2 ⟨(o,d),auR hj,he⟩,Gs⟩
theorem Zt:∀{es es':List Ad} {g:Ab},Ba g (es++es')=Ba (Ba g es) es'
 | [],_,_=>rfl
 |e::es,_,_=>Zt (es:=es)
theorem akN:∀{recs:List (Oper × Lq)} {g:HF},gS (fun _=>true) recs g=Ax g (cH recs)
 | [],g=>rfl
 |x::l,g=>by
  simp only[gS,if_true,cH,alE]
  rw[Sl]
  exact akN
theorem mG.last{ops:List Oper}{recs:List (Oper × Lq)}{s s':St}(h:mG O P ops recs s s'):s'.tmps=tS (fun _=>true) recs s.tmps∧s'.h=Ba s.h (cH recs)∧Fj s.h (cH recs):=by
 induction h with
 |nil s=>exact⟨rfl,rfl,.nil _⟩
 | @cons o d l s s' h1 h2 h3 ih=>
   obtain⟨k1,k2,k3⟩:=ih
   refine⟨?_,?_,?_⟩
   ·simp only[tS,if_true];exact k1
   ·simp only[cH,alE];rw[Zt];exact k2
   ·simp only[cH,alE];exact h2.trans k3
theorem aoR(t:List AV)(d:Option Nat)(v:AV):(put t d v).length=t.length:=by cases d<;>simp[put]
theorem dZ(t:List AV)(d:Option Nat)(v:AV)(x:Nat):Ig (put t d v) x=if d=some x∧x<t.length then v else Ig t x:=by
 cases d with
 |none=>simp[put]
 |some d=>
  simp only[put,Ig,ae6,acF.injEq]
  by_cases h:d=x
  ·subst h
   by_cases h2:d<t.length
   ·simp[h2]
   ·simp[h2]
  ·simp[h]
theorem uZ{L:List Nat}:∀{l:List (Oper × Lq)} {D D':Nat→Bool} {t t':List AV},(∀j o d,l[j]?=some (o,d)→D j≠D' j→∀x,o.dst=some x→x∉L)→t.length=t'.length→(∀x∈L,Ig t x=Ig t' x)→
 ∀x∈L,Ig (tS D l t) x=Ig (tS D' l t') x
 | [],D,D',t,t',_,_,h=>h
 |y::l,D,D',t,t',hd,hl,h=>by
  simp only[tS]
  refine uZ (fun j o d hj hne=>hd (j+1) o d (by simpa using hj) hne) ?_ ?_
  ·split<;>split<;>simp[aoR,hl]
  ·intro x hx
   have h0:=hd 0 y.1 y.2 (by simp)
   cases e1:D 0<;>cases e2:D' 0
   ·simpa using h x hx
   ·simp only[adV,if_false,if_true]
    rw[dZ,if_neg (fun q=>h0 (by simp[e1,e2]) x q.1 hx)]
    exact h x hx
   ·simp only[adV,if_false,if_true]
    rw[dZ,if_neg (fun q=>h0 (by simp[e1,e2]) x q.1 hx)]
    exact h x hx
   ·simp only[if_true]
    rw[dZ,dZ,hl,h x hx]
theorem sY{f:Et}:∀{l:List (Oper × Lq)} {D D':Nat→Bool} {g g':HF},(∀j o d,l[j]?=some (o,d)→D j≠D' j→∀e∈d.es,e.foot.meets f=false)→Eh g g' f→Eh (gS D l g) (gS D' l g') f
 | [],D,D',g,g',_,h=>h
 |y::l,D,D',g,g',hd,h=>by
  simp only[gS]
  refine sY (fun j o d hj hne=>hd (j+1) o d (by simpa using hj) hne) ?_
  have h0:=hd 0 y.1 y.2 (by simp)
  cases e1:D 0<;>cases e2:D' 0
  ·simpa using h
  ·simp only[adV,if_false,if_true]
   exact h.trans (Eh.edits _ (h0 (by simp[e1,e2])))
  ·simp only[adV,if_false,if_true]
   exact(Eh.edits _ (h0 (by simp[e1,e2]))).symm.trans h
  ·simp only[if_true]
   exact Eh.boths h
theorem agI(t:List AV){x y:Option Nat}(v u:AV)(h:∀d,x=some d→y≠some d):put (put t x v) y u=put (put t y u) x v:=by
 cases x with
 |none=>rfl
 |some a=>
  cases y with
  |none=>rfl
  |some b=>simp only[put];exact List.set_comm _ _ (fun e=>h a rfl (by rw[e]))
theorem zD{x:Option Nat}{v:AV}:∀{l:List (Oper × Lq)} {D:Nat→Bool} {t:List AV},(∀j o d,l[j]?=some (o,d)→D j=true→∀c,x=some c→o.dst≠some c)→tS D l (put t x v)=put (tS D l t) x v
 | [],D,t,_=>rfl
 |y::l,D,t,h=>by
  simp only[tS]
  cases e:D 0 with
  |true=>
   simp only[if_true]
   rw[agI t v y.2.v (h 0 y.1 y.2 (by simp) e)]
   exact zD (fun j o d hj hD=>h (j+1) o d (by simpa using hj) hD)
  |false=>exact zD (fun j o d hj hD=>h (j+1) o d (by simpa using hj) hD)
theorem akK{es:List Ad}:∀{l:List (Oper × Lq)} {D:Nat→Bool} {g:HF},(∀j o d,l[j]?=some (o,d)→D j=true→∀x∈es,∀y∈d.es,x.foot.meets y.foot=false)→gS D l (Ax g es)=Ax (gS D l g) es
 | [],D,g,_=>rfl
 |y::l,D,g,h=>by
  simp only[gS]
  cases e:D 0 with
  |true=>
   simp only[if_true]
   rw[qH g (h 0 y.1 y.2 (by simp) e)]
   exact akK (fun j o d hj hD=>h (j+1) o d (by simpa using hj) hD)
  |false=>exact akK (fun j o d hj hD=>h (j+1) o d (by simpa using hj) hD)
theorem qC:∀{l:List (Oper × Lq)} {D D':Nat→Bool} {t:List AV} {i:Nat} {o:Oper} {d:Lq},l[i]?=some (o,d)→D i=false→D' i=true→(∀j,j≠i→D' j=D j)→
 (∀j o' d',l[j]?=some (o',d')→i<j→D j=true→∀c,o.dst=some c→o'.dst≠some c)→tS D' l t=put (tS D l t) o.dst d.v
 | [],D,D',t,i,o,d,h,_,_,_,_=>by simp at h
 |y::l,D,D',t,i,o,d,h,h1,h2,h3,h4=>by
  cases i with
  |zero=>
   simp at h
   subst h
   simp only[tS,h1,h2,if_true,adV,if_false]
   rw[show(fun n=>D' (n+1))=fun n=>D (n+1)from funext fun n=>h3 (n+1) (by omega)]
   exact zD (fun j o' d' hj hD=>h4 (j+1) o' d' (by simpa using hj) (by omega) hD)
  |succ i=>
   simp only[tS]
   rw[h3 0 (by omega)]
   exact qC (by simpa using h) h1 h2 (fun j hj=>h3 (j+1) (by omega)) (fun j o' d' hj hi hD=>h4 (j+1) o' d' (by simpa using hj) (by omega) hD)
theorem qO:∀{l:List (Oper × Lq)} {D D':Nat→Bool} {g:HF} {i:Nat} {o:Oper} {d:Lq},l[i]?=some (o,d)→D i=false→D' i=true→(∀j,j≠i→D' j=D j)→
 (∀j o' d',l[j]?=some (o',d')→i<j→D j=true→∀x∈d.es,∀y∈d'.es,x.foot.meets y.foot=false)→gS D' l g=Ax (gS D l g) d.es
 | [],D,D',g,i,o,d,h,_,_,_,_=>by simp at h
 |y::l,D,D',g,i,o,d,h,h1,h2,h3,h4=>by
  cases i with
  |zero=>
   simp at h
   subst h
   simp only[gS,h1,h2,if_true,adV,if_false]
   rw[show(fun n=>D' (n+1))=fun n=>D (n+1)from funext fun n=>h3 (n+1) (by omega)]
   exact akK (fun j o' d' hj hD=>h4 (j+1) o' d' (by simpa using hj) (by omega) hD)
  |succ i=>
   simp only[gS]
   rw[h3 0 (by omega)]
   exact qO (by simpa using h) h1 h2 (fun j hj=>h3 (j+1) (by omega)) (fun j o' d' hj hi hD=>h4 (j+1) o' d' (by simpa using hj) (by omega) hD)
theorem zN{g:HF}{e:Ad}{b:Nat}(h:Ce g e b≠none):g b≠none∨e.id=b:=by
 rw[Lc]at h
 by_cases hb:b=e.id
 ·exact .inr hb.symm
 ·rw[if_neg hb]at h;exact .inl h
theorem qJ:∀{es:List Ad} {g:HF} {b:Nat},Ax g es b≠none→g b≠none∨Ik es b
 | [],g,b,h=>.inl h
 |e::es,g,b,h=>by
  rcases qJ (es:=es) h with h|⟨x,hx,Gs⟩
  ·rcases zN h with h|h
   ·exact .inl h
   ·exact .inr ⟨e,abB ..,h⟩
  ·exact .inr ⟨x,aa6 _ hx,Gs⟩
theorem abK:∀{l:List (Oper × Lq)} {D:Nat→Bool} {g:HF} {b:Nat},gS D l g b≠none→g b≠none∨∃j o d,D j=true∧l[j]?=some (o,d)∧Ik d.es b
 | [],D,g,b,h=>.inl h
 |x::l,D,g,b,h=>by
  simp only[gS]at h
  rcases abK h with h|⟨j,o,d,h1,h2,h3⟩
  ·cases e:D 0 with
   |true=>
    rw[e]at h
    simp only[if_true]at h
    rcases qJ h with h|h
    ·exact .inl h
    ·exact .inr ⟨0,x.1,x.2,e,by simp,h⟩
   |false=>rw[e]at h;exact .inl h
  ·exact .inr ⟨j+1,o,d,h1,by simpa using h2,h3⟩
end
section
variable {P:Program} {G:Nat→Option Obj} {O:Gn} {F:Fence} {nn:Nat}
theorem akX(hF:WF F)(hO:Ir P G O){ops:Array Oper}{i:Nat}{o:Oper}(ho:ops[i]?=some o){t:List AV}{g:HF}{base z:Nat}{d:Lq}{a:Act}{w:World}{S:Nat→Prop}(hI:Vt G w S){ρ:As}
 (H:HR w S ρ g) (T:TR w S ρ t a.tmps) (hz:ρ z=.fresh) (hgf:∀b,g b≠none→ρ b≠.fresh) (hd:mN O P ops.toList t g base o=some d)
 (hmb:∀vs vs' cs m,Md g [] vs=some (vs',cs,m)→(∀b∈m,Et.blk b∈d.fs)→∀b∈m,b<base) (hall:Et.all∈d.fs→∀b,base≤b→g b=none) (hnew:∀b c,Ad.new b c∈d.es→ρ b=.fresh)
 {Q:Exit→Act→World→Prop} {K:Act→World→Prop}
 (hK:∀cv w' S' ρ',VR w' S' ρ' d.v cv→HR w' S' ρ' (Ax g d.es)→Ia w w' S S' ρ ρ'→Yb (Ik d.es) w w' ρ ρ'→bB d.es ρ ρ'→K (a.put o.dst cv) w'):wpOpIn F nn P ops Q i K a w:=by
 have habout:∀f,o.about P w a.eval=some f→F.fn f:=fun f _=>hF.fn f
 unfold wpOpIn
 simp only[ho]
 unfold mN at hd
 split at hd
 ·simp at hd
 ·rename_i hw
  rw[Tf T hw]
  simp only[adV,if_false]
  simp at hd
  subst hd
  exact⟨habout,hK undef w S ρ Xn H (Ia.refl _ _ _) Yb.refl bB.refl⟩
 ·rename_i hw
  rw[Tf T hw]
  simp only[if_true]
  refine⟨habout,?_⟩
  cases hk:Hr o.op with
  |call c=>
   rw[hk]at hd
   simp only[aaW]at hd
   obtain⟨⟨fc,args⟩,hcal,dc,hdc,hd⟩:=hd
   simp only at hdc
   have hop:o.op=.call c∧∀b,c.callee≠.builtin b:=by
    unfold Hr at hk
    split at hk<;>simp at hk
    rename_i c' hnb hop
    subst hk
    exact⟨hop,fun b e=>by obtain⟨cal,as,ts⟩:=c';simp at e;subst e;exact hnb b as ts rfl⟩
   obtain⟨hop,hnb⟩:=hop
   have hsem:o.semAt F.round a.eval=execOp a.eval o:=Oper.semAt_eq _ _ _ (fun c e=>by rw[hop]at e;cases e)
   rw[hsem]
   cases hout:dc.out with
   |pan v=>rw[hout]at hd;simp at hd
   |ret v0=>
    rw[hout]at hd
    simp at hd
    subst hd
    unfold callee at hcal
    split at hcal
    ·rename_i fo hfo
     simp only[aaW]at hcal
     obtain⟨fv,hfv,vs,hvs,hcal⟩:=hcal
     have hfr:=Aw T hfv
     have hvr:=Nh T hvs
     generalize hfe:a.eval fo=cf at hfr
     split at hcal
     ·rename_i f fa fb
      simp only[acF.injEq,Prod.mk.injEq]at hcal
      obtain⟨rfl,rfl⟩:=hcal
      cases hfr with
      | @func _ _ _ _ va vc q1 q2 q3 q4=>
        have hlr:LR w S ρ (fa++vs++fb) (va++c.args.map a.eval++vc).toList:=by
         have e1:(va++c.args.map a.eval++vc).toList=va.toList++c.args.toList.map a.eval++vc.toList:=by simp
         rw[e1]
         exact(LR.append (LR.append ⟨by simpa using q1,fun i x v hx hv=>q3 i x v hx (by simpa using hv)⟩ hvr) ⟨by simpa using q2,fun i x v hx hv=>q4 i x v hx (by simpa using hv)⟩)
        have hmb':∀vs1 vs' cs m,Az (Ih 12 g) (fa++vs++fb)=some vs1→Md g [] vs1=some (vs',cs,m)→Yy O (Zm f (fa++vs++fb)) (fa++vs++fb)→∀b∈m,b<base:=fun vs1 vs' cs m h1 h2 h3=>by
         refine hmb vs1 vs' cs m h2 (fun b hb=>?_)
         have hdc':=hdc
         obtain⟨n3,_,h3⟩:=h3.eq
         rw[h3]at hdc'
         unfold Ew at hdc'
         simp only[aaW]at hdc'
         obtain⟨vs2,r1,⟨vs3,cs3,m3⟩,r2,r3⟩:=hdc'
         rw[h1]at r1;cases r1
         rw[h2]at r2;cases r2
         simp only at r3
         split at r3
         ·simp at r3
         ·obtain⟨⟨out,h'⟩,_,r4⟩:=aaW.1 r3
          show Et.blk b∈dc.fs
          rw[pP r4]
          exact ae8.2 ⟨b,alF _ hb,rfl⟩
        obtain⟨henter,hcalls⟩:=lQ hO hI H hz hgf (nI _ _) hlr hmb' hdc hall hnew
        have hrun:(execOp a.eval o).run P w=.ok (.enter f (va++c.args.map a.eval++vc)) w:=by
         simp only[execOp,hop,Sem.run_bind,resolve,hfo,hfe,Deferred.ofValue,Sem.run_pure,Result.andThen_ok,invoke]
         rw[henter]
        rw[hrun]
        refine⟨fun hdp=>by rw[hF.depth]at hdp;simp at hdp,hF.calls (hcalls.mono fun e w' ⟨cv,S',ρ',he,hv,hHR,hsim,hloc,hfrs⟩=>?_)⟩
        cases e with
        |returned v=>
         obtain⟨⟨x,hx⟩,rfl⟩:=he
         rw[hout]at hv
         exact hK _ w' S' ρ' hv hHR hsim hloc hfrs
        |panicked ch=>
         obtain⟨⟨x,hx⟩,rfl⟩:=he
         rw[hout]at hx;cases hx
        |outgrown=>exact he.elim
     ·rename_i b
      simp only[acF.injEq,Prod.mk.injEq]at hcal
      obtain⟨rfl,rfl⟩:=hcal
      have hyl:∃l,cf=.func (.yield l) #[] #[]:=by cases hfr<;>exact⟨_,rfl⟩
      obtain⟨l,rfl⟩:=hyl
      have hlr:LR w S ρ (vs++[.yl b]) ((c.args.map a.eval).toList++[.func (.yield l) #[] #[]]):=LR.append (by simpa using hvr) (.cons hfr .nil)
      obtain⟨fn,tmps,asg,body,hy,hround⟩:=iC hO hI H hz hgf hlr hdc hall hnew
      have hrun:(execOp a.eval o).run P w=.ok (.round l fn tmps asg body) w:=by
       simp only[execOp,hop,Sem.run_bind,resolve,hfo,hfe,Deferred.ofValue,Sem.run_pure,Result.andThen_ok,invoke]
       simpa using hy
      rw[hrun]
      refine⟨fun hdp=>by rw[hF.depth]at hdp;simp at hdp,(hround F _ hF).mono fun e w' ⟨cv,S',ρ',he,hv,hHR,hsim,hloc,hfrs⟩=>?_⟩
      cases e with
      |returned v=>
       obtain⟨⟨x,hx⟩,rfl⟩:=he
       rw[hout]at hv
       exact hK _ w' S' ρ' hv hHR hsim hloc hfrs
      |panicked ch=>
       obtain⟨⟨x,hx⟩,rfl⟩:=he
       rw[hout]at hx;cases hx
      |outgrown=>exact he.elim
     ·simp at hcal
    ·simp at hcal
  |panic x=>rw[hk]at hd;simp at hd
  |other=>
   rw[hk]at hd
   simp only at hd
   have hsem:o.semAt F.round a.eval=execOp a.eval o:=Oper.semAt_eq _ _ _ (eF hd)
   rw[hsem]
   have hex:∃base',ρ base'=.fresh∧exec P g base' t o.op=some d:=by
    obtain⟨b1,b2⟩:=ab7 hd
    by_cases hn:∃b c,Ad.new b c∈d.es
    ·obtain⟨b,c,hbc⟩:=hn
     have:=b1 b c hbc
     subst this
     exact⟨b,hnew b c hbc,hd⟩
    ·exact⟨z,hz,b2 (fun b c hbc=>hn ⟨b,c,hbc⟩) z⟩
   obtain⟨base',hb',hd'⟩:=hex
   obtain⟨cv,w',ρ',hran,hv,hHR,hsim,hloc,hfrs⟩:=lV H hb' T hd'
   rcases hran with hran|⟨hran,rfl⟩
   ·rw[hran];exact hK cv w' S ρ' hv hHR hsim hloc hfrs
   ·rw[hran];exact hK _ w' S ρ' hv hHR hsim hloc hfrs
theorem vA{ops:List Oper}{o:Oper}{t t':List AV}(h:∀x∈looks ops o,Ig t x=Ig t' x):∀x∈o.op.operands.toList,Ak t x=Ak t' x:=fun x hx=>by
 cases x with
 |tmp y=>
  simp only[Ak]
  rw[h y (apT _ (auV.2 ⟨_,hx,rfl⟩))]
 |_=>rfl
theorem oK{ops:List Oper}{o:Oper}{t t':List AV}(h:∀x∈looks ops o,Ig t x=Ig t' x):Gx ops t o=Gx ops t' o:=by
 unfold Gx
 cases hg:o.guard with
 |none=>rfl
 |some jw=>
  obtain⟨j,want⟩:=jw
  simp only
  cases hd:(ops[j]?).bind (·.dst)with
  |none=>rfl
  |some y=>
   simp only
   rw[h y (alF _ (by rw[hg];simp[hd]))]
theorem afL{ops:List Oper}{o:Oper}{t t':List AV}{g g':HF}{base:Nat}{d:Lq}(h:mN O P ops t g base o=some d)(ht:∀x∈looks ops o,Ig t x=Ig t' x)(ha:∀f∈d.fs,Eh g g' f):mN O P ops t' g' base o=some d:=by
 unfold mN at h ⊢
 rw[←oK ht]
 split at h
 ·simp at h
 ·exact h
 ·have hev:=vA ht
  cases hk:Hr o.op with
  |call c=>
   rw[hk]at h
   simp only[aaW]at h ⊢
   obtain⟨⟨fc,args⟩,hcal,dc,hdc,hd⟩:=h
   have hop:o.op=.call c:=by
    unfold Hr at hk
    split at hk<;>simp at hk
    rename_i c' hnb hop
    subst hk
    exact hop
   refine⟨(fc,args),?_,dc,?_,hd⟩
   ·rw[←wZ (fun x hx=>hev x (by rw[hop];exact hx))];exact hcal
   ·refine(acY hdc fun f hf=>ha f ?_).1
    cases hout:dc.out with
    |ret v=>rw[hout]at hd;simp at hd;subst hd;exact hf
    |pan v=>rw[hout]at hd;simp at hd
  |panic x=>rw[hk]at h;simp at h
  |other=>
   rw[hk]at h
   simp only at h ⊢
   rw[←aeR hev]
   exact afS h ha
theorem eT{acc:Array Nat}{i:Nat}:∀{l:List Edge} {s:Nat},(l.foldl (fun s e=>if Region.binds .any e then s|||2 ^ e.on|||acc.getD e.on 0 else s) s).testBit i=true→
 s.testBit i=true∨∃e∈l,Region.binds .any e=true∧(e.on=i∨(acc.getD e.on 0).testBit i=true)
 | [],s,h=>.inl h
 |e::l,s,h=>by
  rcases eT (l:=l) h with h|⟨e',he,k1,k2⟩
  ·simp only at h
   by_cases hb:Region.binds .any e=true
   ·rw[if_pos hb,Nat.testBit_or,Nat.testBit_or,Nat.testBit_two_pow]at h
    simp only[Bool.or_eq_true,decide_eq_true_eq]at h
    rcases h with(h|h)|h
    ·exact .inl h
    ·exact .inr ⟨e,abB ..,hb,.inl h⟩
    ·exact .inr ⟨e,abB ..,hb,.inr h⟩
   ·rw[if_neg hb]at h;exact .inl h
  ·exact .inr ⟨e',aa6 _ he,k1,k2⟩
def Ix(acc:Array Nat)(o:Oper):Array Nat:=acc.push (o.after.foldl (fun s e=>if Region.binds .any e then s|||2 ^ e.on|||acc.getD e.on 0 else s) 0)
theorem fQ(l:List Oper):∀(A:Array Nat) (pre:List Oper),A.size=pre.length→
 (∀j i,(A.getD j 0).testBit i=true→∃o e,pre[j]?=some o∧e∈o.after.toList∧Region.binds .any e=true∧(e.on=i∨(e.on<j∧(A.getD e.on 0).testBit i=true)))→
 ∀j i,((l.foldl Ix A).getD j 0).testBit i=true→∃o e,(pre++l)[j]?=some o∧e∈o.after.toList∧Region.binds .any e=true∧(e.on=i∨(e.on<j∧((l.foldl Ix A).getD e.on 0).testBit i=true)):=by
 induction l with
 |nil=>intro A pre _ h j i hj;simpa using h j i hj
 |cons o l ih=>
  intro A pre hA h j i hj
  have:=ih (Ix A o) (pre++[o]) (by simp[Ix,hA]) (fun j i hj=>?_) j i hj
  ·simpa using this
  ·have hpush:∀n,n<A.size→(Ix A o).getD n 0=A.getD n 0:=fun n hn=>by
    simp only[Ix,aeH,Array.getElem?_push]
    rw[if_neg (by omega)]
   rcases apV j A.size with hlt|heq|hgt
   ·rw[hpush j hlt]at hj
    obtain⟨o',e,k1,k2,k3,k4⟩:=h j i hj
    refine⟨o',e,?_,k2,k3,?_⟩
    ·rw[au2 (by omega)];exact k1
    ·rcases k4 with k4|⟨k4,k5⟩
     ·exact .inl k4
     ·exact .inr ⟨k4,by rw[hpush _ (by omega)];exact k5⟩
   ·subst heq
    have hv:(Ix A o).getD A.size 0=o.after.foldl (fun s e=>if Region.binds .any e then s|||2 ^ e.on|||A.getD e.on 0 else s) 0:=by
     simp[Ix,aeH]
    rw[hv,←apY]at hj
    rcases eT hj with hz|⟨e,k1,k2,k3⟩
    ·simp at hz
    ·refine⟨o,e,by rw[hA];simp,k1,k2,?_⟩
     rcases k3 with k3|k3
     ·exact .inl k3
     ·have hlt:e.on<A.size:=by
       rcases Nat.lt_or_ge e.on A.size with q|q
       ·exact q
       ·rw[aeH,au3 q]at k3;simp at k3
      exact .inr ⟨hlt,by rw[hpush _ hlt];exact k3⟩
   ·rw[aeH,au3 (by simp[Ix];omega)]at hj
    simp at hj
theorem vI{ops:Array Oper}{j i:Nat}(h:((Region.before ops).getD j 0).testBit i=true):
 ∃o e,ops[j]?=some o∧e∈o.after.toList∧Region.binds .any e=true∧(e.on=i∨(e.on<j∧((Region.before ops).getD e.on 0).testBit i=true)):=by
 have hb:Region.before ops=ops.toList.foldl Ix #[]:=by unfold Region.before;rw[←apY];rfl
 rw[hb]at h ⊢
 have:=fQ ops.toList #[] [] rfl (fun j i hj=>by simp at hj) j i h
 simpa using this
theorem cJ{ops:Array Oper}{D:Nat→Bool}(hc:∀(j:Nat) (o:Oper),ops[j]?=some o→D j=true→∀e∈o.after.toList,Region.binds .any e=true→D e.on=true):∀(j i:Nat),D j=true→((Region.before ops).getD j 0).testBit i=true→D i=true:=by
 intro j
 induction j using anI with
 |_ j ih=>
  intro i hj h
  obtain⟨o,e,k1,k2,k3,k4⟩:=vI h
  have he:=hc j o k1 hj e k2 k3
  rcases k4 with k4|⟨k4,k5⟩
  ·rw[←k4];exact he
  ·exact ih e.on k4 i he k5
theorem ad3{ops:Array Oper}{i j:Nat}(hij:i<j)(hj:j<ops.size)(h:((Region.before ops).getD j 0).testBit i=false):(i,j)∈iG ops.toList:=by
 unfold iG
 simp only[acZ,aeP,auV,Array.toArray_toList]
 exact⟨j,by simpa using hj,i,hij,by rw[h];simp⟩
end
section
variable {P:Program} {G:Nat→Option Obj} {O:Gn} {F:Fence} {nn:Nat}
def InD(D:Nat→Bool)(recs:List (Oper × Lq))(b:Nat):Prop:=∃(j:Nat) (o:Oper) (d:Lq),D j=true∧recs[j]?=some (o,d)∧Ik d.es b
structure DI(s:St)(recs:List (Oper × Lq))(a0:Act)(w0:World)(S0:Nat→Prop)(ρ0:As)(D:Nat→Bool)(a:Act)(w:World)(S:Nat→Prop)(ρ:As):Prop where
 hr:HR w S ρ (gS D recs (hf s.h))
 tr:TR w S ρ (tS D recs s.tmps) a.tmps
 sim:Ia w0 w S0 S ρ0 ρ
 loc:Yb (InD D recs) w0 w ρ0 ρ
 frs:∀b,ρ b=.fresh↔(ρ0 b=.fresh∧¬InD D recs b)
 defers:a.defers=a0.defers
theorem Ze{x y:List Ad × List Et}(h:Tc x y=false):(∀e∈x.1,∀e'∈y.1,e.foot.meets e'.foot=false)∧(∀e∈x.1,∀f∈y.2,e.foot.meets f=false)∧(∀e∈y.1,∀f∈x.2,e.foot.meets f=false):=by
 unfold Tc at h
 simp only[Bool.or_eq_false_iff,anY,ae8,alG]at h
 obtain⟨h1,h2⟩:=h
 refine⟨fun e he e' he'=>?_,fun e he f hf=>?_,fun e he f hf=>?_⟩
 ·have:=h1 e.foot ⟨e,he,rfl⟩
  simp only[ap2,anY,alG,ae8]at this
  exact this e'.foot (.inl ⟨e',he',rfl⟩)
 ·have:=h1 e.foot ⟨e,he,rfl⟩
  simp only[ap2,anY,alG,ae8]at this
  exact this f (.inr hf)
 ·have:=h2 e.foot ⟨e,he,rfl⟩
  simp only[ap2,anY]at this
  exact this f hf
theorem Zx{ops:List Oper}{x y:Oper}(h:gJ ops x y=true):(∀d,x.dst=some d→d∉looks ops y∧y.dst≠some d)∧(∀d,y.dst=some d→d∉looks ops x):=by
 unfold gJ at h
 rw[aeW]at h
 obtain⟨h1,h2⟩:=h
 refine⟨fun d hd=>?_,fun d hd=>?_⟩
 ·rw[hd]at h1;simpa using h1
 ·rw[hd]at h2;simpa using h2
theorem zA{b:Nat}{c:CB}{e:Ad}(h:e.id=b):(Ad.new b c).foot.meets e.foot=true:=by
 cases e<;>simp[Ad.id]at h<;>subst h<;>simp[Ad.foot,Et.meets]
theorem oZ{l:Array Bool}{i:Nat}(h:l.getD i true=false):i<l.size∧l.getD i false=false:=by
 rw[aeH]at h ⊢
 cases e:l[i]? with
 |none=>rw[e]at h;simp at h
 |some b=>rw[e]at h;simp at h;subst h;exact⟨(aeM.1 e).1,rfl⟩
theorem aiW{l:List Nat}{p q:Nat→Bool}(hq:∀x,q x=true→p x=true){i:Nat}(hi:i∈l)(h1:p i=true)(h2:q i=false):(l.filter q).length<(l.filter p).length:=by
 induction l with
 |nil=>simp at hi
 |cons x l ih=>
  have hle:(l.filter q).length≤(l.filter p).length:=by
   clear ih hi
   induction l with
   |nil=>simp
   |cons y l ih=>
    cases e1:q y with
    |true=>rw[aeZ e1,aeZ (hq y e1)];simpa using ih
    |false=>
     rw[af4 (by simp[e1])]
     cases e2:p y with
     |true=>rw[aeZ e2];simp only[apM];omega
     |false=>rw[af4 (by simp[e2])];exact ih
  rcases List.mem_cons.1 hi with rfl|hi
  ·rw[aeZ h1,af4 (by simp[h2])];simp only[apM];omega
  ·have:=ih hi
   cases e1:q x with
   |true=>rw[aeZ e1,aeZ (hq x e1)];simp only[apM];omega
   |false=>
    rw[af4 (by simp[e1])]
    cases e2:p x with
    |true=>rw[aeZ e2];simp only[apM];omega
    |false=>rw[af4 (by simp[e2])];exact this
theorem wJ(hm:P.follows .mixedOrders=true)(hO:Ir P G O):dS P G O:=by
 intro ops B k r s a0 w0 S0 ρ0 id F nn hF hst hev hI hs
 obtain⟨recs,s',hruns,hmap,hk⟩:=kR hev
 simp only[au4]at hk
 have hdk:Gg ops.toList (recs.map fun x=>(x.2.es,x.2.fs))=true∧k s' (recs.map fun x=>(x.2.es,x.2.fs))=some r:=by
  unfold Ii at hk
  cases e:Gg ops.toList (recs.map fun x=>(x.2.es,x.2.fs))with
  |true=>rw[e]at hk;exact⟨rfl,hk⟩
  |false=>rw[e]at hk;simp at hk
 obtain⟨hdyn,hk⟩:=hdk
 have hlen:recs.length=ops.size:=by have:=congrArg List.length hmap;simpa using this
 have hget:∀(i:Nat) o d,recs[i]?=some (o,d)→ops[i]?=some o:=fun i o d h=>by
  have:(recs.map (·.1))[i]?=some o:=by rw[ai5,h];rfl
  rw[hmap]at this;simpa using this
 unfold Qm at hst
 rw[aeW]at hst
 obtain⟨hedge,hap⟩:=hst
 have pair:∀(i j:Nat) x y,i<j→recs[i]?=some x→recs[j]?=some y→((Region.before ops).getD j 0).testBit i=false→gJ ops.toList x.1 y.1=true∧Tc (x.2.es,x.2.fs) (y.2.es,y.2.fs)=false:=fun i j x y hij hi hj hb=>by
  have hjl:j<ops.size:=by rw[←hlen];exact(abY.1 hj).1
  have hmem:=ad3 hij hjl hb
  refine⟨?_,?_⟩
  ·have:=abT.1 hap _ hmem
   have e1:=hget i x.1 x.2 hi
   have e2:=hget j y.1 y.2 hj
   simp only[au5,e1,e2]at this
   exact this
  ·have:=abT.1 hdyn _ hmem
   simp only[ai5,hi,hj,acK]at this
   simpa using this
 have FF:=hs.1
 have step:∀(D:Nat→Bool) (i:Nat) (o:Oper) (d:Lq),recs[i]?=some (o,d)→D i=false→
  (∀(j:Nat) (o:Oper),ops[j]?=some o→(D j=true∨j=i)→∀e∈o.after.toList,Region.binds .any e=true→D e.on=true)→
  ∀a w S ρ,DI s recs a0 w0 S0 ρ0 D a w S ρ→∀(Q:Exit→Act→World→Prop) (K:Act→World→Prop) (D':Nat→Bool),D' i=true→(∀j,j≠i→D' j=D j)→
  (∀a' w' S' ρ',DI s recs a0 w0 S0 ρ0 D' a' w' S' ρ'→K a' w')→wpOpIn F nn P ops Q i K a w:=by
  intro D i o d hi hDi hcl a w S ρ hDI Q K D' hD'i hD' hK
  obtain⟨h,t1,t2,t3,t4,t5,t6,t7⟩:=hruns.at i o d hi
  have hil:i<ops.size:=by rw[←hlen];exact(abY.1 hi).1
  have hclD:∀(j:Nat) (o:Oper),ops[j]?=some o→D j=true→∀e∈o.after.toList,Region.binds .any e=true→D e.on=true:=fun j o hj hd=>hcl j o hj (.inl hd)
  have hclD':∀(j:Nat) (o:Oper),ops[j]?=some o→D' j=true→∀e∈o.after.toList,Region.binds .any e=true→D' e.on=true:=fun j o hj hd e he hb=>by
   have hD:D e.on=true:=by
    by_cases hji:j=i
    ·exact hcl j o hj (.inr hji) e he hb
    ·exact hcl j o hj (.inl (by rw[←hD' j hji];exact hd)) e he hb
   have hne:e.on≠i:=fun q=>by rw[q,hDi]at hD;cases hD
   rw[hD' _ hne];exact hD
  have later:∀j o' d',recs[j]?=some (o',d')→i<j→D j=true→gJ ops.toList o o'=true∧Tc (d.es,d.fs) (d'.es,d'.fs)=false:=fun j o' d' hj hij hDj=>by
   refine pair i j (o,d) (o',d') hij hi hj ?_
   cases hb:((Region.before ops).getD j 0).testBit i with
   |false=>rfl
   |true=>have:=cJ hclD j i hDj hb;rw[hDi]at this;cases this
  have earlier:∀j o' d',recs[j]?=some (o',d')→j<i→D j=false→gJ ops.toList o' o=true∧Tc (d'.es,d'.fs) (d.es,d.fs)=false:=fun j o' d' hj hij hDj=>by
   refine pair j i (o',d') (o,d) hij hj hi ?_
   cases hb:((Region.before ops).getD i 0).testBit j with
   |false=>rfl
   |true=>
    have:=cJ hclD' i j hD'i hb
    rw[hD' j (by omega),hDj]at this;cases this
  have hdiff:∀j o' d',recs[j]?=some (o',d')→decide (j<i)≠D j→(∀x,o'.dst=some x→x∉looks ops.toList o)∧∀e∈d'.es,∀f∈d.fs,e.foot.meets f=false:=fun j o' d' hj hne=>by
   by_cases hji:j<i
   ·have hDj:D j=false:=by
     cases e:D j with
     |false=>rfl
     |true=>rw[e]at hne;simp[hji]at hne
    obtain⟨q1,q2⟩:=earlier j o' d' hj hji hDj
    exact⟨fun x hx=>((Zx q1).1 x hx).1,fun e he f hf=>(Ze q2).2.1 e he f hf⟩
   ·have hDj:D j=true:=by
     cases e:D j with
     |true=>rfl
     |false=>rw[e]at hne;simp[hji]at hne
    have hij:i<j:=by
     rcases apV i j with q|q|q
     ·exact q
     ·subst q;rw[hDi]at hDj;cases hDj
     ·omega
    obtain⟨q1,q2⟩:=later j o' d' hj hij hDj
    exact⟨fun x hx=>(Zx q1).2 x hx,fun e he f hf=>(Ze q2).2.2 e he f hf⟩
  have hta:∀x∈looks ops.toList o,Ig (tS (fun n=>decide (n<i)) recs s.tmps) x=Ig (tS D recs s.tmps) x:=
   uZ (fun j o' d' hj hne=>(hdiff j o' d' hj hne).1) rfl (fun _ _=>rfl)
  have hga:∀f∈d.fs,Eh (gS (fun n=>decide (n<i)) recs (hf s.h)) (gS D recs (hf s.h)) f:=fun f hf=>
   sY (fun j o' d' hj hne e he=>(hdiff j o' d' hj hne).2 e he f hf) (Eh.refl _ _)
  have hd:=afL t1 hta hga
  have hfresh:∀b c,Ad.new b c∈d.es→ρ b=.fresh:=fun b c hb=>by
   have hbl:=Xk t3.ok b c hb
   refine(hDI.frs b).2 ⟨FF.dom b (afM t4 hbl),fun⟨j,o',d',hDj,hj,hE⟩=>?_⟩
   rcases apV i j with q|q|q
   ·obtain⟨e,he,Gs⟩:=hE
    have:=(Ze (later j o' d' hj q hDj).2).1 _ hb e he
    rw[zA Gs]at this;cases this
   ·subst q;rw[hDi]at hDj;cases hDj
   ·have:=t7 j o' d' q hj b hE;omega
  have hz:ρ s'.h.length=.fresh:=(hDI.frs _).2 ⟨FF.dom _ (afM t4 t5),fun⟨j,o',d',hDj,hj,hE⟩=>by
   obtain⟨_,_,_,_,_,_,u6,_⟩:=hruns.at j o' d' hj
   have:=u6 _ hE;omega⟩
  have hgf:∀b,gS D recs (hf s.h) b≠none→ρ b≠.fresh:=fun b hb hfr=>by
   obtain⟨f1,f2⟩:=(hDI.frs b).1 hfr
   rcases abK hb with q|q
   ·have hlt:b<s.h.length:=by
     cases e:hf s.h b with
     |none=>exact(q e).elim
     |some c=>exact Ns e
    exact FF.all b hlt f1
   ·exact f2 q
  refine akX hF hO (hget i o d hi) (hI.sim (FF.sim.trans hDI.sim)) hDI.hr hDI.tr hz hgf hd ?_ (fun hm b hb=>by
   have e:gS D recs (hf s.h)=gS (fun n=>decide (n<i)) recs (hf s.h):=hga .all hm
   rw[e,t2];exact rS hb) hfresh ?_
  ·intro vs vs' cs m hp hblk b hb
   have:=wC (g:=gS D recs (hf s.h)) (g':=gS (fun n=>decide (n<i)) recs (hf s.h)) hp (fun b' hb'=>(hga (.blk b') (hblk b' hb')).symm)
   rw[t2]at this
   exact aaP this b hb
  ·intro cv w' S' ρ' hv hHR hsim hloc hfrs
   have ht:tS D' recs s.tmps=put (tS D recs s.tmps) o.dst d.v:=qC hi hDi hD'i hD' (fun j o' d' hj hij hDj c hc=>((Zx (later j o' d' hj hij hDj).1).1 c hc).2)
   have hg:gS D' recs (hf s.h)=Ax (gS D recs (hf s.h)) d.es:=qO hi hDi hD'i hD' (fun j o' d' hj hij hDj=>(Ze (later j o' d' hj hij hDj).2).1)
   have hin:∀b,InD D' recs b↔InD D recs b∨Ik d.es b:=fun b=>by
    constructor
    ·rintro⟨j,o',d',q1,q2,q3⟩
     by_cases hji:j=i
     ·subst hji;rw[hi]at q2;cases q2;exact .inr q3
     ·exact .inl ⟨j,o',d',by rw[←hD' j hji];exact q1,q2,q3⟩
    ·rintro(⟨j,o',d',q1,q2,q3⟩|q)
     ·by_cases hji:j=i
      ·subst hji;rw[hDi]at q1;cases q1
      ·exact⟨j,o',d',by rw[hD' j hji];exact q1,q2,q3⟩
     ·exact⟨i,o,d,hD'i,hi,q⟩
   refine hK _ w' S' ρ' ⟨?_,?_,hDI.sim.trans hsim,?_,fun b=>?_,by rw[lB];exact hDI.defers⟩
   ·rw[hg];exact hHR
   ·rw[ht];exact pS (LR.sim hsim hDI.tr) o.dst hv
   ·exact(hDI.loc.trans hloc).mono (fun b hb=>(hin b).2 hb)
   ·rw[hfrs b,hDI.frs b,hin b]
    constructor
    ·rintro⟨⟨q1,q2⟩,q3⟩;exact⟨q1,fun q=>q.elim q2 q3⟩
    ·rintro⟨q1,q2⟩;exact⟨⟨q1,fun q=>q2 (.inl q)⟩,fun q=>q2 (.inr q)⟩
 have fin:∀(D:Nat→Bool) a w S ρ,(∀i,i<ops.size→D i=true)→DI s recs a0 w0 S0 ρ0 D a w S ρ→OQ B k (fun _ _=>none) r .normal a w:=by
  intro D a w S ρ hall hDI
  obtain⟨l1,l2,l3⟩:=hruns.last
  have hgA:gS D recs (hf s.h)=Ax (hf s.h) (cH recs):=by
   rw[←akN];exact sP (fun i hi=>hall i (by omega))
  have htA:tS D recs s.tmps=s'.tmps:=by rw[l1];exact vR (fun i hi=>hall i (by omega))
  have hinA:∀b,InD D recs b↔Ik (cH recs) b:=fun b=>by
   rw[adN]
   constructor
   ·rintro⟨j,o,d,_,h1,h2⟩;exact⟨j,o,d,h1,h2⟩
   ·rintro⟨j,o,d,h1,h2⟩;exact⟨j,o,d,hall j (by rw[←hlen];exact(abY.1 h1).1),h1,h2⟩
  have hFI:=FF.step l3 (by rw[←hgA];exact hDI.hr) hDI.sim (hDI.loc.mono fun b hb=>(hinA b).1 hb) (fun b=>by rw[hDI.frs b,hinA b])
  rw[←l2]at hFI
  refine⟨s',recs.map fun x=>(x.2.es,x.2.fs),S,ρ,hk,hFI,?_,?_,?_⟩
  ·rw[←htA];exact hDI.tr
  ·rw[hDI.defers];exact hs.2.2.1.later hs.1.hr hDI.sim
  ·rw[hDI.defers]
   refine⟨hs.2.2.2.1,fun l hl=>?_⟩
   obtain⟨r,hr⟩:=hs.2.2.2.2 l hl
   obtain⟨st,pe,k⟩:=hDI.sim.loops l r hr
   exact⟨_,k⟩
 have main:∀fuel (listed:Array Bool) a w S ρ,listed.size=ops.size→((apQ ops.size).filter fun i=> !listed.getD i false).length≤fuel→
  (∀(j:Nat) (o:Oper),ops[j]?=some o→listed.getD j false=true→∀e∈o.after.toList,Region.binds .any e=true→listed.getD e.on false=true)→
  DI s recs a0 w0 S0 ρ0 (fun i=>listed.getD i false) a w S ρ→wpAnyIn F nn P .any ops (OQ B k (fun _ _=>none) r) fuel listed a w:=by
  intro fuel
  induction fuel with
  |zero=>
   intro listed a w S ρ hsz hcnt hcl hDI
   have hall:∀i,i<ops.size→listed.getD i false=true:=fun i hi=>by
    cases e:listed.getD i false with
    |true=>rfl
    |false=>
     have:i∈(apQ ops.size).filter fun i=> !listed.getD i false:=ap5.2 ⟨aeP.2 hi,by simp only[e];rfl⟩
     rw[List.length_eq_zero_iff.1 (Nat.le_zero.1 hcnt)]at this;simp at this
   refine⟨?_,fin _ a w S ρ hall hDI⟩
   unfold Region.ready
   rw[List.filter_eq_nil_iff]
   intro i hi hr
   rw[aeW]at hr
   have h1:=(oZ (l:=listed) (i:=i) (by simpa using hr.1)).2
   rw[hall i (aeP.1 hi)]at h1;cases h1
  |succ fuel ih=>
   intro listed a w S ρ hsz hcnt hcl hDI
   refine⟨fun hnil=>fin _ a w S ρ (fun i hi=>?_) hDI,fun i hi=>?_⟩
   ·
    induction i using anI with
    |_ i ihi=>
     cases e:listed.getD i false with
     |true=>rfl
     |false=>
      have hmem:i∈Region.ready .any ops listed:=by
       unfold Region.ready
       refine ap5.2 ⟨aeP.2 hi,?_⟩
       rw[aeW]
       refine⟨?_,?_⟩
       ·have hlt:i<listed.size:=by omega
        rw[aeH,au6 hlt]at e ⊢
        simp at e ⊢;exact e
       ·have ho:ops[i]?=some ops[i]:=au6 hi
        rw[ho]
        simp only[acK,au7,ap8]
        intro ed hed
        have hE:=abT.1 hedge i (aeP.2 (by simpa using hi))
        simp only[au5,ho,ap8]at hE
        have:=hE ed hed
        cases hb:Region.binds .any ed with
        |false=>rfl
        |true=>
         rw[hb]at this
         simp at this
         simp only[Bool.not_true,Bool.false_or]
         exact ihi ed.on this (by omega)
      rw[hnil]at hmem;simp at hmem
   ·have hi':=hi
    unfold Region.ready at hi'
    obtain⟨hir,hrd⟩:=ap5.1 hi'
    rw[aeW]at hrd
    have hir:=aeP.1 hir
    obtain⟨g1,g2⟩:=oZ (l:=listed) (i:=i) (by simpa using hrd.1)
    have hrec:∃o d,recs[i]?=some (o,d):=⟨_,_,alD (by omega:i<recs.length)⟩
    obtain⟨o,d,hrec⟩:=hrec
    have ho:=hget i o d hrec
    have hafter:∀e∈o.after.toList,Region.binds .any e=true→listed.getD e.on false=true:=fun e he hb=>by
     have:=hrd.2
     rw[ho]at this
     simp only[acK,au7,ap8]at this
     have:=this e (by simpa using he)
     rw[hb]at this
     simpa using this
    have hset:∀j,j≠i→(listed.setIfInBounds i true).getD j false=listed.getD j false:=fun j hj=>getD_set_ne false (Ne.symm hj)
    have hseti:(listed.setIfInBounds i true).getD i false=true:=by
     rw[aeH,Array.getElem?_setIfInBounds_self_of_lt g1];rfl
    refine step (fun i=>listed.getD i false) i o d hrec g2 ?_ a w S ρ hDI _ _ (fun j=>(listed.setIfInBounds i true).getD j false) hseti hset ?_
    ·intro j o' hj hor e he hb
     rcases hor with hor|rfl
     ·exact hcl j o' hj hor e he hb
     ·rw[ho]at hj;cases hj;exact hafter e he hb
    ·intro a' w' S' ρ' hDI'
     refine ih (listed.setIfInBounds i true) a' w' S' ρ' (by simpa using hsz) ?_ ?_ hDI'
     ·have:=aiW (l:=apQ ops.size) (p:=fun i=> !listed.getD i false) (q:=fun j=> !(listed.setIfInBounds i true).getD j false) (fun x hx=>by
       by_cases hxi:x=i
       ·subst hxi;rw[hseti]at hx;simp at hx
       ·rw[hset x hxi]at hx;exact hx) (aeP.2 hir) (by rw[g2];rfl) (by rw[hseti];rfl)
      omega
     ·intro j o' hj hor e he hb
      have hD:listed.getD e.on false=true:=by
       by_cases hji:j=i
       ·subst hji;rw[ho]at hj;cases hj;exact hafter e he hb
       ·exact hcl j o' hj (by rw[←hset j hji];exact hor) e he hb
      exact getD_set_true hD
 refine wpIn_region_any hm (main ops.size (aqW ops.size false) a0 w0.drew S0 ρ0 (by simp) ?_ ?_ ?_)
 ·exact afM (List.length_filter_le _ _) (by simp)
 ·intro j o _ hj
  rw[aeH,au8]at hj
  split at hj<;>simp at hj
 ·have hno:∀i,(aqW ops.size false).getD i false=false:=fun i=>by
   rw[aeH,au8]
   split<;>rfl
  have hnoD:∀b,¬InD (fun i=>(aqW ops.size false).getD i false) recs b:=fun b ⟨j,_,_,q,_⟩=>by have h0:=hno j;simp only[h0]at q;cases q
  refine⟨?_,?_,Ia.drew _ _ _,fun b cb co st sz h _=>⟨h,rfl⟩,fun b=>⟨fun h=>⟨h,hnoD b⟩,fun h=>h.1⟩,rfl⟩
  ·rw[kM hno];exact FF.hr.drew
  ·rw[sE hno];exact LR.sim (Ia.drew _ _ _) hs.2.1
end
section
variable {P:Program} {G:Nat→Option Obj} {O:Gn}
theorem hZ{w:World}{S:Nat→Prop}{ρ:As}:∀{ps:List Nat} {vs:List AV} {cs:List Value} {tmps:List AV} {ct:Array Value},LR w S ρ vs cs→ps.length=vs.length→LR w S ρ tmps ct.toList→
 LR w S ρ (Ud tmps ps vs) ((ps.zip cs).foldl (fun t (p:Nat × Value)=>t.setIfInBounds p.1 p.2) ct).toList
 | [],vs,cs,tmps,ct,_,_,h=>by simpa [Ud]using h
 |p::ps,[],cs,tmps,ct,_,hl,_=>by simp at hl
 |p::ps,v::vs,cs,tmps,ct,hv,hl,h=>by
  obtain⟨c,cs',rfl,h1,h2⟩:=hv.cons_inv
  simp only[Ud,List.zip_cons_cons,List.foldl_cons]
  exact hZ h2 (by simpa using hl) (by rw[Array.toList_setIfInBounds];exact h.set p h1)
theorem Ia.loop{w:World}{S:Nat→Prop}{ρ:As}{b l:Nat}(hb:ρ b=.lp l)(hS:¬S l){r:Loop}(hr:w.heap[l]?=some (.loop r))(st:LoopState)(pe:Option Code):
 Ia w (Ev.setB w l (.loop { r with state:=st,pending:=pe })) S S ρ ρ where
 size:=by simp[Ev.setB]
 os:=rfl
 tape:=rfl
 output:=rfl
 keep:=fun b hb=>Bn (fun e=>hS (e▸hb))
 sub:=fun _ h=>h
 le:=ρ.le_refl
 other:=fun b' _ _ hn=>Bn (fun e=>hn b (by rw[e];exact hb))
 rng:=fun id _ co st sz h=>.inr ⟨id,co,st,sz,h⟩
 grow:=fun _ h=>.inl h
 objs:=fun b o' hb ho=>by rw[Bn (fun e=>by rw[e,hr]at hb;cases hb;simp[Xw]at ho)];exact hb
 loops:=fun b' r' hb'=>by
  by_cases e:b'=l
  ·subst e;rw[hr]at hb';cases hb'
   exact⟨st,pe,Xo hr⟩
  ·exact⟨r'.state,r'.pending,by rw[Bn e];exact hb'⟩
 lrng:=fun id _ h=>.inr ⟨id,h⟩
theorem HR.loop{w:World}{S:Nat→Prop}{ρ:As}{g:HF}(H:HR w S ρ g){b l:Nat}(hb:ρ b=.lp l){r:Loop}(hr:w.heap[l]?=some (.loop r)){ps:List Nat}{asg body:Code}{tmps:List AV}{st:Ta}
 (hg:g b=some (.lp ps asg body tmps st)) {st':Ta} {x:LoopState} {y:Option Code} (hh:st'.holds x y):HR (Ev.setB w l (.loop { r with state:=x,pending:=y })) S ρ (Kv g b (.lp ps asg body tmps st')):=by
 have hs:=Ia.loop hb (H.lnS b l hb) hr x y
 refine⟨fun b' cb co st sz h=>?_,fun b' h=>?_,H.inj,fun b' h=>by have:=H.old b' h;simpa [Ev.setB]using this,fun b' l' h=>?_,H.linj,H.lnS⟩
 ·obtain⟨c,e,fz,fl,rows,h1,h2,h3,h4⟩:=H.at_ b' cb co st sz h
  have hne:b'≠b:=fun e=>by rw[e,hb]at h;cases h
  refine⟨c,e,fz,fl,rows,by rw[Bn (fun e=>by rw[e,hr]at h1;cases h1)];exact h1,h2,h3.sim hs,by simpa [Kv,hne]using h4⟩
 ·have hne:b'≠b:=fun e=>by rw[e,hb]at h;cases h
  simpa [Kv,hne]using H.dead b' h
 ·by_cases e:b'=b
  ·subst e
   rw[hb]at h;cases h
   obtain⟨r1,ps1,asg1,body1,tmps1,st1,h1,h2,h3⟩:=H.lps _ _ hb
   rw[hr]at h1;cases h1
   rw[hg]at h2;cases h2
   exact⟨_,ps,asg,body,tmps,st',Xo hr,by simp[Kv],h3.params,h3.assign,h3.body,LR.sim hs h3.tmps,hh⟩
  ·obtain⟨r1,ps1,asg1,body1,tmps1,st1,h1,h2,h3⟩:=H.lps _ _ h
   have hne:l'≠l:=fun q=>e (H.linj _ _ _ h (q▸hb))
   exact⟨r1,ps1,asg1,body1,tmps1,st1,by rw[Bn hne];exact h1,by simpa [Kv,e]using h2,h3.sim hs⟩
theorem FI.loop{h0:Ab}{w0:World}{S0:Nat→Prop}{ρ0:As}{h:Ab}{w:World}{S:Nat→Prop}{ρ:As}(F:FI h0 w0 S0 ρ0 h w S ρ){b l:Nat}(hb:ρ b=.lp l){r:Loop}(hr:w.heap[l]?=some (.loop r)){ps:List Nat}{asg body:Code}{tmps:List AV}{st:Ta}
 (hg:h[b]?=some (.lp ps asg body tmps st)) {st':Ta} {x:LoopState} {y:Option Code} (hh:st'.holds x y):
 FI h0 w0 S0 ρ0 (h.set b (.lp ps asg body tmps st')) (Ev.setB w l (.loop { r with state:=x,pending:=y })) S ρ:=by
 have hlt:b<h.length:=(abY.1 hg).1
 have hg':hf h b=some (.lp ps asg body tmps st):=hg
 have hes:Fj h [.put b (.lp ps asg body tmps st')]:=by
  refine⟨⟨hlt,trivial⟩,fun b' ⟨e,he,Gs⟩ _=>?_,fun b' hn=>?_⟩
  ·simp at he;subst he;simp[Ad.id]at Gs;subst Gs
   refine⟨⟨_,hg',rfl⟩,fun c hc=>?_⟩
   simp[Ax,Ce,Kv]at hc;subst hc;rfl
  ·simp only[Ax,Ce,Kv]
   rw[if_neg (fun e=>hn ⟨_,abO.2 rfl,e.symm⟩)]
 have:=F.step hes (w':=Ev.setB w l (.loop { r with state:=x,pending:=y })) (S':=S) (ρ':=ρ) (F.hr.loop hb hr hg' hh) (Ia.loop hb (F.hr.lnS b l hb) hr x y)
  (fun b' cb co st sz h' _=>⟨h',Bn (fun e=>by
    obtain⟨_,_,_,_,_,q,_⟩:=F.hr.at_ _ _ _ _ _ h'
    rw[e,hr]at q;cases q)⟩)
  (fun b'=>⟨fun h'=>⟨h',fun⟨e,he,Gs⟩=>by
    simp at he;subst he;simp[Ad.id]at Gs;subst Gs;rw[hb]at h';cases h'⟩,fun h'=>h'.1⟩)
 exact this
theorem WF.inRound{F:Fence}(h:WF F)(l:Nat):WF (F.inRound l):=by
 rcases h with rfl|⟨l',rfl⟩
 ·exact .inr ⟨l,rfl⟩
 ·exact .inr ⟨l,rfl⟩
theorem lH{h h':Ab}{b:Nat}{ok:Ta→Bool}{st:Ta}(hs:Td h b ok st=some h'):∃ps asg body tmps st',h[b]?=some (.lp ps asg body tmps st')∧ok st'=true∧h'=h.set b (.lp ps asg body tmps st):=by
 unfold Td at hs
 split at hs
 ·rename_i ps asg body tmps st' hb
  split at hs
  ·rename_i hok;simp at hs;exact⟨ps,asg,body,tmps,st',hb,hok,hs.symm⟩
  ·simp at hs
 ·simp at hs
theorem FI.lpAt{h0:Ab}{w0:World}{S0:Nat→Prop}{ρ0:As}{h:Ab}{w:World}{S:Nat→Prop}{ρ:As}(F:FI h0 w0 S0 ρ0 h w S ρ){b l:Nat}(hb:ρ0 b=.lp l){ps:List Nat}{asg body:Code}{tmps:List AV}{st:Ta}
 (hg:h[b]?=some (.lp ps asg body tmps st)):ρ b=.lp l∧∃r,w.heap[l]?=some (.loop r)∧st.holds r.state r.pending:=by
 have hρ:ρ b=.lp l:=by
  rcases F.sim.le b with q|q|q
  ·rw[hb]at q;cases q
  ·rw[q,hb]
  ·have:=F.hr.dead b q
   rw[show hf h b=some _ from hg]at this;cases this
 obtain⟨r,_,_,_,_,_,h1,h2,h3⟩:=F.hr.lps b l hρ
 rw[show hf h b=some _ from hg]at h2;cases h2
 exact⟨hρ,r,h1,h3.state⟩
theorem oH(hO:Ir P G O)(hL:dN P G O)(hD:dS P G O)(hR:Zq P G O){args:List AV}{h h':Ab}{out:Eo}(he:Qd O P args h=some (out,h')){w:World}{S:Nat→Prop}{ρ:As}{cargs:Array Value}{l:Nat}
 (hI:Vt G w S) (H:HR w S ρ (hf h)) (dom:∀b,h.length≤b→ρ b=.fresh) (all:∀b,b<h.length→ρ b≠.fresh) (hargs:LR w S ρ args (cargs.toList++[.func (.yield l) #[] #[]])):
 ∃fn tmps asg body,(Instr.yield l cargs).run P w=.ok (.round l fn tmps asg body) w∧∀F nn,WF F→RoundIn F nn P l fn tmps asg body w (Qj h w S ρ out h'):=by
 unfold Qd at he
 split at he
 ·rename_i b vs hrev
  have ha:args=vs.reverse++[.yl b]:=by have:=congrArg List.reverse hrev;simpa using this
  subst ha
  have hlen:vs.reverse.length=cargs.toList.length:=by have:=hargs.1;simpa using this
  have hvs:LR w S ρ vs.reverse cargs.toList:=by have:=hargs.take vs.reverse.length;rw[au9,hlen,au9]at this<;>first|exact this|rfl
  have hyl:VR w S ρ (.yl b) (.func (.yield l) #[] #[]):=hargs.2 vs.reverse.length _ _ (by simp) (by rw[hlen];simp)
  split at he
  ·rename_i ps asg body tmps st0 hb
   have hρ:ρ b=.lp l:=by
    cases hyl with
    |yl q=>exact q
    |ylD q=>have:=H.dead b q;rw[show hf h b=some _ from hb]at this;cases this
   obtain⟨r,ps1,asg1,body1,tmps1,st1,h1,h2,h3⟩:=H.lps b l hρ
   rw[show hf h b=some _ from hb]at h2;cases h2
   split at he
   ·rename_i hps
    have hsz:cargs.size=r.params.size:=by
     have e1:=congrArg List.length h3.params
     simp at e1 hlen;omega
    refine⟨_,_,_,_,run_yield h1 hsz,fun F nn hF=>roundIn_of_wpIn (hF.fn _) ?_⟩
    rw[h3.assign,h3.body]
    obtain⟨⟨e1,s1⟩,hm1,he⟩:=aaW.1 he
    simp only at he
    have hT:TR w S ρ (Ud tmps ps vs.reverse) ((r.params.zip cargs).foldl (fun tmps (t,a)=>tmps.setIfInBounds t a) r.tmps):=by
     have:=hZ (ps:=ps) hvs (by simpa using hps) h3.tmps
     rw[←apY,Array.toList_zip,h3.params]
     exact this
    have hs:Uj ⟨h,w,S,ρ,some l⟩ ⟨Ud tmps ps vs.reverse,h⟩ { tmps:=(r.params.zip cargs).foldl (fun tmps (t,a)=>tmps.setIfInBounds t a) r.tmps,defers:=[] } w S ρ:=
     ⟨FI.start H dom all,hT,fun d hd=>by simp at hd,List.Pairwise.nil,fun l' hl'=>by cases hl';exact⟨r,h1⟩⟩
    refine wpIn_mono (Xm (hF.inRound l) hO hL hD hR rfl hI Ou hm1 hs) (fun ex a1 w1 hk=>?_)
    obtain⟨m,_,e',s',hp,S1,ρ1,hs1,hex⟩:=hk
    simp only[Dz,acF.injEq,Prod.mk.injEq]at hp
    obtain⟨rfl,rfl⟩:=hp
    cases e' with
    |normal=>
     cases ex<;>simp[jV]at hex
     obtain⟨hb1,hset1,he⟩:=aaW.1 he
     obtain⟨⟨e2,s2⟩,hm2,he⟩:=aaW.1 he
     obtain⟨⟨rb,st2⟩,hre,he⟩:=aaW.1 he
     obtain⟨hb2,hset2,he⟩:=aaW.1 he
     simp only[acF.injEq,Prod.mk.injEq]at he
     obtain⟨rfl,rfl⟩:=he
     obtain⟨qs,qa,qb,qt,qst,g1,g2,rfl⟩:=lH hset1
     obtain⟨hρ1,r1,hr1,hst1⟩:=hs1.1.lpAt (show(⟨h,w,S,ρ,some l⟩:Beg).ρ0 b=.lp l from hρ) g1
     have hready:qst=.ready:=by cases qst<;>simp[Ta.isReady]at g2;rfl
     subst hready
     refine⟨_,run_beginRound hr1 hst1.1,?_⟩
     have hFI1:=hs1.1.loop (st':=.busy) (x:=.busy) (y:=r1.pending) hρ1 hr1 g1 ⟨rfl,hst1.2⟩
     have hs2:Uj ⟨h,w,S,ρ,some l⟩ ⟨s'.tmps,s'.h.set b (.lp qs qa qb qt .busy)⟩ a1 (Ev.setB w1 l (.loop { r1 with state:=.busy,pending:=r1.pending })) S1 ρ1:=
      hs1.later hFI1 (Ia.loop hρ1 (hs1.1.hr.lnS b l hρ1) hr1 .busy r1.pending)
     refine wpIn_mono (Xm (hF.inRound l) hO hL hD hR rfl hI Ou hm2 hs2) (fun ex2 a2 w2 hk2=>?_)
     obtain⟨m',_,e3,s3,hp2,S2,ρ2,hs3,hex2⟩:=hk2
     simp only[Dz,acF.injEq,Prod.mk.injEq]at hp2
     obtain⟨rfl,rfl⟩:=hp2
     obtain⟨us,ua,ub,ut,ust,j1,j2,rfl⟩:=lH hset2
     obtain⟨hρ2,r2,hr2,hst2⟩:=hs3.1.lpAt (show(⟨h,w,S,ρ,some l⟩:Beg).ρ0 b=.lp l from hρ) j1
     have last:∀(jump:Option Code),st2.holds (if jump.isNone then .ready else .done) jump→rb=jump.isNone→
      ∃v w',(Instr.endRound l jump).run P w2=.ok v w'∧Qj h w S ρ (.ret (.bool rb)) (s3.h.set b (.lp us ua ub ut st2)) (.returned v) w':=fun jump hh hrb=>by
      refine⟨_,_,run_endRound jump hr2,?_⟩
      have hFI2:=hs3.1.loop hρ2 hr2 j1 hh
      subst hrb
      exact⟨_,S2,ρ2,⟨⟨_,rfl⟩,rfl⟩,hFI2.post (VR.bool _)⟩
     cases e3 with
     |normal=>
      cases ex2<;>simp[jV]at hex2
      simp[Si]at hre
      obtain⟨rfl,rfl⟩:=hre
      exact last none ⟨rfl,rfl⟩ rfl
     |ret=>
      cases ex2<;>simp[jV]at hex2
      simp[Si]at hre
      obtain⟨rfl,rfl⟩:=hre
      exact last (some .ret) ⟨rfl,rfl⟩ rfl
     |exit i=>
      cases ex2<;>simp[jV]at hex2
      subst hex2
      simp[Si]at hre
      obtain⟨rfl,rfl⟩:=hre
      exact last (some (.exit i)) ⟨rfl,rfl⟩ rfl
     |pan v=>simp[Si]at hre
    |_=>simp at he
   ·simp at he
  ·simp at he
 ·simp at he
end
section
variable {P:Program} {G:Nat→Option Obj} {O:Gn}
theorem HR.endLoop{w:World}{S:Nat→Prop}{ρ:As}{g:HF}(H:HR w S ρ g){b l:Nat}(hb:ρ b=.lp l){r:Loop}(hr:w.heap[l]?=some (.loop r))(x:LoopState)(y:Option Code):
 HR (Ev.setB w l (.loop { r with state:=x,pending:=y })) S (ρ.put b .dead) (Kv g b .dead):=by
 have hs:=(Ia.loop hb (H.lnS b l hb) hr x y).trans (Ia.kill _ S ρ b)
 have off:∀b',∀z,z≠.dead→ρ.put b .dead b'=z→b'≠b∧ρ b'=z:=fun b' z hz h=>by
  by_cases e:b'=b
  ·subst e;rw[As.put_same]at h;exact(hz h.symm).elim
  ·rw[As.put_other _ _ e]at h;exact⟨e,h⟩
 refine⟨fun b' cb co st sz h=>?_,fun b' h=>?_,fun b1 b2 cb co st sz co' st' sz' h1 h2=>?_,fun b' h=>by have:=H.old b' h;simpa [Ev.setB]using this,fun b' l' h=>?_,fun b1 b2 l' h1 h2=>?_,fun b' l' h=>?_⟩
 ·obtain⟨hne,h⟩:=off b' _ (by simp) h
  obtain⟨c,e,fz,fl,rows,h1,h2,h3,h4⟩:=H.at_ b' cb co st sz h
  exact⟨c,e,fz,fl,rows,by rw[Bn (fun e=>by rw[e,hr]at h1;cases h1)];exact h1,h2,h3.sim hs,by simpa [Kv,hne]using h4⟩
 ·by_cases e:b'=b
  ·subst e;simp[Kv]
  ·rw[As.put_other _ _ e]at h;simpa [Kv,e]using H.dead b' h
 ·exact H.inj _ _ _ _ _ _ _ _ _ (off b1 _ (by simp) h1).2 (off b2 _ (by simp) h2).2
 ·obtain⟨hne,h⟩:=off b' _ (by simp) h
  obtain⟨r1,ps1,asg1,body1,tmps1,st1,h1,h2,h3⟩:=H.lps _ _ h
  have hnl:l'≠l:=fun q=>hne (H.linj _ _ _ h (q▸hb))
  exact⟨r1,ps1,asg1,body1,tmps1,st1,by rw[Bn hnl];exact h1,by simpa [Kv,hne]using h2,h3.sim hs⟩
 ·exact H.linj _ _ _ (off b1 _ (by simp) h1).2 (off b2 _ (by simp) h2).2
 ·exact H.lnS _ _ (off b' _ (by simp) h).2
theorem FI.endLoop{h0:Ab}{w0:World}{S0:Nat→Prop}{ρ0:As}{h:Ab}{w:World}{S:Nat→Prop}{ρ:As}(F:FI h0 w0 S0 ρ0 h w S ρ){b l:Nat}(hb:ρ b=.lp l){r:Loop}(hr:w.heap[l]?=some (.loop r)){ps:List Nat}{asg body:Code}{tmps:List AV}{st:Ta}
 (hg:h[b]?=some (.lp ps asg body tmps st)) (x:LoopState) (y:Option Code):
 FI h0 w0 S0 ρ0 (h.set b .dead) (Ev.setB w l (.loop { r with state:=x,pending:=y })) S (ρ.put b .dead)∧Ia w (Ev.setB w l (.loop { r with state:=x,pending:=y })) S S ρ (ρ.put b .dead):=by
 have hlt:b<h.length:=(abY.1 hg).1
 have hg':hf h b=some (.lp ps asg body tmps st):=hg
 have hs:=(Ia.loop hb (F.hr.lnS b l hb) hr x y).trans (Ia.kill _ S ρ b)
 have hes:Fj h [.put b .dead]:=by
  refine⟨⟨hlt,trivial⟩,fun b' ⟨e,he,Gs⟩ _=>?_,fun b' hn=>?_⟩
  ·simp at he;subst he;simp[Ad.id]at Gs;subst Gs
   refine⟨⟨_,hg',rfl⟩,fun c hc=>?_⟩
   simp[Ax,Ce,Kv]at hc;subst hc;rfl
  ·simp only[Ax,Ce,Kv]
   rw[if_neg (fun e=>hn ⟨_,abO.2 rfl,e.symm⟩)]
 refine⟨F.step hes (w':=Ev.setB w l (.loop { r with state:=x,pending:=y })) (S':=S) (ρ':=ρ.put b .dead) (F.hr.endLoop hb hr x y) hs (fun b' cb co st sz h' _=>⟨?_,Bn (fun e=>?_)⟩) (fun b'=>⟨fun h'=>?_,fun h'=>?_⟩),hs⟩
 ·rw[As.put_other _ _ (fun e=>by rw[e,hb]at h';cases h')];exact h'
 ·obtain⟨_,_,_,_,_,q,_⟩:=F.hr.at_ _ _ _ _ _ h'
  rw[e,hr]at q;cases q
 ·by_cases e:b'=b
  ·subst e;rw[As.put_same]at h';cases h'
  ·rw[As.put_other _ _ e]at h'
   exact⟨h',fun⟨x,hx,Gs⟩=>by simp at hx;subst hx;exact e Gs.symm⟩
 ·rw[As.put_other _ _ (fun e=>by rw[e,hb]at h';cases h'.1)];exact h'.1
theorem Ia.extra{w:World}{S:Nat→Prop}{ρ:As}(hS:∀b,S b→b<w.heap.size)(o:Obj):Ia w (w.alloc o) S S ρ ρ where
 size:=by simp
 os:=rfl
 tape:=rfl
 output:=rfl
 keep:=fun b hb=>Fe (hS b hb)
 sub:=fun _ h=>h
 le:=ρ.le_refl
 other:=fun b h _ _=>Fe h
 rng:=fun id _ co st sz h=>.inr ⟨id,co,st,sz,h⟩
 grow:=fun _ h=>.inl h
 objs:=fun b o' hb _=>by rw[Fe (aeM.1 hb).1];exact hb
 loops:=fun b r hb=>⟨r.state,r.pending,by rw[Fe (aeM.1 hb).1];exact hb⟩
 lrng:=fun id _ h=>.inr ⟨id,h⟩
theorem HR.extra{w:World}{S:Nat→Prop}{ρ:As}{g:HF}(H:HR w S ρ g)(o:Obj):HR (w.alloc o) S ρ g where
 at_:=fun b cb co st sz h=>by
  obtain⟨c,e,fz,fl,rows,h1,h2,h3,h4⟩:=H.at_ b cb co st sz h
  exact⟨c,e,fz,fl,rows,by rw[Fe (aeM.1 h1).1];exact h1,h2,h3.sim (Ia.extra H.old o),h4⟩
 dead:=H.dead
 inj:=H.inj
 old:=fun b h=>by have:=H.old b h;simp;omega
 lps:=fun b l h=>by
  obtain⟨r,ps,asg,body,tmps,st,h1,h2,h3⟩:=H.lps b l h
  exact⟨r,ps,asg,body,tmps,st,by rw[Fe (aeM.1 h1).1];exact h1,h2,h3.sim (Ia.extra H.old o)⟩
 linj:=H.linj
 lnS:=H.lnS
theorem FI.extra{h0:Ab}{w0:World}{S0:Nat→Prop}{ρ0:As}{h:Ab}{w:World}{S:Nat→Prop}{ρ:As}(F:FI h0 w0 S0 ρ0 h w S ρ)(o:Obj):FI h0 w0 S0 ρ0 h (w.alloc o) S ρ:=
 F.step (Fj.nil h) (F.hr.extra o) (Ia.extra F.hr.old o) (fun b cb co st sz hb _=>⟨hb,Fe (F.hr.lt hb)⟩) (fun b=>⟨fun h=>⟨h,fun⟨e,he,_⟩=>by simp at he⟩,fun h=>h.1⟩)
theorem FI.newLoop{h0:Ab}{w0:World}{S0:Nat→Prop}{ρ0:As}{h:Ab}{w:World}{S:Nat→Prop}{ρ:As}(F:FI h0 w0 S0 ρ0 h w S ρ){tmps:List AV}{ct:Array Value}(T:TR w S ρ tmps ct)(fn:FuncId)(ps:Array Tmp)(asg body:Code)(D:Nat):
 FI h0 w0 S0 ρ0 (h++[.lp ps.toList asg body tmps .ready]) (w.alloc (.loop { state:=.ready,pending:=none,fn,tmps:=ct,params:=ps,assign:=asg,body,defers:=D })) S (ρ.put h.length (.lp w.heap.size))∧
 Ia w (w.alloc (.loop { state:=.ready,pending:=none,fn,tmps:=ct,params:=ps,assign:=asg,body,defers:=D })) S S ρ (ρ.put h.length (.lp w.heap.size)):=by
 have hfr:ρ h.length=.fresh:=F.dom _ (ab9 _)
 generalize ho:Obj.loop { state:=.ready,pending:=none,fn,tmps:=ct,params:=ps,assign:=asg,body,defers:=D }=o
 have hs:Ia w (w.alloc o) S S ρ (ρ.put h.length (.lp w.heap.size)):=by
  have s:=Ia.extra (w:=w) (ρ:=ρ) F.hr.old o
  refine⟨s.size,s.os,s.tape,s.output,s.keep,s.sub,As.le_put_fresh hfr _,s.other,fun id cb co st sz hi=>?_,s.grow,s.objs,s.loops,fun id l hi=>?_⟩
  ·by_cases e:id=h.length
   ·rw[e,As.put_same]at hi;cases hi
   ·rw[As.put_other _ _ e]at hi;exact .inr ⟨id,co,st,sz,hi⟩
  ·by_cases e:id=h.length
   ·rw[e,As.put_same]at hi;cases hi;exact .inl (ab9 _)
   ·rw[As.put_other _ _ e]at hi;exact .inr ⟨id,hi⟩
 have H:=F.hr
 have lplt:∀b l,ρ b=.lp l→l<w.heap.size:=fun b l hb=>by
  obtain⟨_,_,_,_,_,_,h1,_⟩:=H.lps b l hb;exact(aeM.1 h1).1
 have hH:HR (w.alloc o) S (ρ.put h.length (.lp w.heap.size)) (Kv (hf h) h.length (.lp ps.toList asg body tmps .ready)):=by
  refine⟨fun b cb co st sz hb=>?_,fun b hb=>?_,fun b1 b2 cb co st sz co' st' sz' h1 h2=>?_,fun b hb=>by have:=H.old b hb;simp;omega,fun b l hb=>?_,fun b1 b2 l h1 h2=>?_,fun b l hb hS=>?_⟩
  ·by_cases e:b=h.length
   ·rw[e,As.put_same]at hb;cases hb
   ·rw[As.put_other _ _ e]at hb
    obtain⟨c,e',fz,fl,rows,h1,h2,h3,h4⟩:=H.at_ b cb co st sz hb
    exact⟨c,e',fz,fl,rows,by rw[Fe (aeM.1 h1).1];exact h1,h2,h3.sim hs,by simpa [Kv,e]using h4⟩
  ·by_cases e:b=h.length
   ·rw[e,As.put_same]at hb;cases hb
   ·rw[As.put_other _ _ e]at hb;simpa [Kv,e]using H.dead b hb
  ·have off:∀x c1 s1 z1,ρ.put h.length (.lp w.heap.size) x=.pl cb c1 s1 z1→ρ x=.pl cb c1 s1 z1:=fun x c1 s1 z1 hx=>by
    by_cases e:x=h.length
    ·rw[e,As.put_same]at hx;cases hx
    ·rw[As.put_other _ _ e]at hx;exact hx
   exact H.inj _ _ _ _ _ _ _ _ _ (off _ _ _ _ h1) (off _ _ _ _ h2)
  ·by_cases e:b=h.length
   ·subst e;rw[As.put_same]at hb;cases hb
    rw[←ho]at hs ⊢
    exact⟨_,ps.toList,asg,body,tmps,.ready,fY,by simp[Kv],rfl,rfl,rfl,LR.sim hs T,rfl,rfl⟩
   ·rw[As.put_other _ _ e]at hb
    obtain⟨r,ps',asg',body',tmps',st,h1,h2,h3⟩:=H.lps b l hb
    exact⟨r,ps',asg',body',tmps',st,by rw[Fe (aeM.1 h1).1];exact h1,by simpa [Kv,e]using h2,h3.sim hs⟩
  ·by_cases e1:b1=h.length<;>by_cases e2:b2=h.length
   ·rw[e1,e2]
   ·rw[e1,As.put_same]at h1;cases h1;rw[As.put_other _ _ e2]at h2;have:=lplt _ _ h2;omega
   ·rw[e2,As.put_same]at h2;cases h2;rw[As.put_other _ _ e1]at h1;have:=lplt _ _ h1;omega
   ·rw[As.put_other _ _ e1]at h1;rw[As.put_other _ _ e2]at h2;exact H.linj _ _ _ h1 h2
  ·by_cases e:b=h.length
   ·rw[e,As.put_same]at hb;cases hb;have:=H.old _ hS;omega
   ·rw[As.put_other _ _ e]at hb;exact H.lnS _ _ hb hS
 refine⟨?_,hs⟩
 exact F.step (Fj.new h (.lp ps.toList asg body tmps .ready)) hH hs (fun b cb co st sz hb _=>⟨by rw[As.put_other _ _ (fun e=>by rw[e,hfr]at hb;cases hb)];exact hb,Fe (H.lt hb)⟩)
  (fun b=>⟨fun hb=>by
    by_cases e:b=h.length
    ·rw[e,As.put_same]at hb;cases hb
    ·rw[As.put_other _ _ e]at hb;exact⟨hb,fun⟨x,hx,Gs⟩=>by simp at hx;subst hx;exact e Gs.symm⟩,fun⟨h1,h2⟩=>by
    rw[As.put_other _ _ (show b≠h.length from fun e=>h2 ⟨_,abO.2 rfl,e.symm⟩)];exact h1⟩)
theorem lP(hO:Ir P G O){F:Fence}{nn:Nat}(hF:WF F){f:Operand}{ps:Array Nat}{asg body:Code}{s:St}{g:Nat}{fa fb:List AV}{d:Nr}{v:AV}{ps':List Nat}{asg' body':Code}{tm':List AV}{st:Ta}{e:Ex}
 (hf:Ak s.tmps f=some (.func (.func g) fa fb))
 (hc:Hj O (Ev.hf (s.h++[.lp ps.toList asg body s.tmps .ready])) (s.h.length+1) (Zm g (fa++[.yl s.h.length]++fb)) (fa++[.yl s.h.length]++fb)=some d) (hout:d.out=.ret v)
 (hlp:(Ba (s.h++[.lp ps.toList asg body s.tmps .ready]) d.es)[s.h.length]?=some (.lp ps' asg' body' tm' st)) (hex:Yn st=some e)
 {B:Beg} {a:Act} {w:World} {S:Nat→Prop} {ρ:As} (hI:Vt G B.w0 B.S0) (hs:Uj B s a w S ρ) (fn:FuncId) (D:Nat):
 ∃dd args,(resolve a.eval (rangeCall f w.heap.size) 0).run P (w.alloc (.loop { state:=.ready,pending:=none,fn,tmps:=a.tmps,params:=ps,assign:=asg,body,defers:=D }))=.ok dd (w.alloc (.loop { state:=.ready,pending:=none,fn,tmps:=a.tmps,params:=ps,assign:=asg,body,defers:=D }))∧
  (invoke dd.target dd.args).run P (w.alloc (.loop { state:=.ready,pending:=none,fn,tmps:=a.tmps,params:=ps,assign:=asg,body,defers:=D }))=.ok (.enter g args) (w.alloc (.loop { state:=.ready,pending:=none,fn,tmps:=a.tmps,params:=ps,assign:=asg,body,defers:=D }))∧
  CallsIn F (nn-1) P g args (w.alloc (.loop { state:=.ready,pending:=none,fn,tmps:=a.tmps,params:=ps,assign:=asg,body,defers:=D }))
   (rangePost F nn P w.heap.size (uN B e ⟨s.tmps,(Ba (s.h++[.lp ps.toList asg body s.tmps .ready]) d.es).set s.h.length .dead⟩) a):=by
 obtain⟨hFI,hsim⟩:=hs.1.newLoop hs.2.1 fn ps asg body D
 generalize hw1:w.alloc (.loop { state:=.ready,pending:=none,fn,tmps:=a.tmps,params:=ps,assign:=asg,body,defers:=D })=w1 at *
 have hs1:=hs.later hFI hsim
 have hfr:=Aw hs1.2.1 hf
 generalize hfe:a.eval f=cf at hfr
 cases hfr with
 | @func _ _ _ _ va vc q1 q2 q3 q4=>
   have hlr:LR w1 S (ρ.put s.h.length (.lp w.heap.size)) (fa++[.yl s.h.length]++fb) (va++#[Value.func (.yield w.heap.size) #[] #[]]++vc).toList:=by
    have e1:(va++#[Value.func (.yield w.heap.size) #[] #[]]++vc).toList=va.toList++[Value.func (.yield w.heap.size) #[] #[]]++vc.toList:=by simp
    rw[e1]
    exact(LR.append (LR.append ⟨by simpa using q1,fun i x v hx hv=>q3 i x v hx (by simpa using hv)⟩ (.cons (.yl (As.put_same _ _ _)) .nil)) ⟨by simpa using q2,fun i x v hx hv=>q4 i x v hx (by simpa using hv)⟩)
   obtain⟨henter,hcalls⟩:=iV hO hI hFI (nI _ _) hlr (by simpa using hc)
   refine⟨{ target:=.fn (.func g) vc,args:=va++#[Value.func (.yield w.heap.size) #[] #[]] },va++#[Value.func (.yield w.heap.size) #[] #[]]++vc,?_,?_,?_⟩
   ·simp only[resolve,rangeCall,hfe]
    try simp[go_sem]
   ·simp[invoke,go_sem,henter]
   ·refine hF.calls (hcalls.mono fun en w' ⟨cv,S',ρ',he,hv,hFI2,hsim2⟩=>?_)
    cases en with
    |panicked ch=>obtain⟨⟨x,hx⟩,_⟩:=he;rw[hout]at hx;cases hx
    |outgrown=>exact he.elim
    |returned rv=>
     have hρ':ρ' s.h.length=.lp w.heap.size:=by
      rcases hsim2.le s.h.length with q|q|q
      ·rw[As.put_same]at q;cases q
      ·rw[q,As.put_same]
      ·have:=hFI2.hr.dead _ q
       rw[show Ev.hf _ s.h.length=some _ from hlp]at this;cases this
     obtain⟨r,_,_,_,_,_,hr,h2,h3⟩:=hFI2.hr.lps _ _ hρ'
     rw[show Ev.hf _ s.h.length=some _ from hlp]at h2;cases h2
     have hnb:r.state≠.busy:=by
      cases st with
      |ready=>rw[h3.state.1];simp
      |busy=>simp[Yn]at hex
      |done c=>rw[h3.state.1];simp
     refine⟨r.pending,_,run_endLoop hr hnb,?_⟩
     obtain⟨hFI3,hsim3⟩:=hFI2.endLoop hρ' hr hlp .exhausted r.pending
     have hs3:=(hs1.later hFI2 hsim2).later hFI3 hsim3
     cases st with
     |ready=>
      rw[h3.state.2]at hs3 ⊢
      simp[Yn]at hex;subst hex
      exact⟨_,_,hs3,trivial⟩
     |busy=>simp[Yn]at hex
     |done c=>
      rw[h3.state.2]at hs3 ⊢
      cases c<;>simp[Yn]at hex<;>subst hex
      ·exact wpIn_exit ⟨_,_,hs3,rfl⟩
      ·exact wpIn_ret ⟨_,_,hs3,trivial⟩
theorem pG(hO:Ir P G O):Zq P G O:=by
 intro f ps asg body s g fa fb d v ps' asg' body' tm' st e hf hc hout hlp hex F nn hF B a w S ρ hB hI hs
 refine wpIn_rangeFunc (fun fn _=>?_)
 rcases hF with rfl|⟨l,rfl⟩
 ·have hs':Uj B s { a with defers:={ target:=.collected w.heap.size,args:=#[] }::a.defers } (w.alloc (.deferred (some []))) S ρ:=by
   have hm:=hs.later (hs.1.extra (.deferred (some []))) (Ia.extra hs.1.hr.old _)
   refine⟨hm.1,hm.2.1,fun d hd=>?_,?_,hm.2.2.2.2⟩
   ·rcases List.mem_cons.1 hd with rfl|hd
    ·exact⟨w.heap.size,rfl,fY,fun h=>Nat.lt_irrefl _ (hs.1.hr.old _ h),hs.1.sim.size⟩
    ·exact hm.2.2.1 d hd
   ·refine List.pairwise_cons.2 ⟨fun d hd=>?_,hs.2.2.2.1⟩
    obtain⟨r,rfl,k2,_⟩:=hs.2.2.1 d hd
    have:=(aeM.1 k2).1
    simp[uK];omega
  obtain⟨dd,args,k1,k2,k3⟩:=lP (nn:=nn) hO (.inl rfl) hf hc hout hlp hex hI hs' fn w.heap.size
  have hsz:(w.alloc (.deferred (some []))).heap.size=w.heap.size+1:=by simp
  rw[hsz]at k1 k3
  exact⟨_,_,_,dd,_,g,args,_,run_enterLoop_outer _ _ _ _ _,k1,fun _ _=>trivial,k2,fun h=>by simp[Fence.wide]at h,k3⟩
 ·obtain⟨r₀,hr₀⟩:=hs.2.2.2.2 l hB
  obtain⟨dd,args,k1,k2,k3⟩:=lP (nn:=nn) hO (F:=Fence.wide.inRound l) (.inr ⟨l,rfl⟩) hf hc hout hlp hex hI hs fn r₀.defers
  exact⟨_,_,_,dd,_,g,args,_,run_enterLoop_inner hr₀ _ _ _ _ _,k1,fun _ _=>trivial,k2,fun h=>by simp[Fence.wide,Fence.inRound]at h,k3⟩
end
section
variable {P:Program} {G:Nat→Option Obj}
def rV(P:Program)(G:Nat→Option Obj)(pr:Qk):Prop:=∀f p,pr f=some p→∀args h out h',p args h=some (out,h')→
 (∀args w,(callFunc f args).run P w=.ok (.enter f args) w)∧
 ∀w S ρ (cargs:Array Value),Vt G w S→HR w S ρ (hf h)→(∀b,h.length≤b→ρ b=.fresh)→(∀b,b<h.length→ρ b≠.fresh)→LR w S ρ args cargs.toList→Calls P f cargs w (Qj h w S ρ out h')
theorem zJ(hN:aeN P){pr:Qk}(hP:rV P G pr)(hM:P.follows .mixedOrders=true):∀n,Ir P G (Xe P pr n)∧dN P G (Xe P pr n):=by
 intro n
 induction n using anI with
 |_ n IH=>
  constructor
  ·cases n with
   |zero=>exact⟨fun f args h out h' hc=>by simp[Xe]at hc,fun args h out h' hc=>by simp[Xe]at hc,fun f args h out h' hc=>by simp[Xe]at hc⟩
   |succ n=>
    obtain⟨i1,i2⟩:=IH n (by omega)
    have i3:=wJ hM i1
    have i4:=pG i1
    refine⟨fun f args h out h' hc=>?_,fun args h out h' hc w S ρ cargs l hI H dom all hargs=>?_,fun f args h out h' hc=>?_⟩
    ·simp only[Xe]at hc
     split at hc
     ·rename_i p hp;exact hP f p hp args h out h' hc
     ·exact adW hN i1 i2 i3 i4 hc
    ·simp only[Xe]at hc
     exact oH i1 i2 i3 i4 hc hI H dom all hargs
    ·simp only[Xe]at hc
     split at hc
     ·simp at hc
     ·exact acC hN i1 i2 i3 i4 hc
  ·intro c s e s' hl F nn hF B a w S ρ hB hG hs
   let I:Act→World→Prop:=fun a w=>∃m,m≤n∧∃s S ρ,(Xe P pr m).loop c s=some (e,s')∧Uj B s a w S ρ
   let Q:Act→World→Nat→Prop:=fun a w m=>m≤n∧∃s S ρ,(Xe P pr m).loop c s=some (e,s')∧Uj B s a w S ρ
   have least:∀p:Act × World,∃m,(∃k,Q p.1 p.2 k)→Q p.1 p.2 m∧∀k,Q p.1 p.2 k→m≤k:=fun p=>by
    by_cases hex:∃k,Q p.1 p.2 k
    ·obtain⟨k,hk⟩:=hex
     induction k using anI with
     |_ k ih=>
      by_cases hlt:∃j,j<k∧Q p.1 p.2 j
      ·obtain⟨j,hj,hq⟩:=hlt;exact ih j hj hq
      ·exact⟨k,fun _=>⟨hk,fun j hq=>Nat.le_of_not_lt (fun h=>hlt ⟨j,h,hq⟩)⟩⟩
    ·exact⟨0,fun h=>(hex h).elim⟩
   obtain⟨f,hf⟩:=Classical.axiomOfChoice least
   have μle:∀a w m,Q a w m→f (a,w)≤m:=fun a w m hq=>(hf (a,w) ⟨m,hq⟩).2 m hq
   have μq:∀a w,(∃m,Q a w m)→Q a w (f (a,w)):=fun a w hex=>(hf (a,w) hex).1
   refine wpIn_loop I (fun a w=>f (a,w)) ⟨n,ab9 _,s,S,ρ,hl,hs⟩ (fun a w hI=>?_)
   obtain⟨hm,s1,S1,ρ1,hl1,hs1⟩:=μq a w (by obtain⟨m,hm,rest⟩:=hI;exact⟨m,hm,rest⟩)
   generalize hmu:f (a,w)=m at hm hl1
   cases m with
   |zero=>simp[Xe]at hl1
   |succ m=>
    obtain⟨i1,i2⟩:=IH m (by omega)
    have i3:=wJ hM i1
    have i4:=pG i1
    simp only[Xe,aJ]at hl1
    split at hl1
    ·rename_i e1 s2 hm1
     refine wpIn_mono (Xm hF i1 i2 i3 i4 hB hG Ou hm1 hs1) (fun ex a' w' hk=>?_)
     obtain⟨m',_,e2,s3,hp,S2,ρ2,hs2,hex⟩:=hk
     simp only[Dz,acF.injEq,Prod.mk.injEq]at hp
     obtain⟨rfl,rfl⟩:=hp
     cases e2 with
     |normal=>
      cases ex<;>simp[jV]at hex
      have hq:Q a' w' m:=⟨by omega,s3,S2,ρ2,hl1,hs2⟩
      refine⟨⟨m,hq⟩,?_⟩
      have:=μle a' w' m hq
      omega
     |exit i=>
      cases ex<;>simp[jV]at hex
      simp only[acF.injEq,Prod.mk.injEq]at hl1
      obtain⟨rfl,rfl⟩:=hl1
      exact⟨S2,ρ2,hs2,hex⟩
     |ret=>
      cases ex<;>simp[jV]at hex
      simp only[acF.injEq,Prod.mk.injEq]at hl1
      obtain⟨rfl,rfl⟩:=hl1
      exact⟨S2,ρ2,hs2,trivial⟩
     |pan v=>
      cases ex with
      |panic ch=>
       simp only[acF.injEq,Prod.mk.injEq]at hl1
       obtain⟨rfl,rfl⟩:=hl1
       exact⟨S2,ρ2,hs2,hex⟩
      |_=>simp[jV]at hex
    ·simp at hl1
end
def fF(p:Nat→Prop):Prop:=∃N,∀m,N≤m→p m
theorem fF.mono{p q:Nat→Prop}(h:fF p)(k:∀m,p m→q m):fF q:=by
 obtain⟨N,h⟩:=h;exact⟨N,fun m hm=>k m (h m hm)⟩
theorem fF.and{p q:Nat→Prop}(h:fF p)(k:fF q):fF fun m=>p m∧q m:=by
 obtain⟨N,h⟩:=h;obtain⟨M,k⟩:=k
 exact⟨max N M,fun m hm=>⟨h m (by omega),k m (by omega)⟩⟩
theorem fF.of{p:Nat→Prop}(h:∀m,p m):fF p:=⟨0,fun m _=>h m⟩
structure Cov(O:Gn)(F:Nat→Gn):Prop where
 call:∀{f a h r},O.call f a h=some r→fF fun m=>(F m).call f a h=some r
 loop:∀{c s r},O.loop c s=some r→fF fun m=>(F m).loop c s=some r
 md:∀m,(F m).md=O.md
section
variable {P:Program} {G:Nat→Option Obj} {O:Gn} {F:Nat→Gn}
theorem mR(hC:Cov O F){g:HF}{base:Nat}{f:Vy}{args:List AV}{d:Nr}(h:Ew O g base f args=some d):fF fun m=>Ew (F m) g base f args=some d:=by
 unfold Ew at h
 simp only[aaW]at h
 obtain⟨vs,h1,⟨vs',cs,m⟩,h2,h⟩:=h
 simp only at h
 split at h
 ·simp at h
 ·rename_i hn
  simp only[aaW]at h
  obtain⟨⟨out,h'⟩,h3,h4⟩:=h
  refine(hC.call h3).mono fun n hn'=>?_
  unfold Ew
  simp only[h1,h2,aa0,hn,hn']
  simpa using h4
theorem mY(hC:Cov O F){g:HF}{base:Nat}{f:Vy}{args:List AV}{d:Nr}(h:Ls O g base f args=some d):fF fun m=>Ls (F m) g base f args=some d:=by
 unfold Ls at h
 obtain⟨h0,h1,h⟩:=aaW.1 h
 obtain⟨⟨out,h'⟩,h2,h⟩:=aaW.1 h
 refine(hC.call h2).mono fun n hn=>?_
 unfold Ls
 rw[h1,aa0,hn]
 exact h
theorem Xx(hC:Cov O F){g:HF}{base:Nat}{f:Vy}{args:List AV}{d:Nr}(h:Hj O g base f args=some d):fF fun m=>Hj (F m) g base f args=some d:=by
 cases f with
 |fn f=>exact mR hC h
 |round=>exact mY hC h
 |sh f=>
  cases hq:(mU args||O.md f)with
  |true=>
   simp only[Hj,hq,cond_true]at h
   refine(mY hC h).mono fun m hm=>?_
   simp only[Hj,hC.md m,hq,cond_true];exact hm
  |false=>
   simp only[Hj,hq,cond_false]at h
   refine(mR hC h).mono fun m hm=>?_
   simp only[Hj,hC.md m,hq,cond_false];exact hm
theorem Xh(hC:Cov O F){ops:List Oper}{gs:List Nat}{r:Ex × St}{k:St→Ya→R}{k':Nat→St→Ya→R}{kp:AV→St→R}{kp':Nat→AV→St→R}
 (hk:∀s log,k s log=some r→fF fun m=>k' m s log=some r) (hkp:∀v s,kp v s=some r→fF fun m=>kp' m v s=some r):
 ∀{rest:List Oper} {i:Nat} {s:St} {log:Ya},Ha O P ops gs rest i s log k kp=some r→fF fun m=>Ha (F m) P ops gs rest i s log (k' m) (kp' m)=some r
 | [],i,s,log,h=>hk s log h
 |o::rest,i,s,log,h=>by
  unfold Ha at h
  split at h
  ·simp at h
  ·rename_i hw
   unfold Ha
   simp only[hw]
   exact Xh hC hk hkp h
  ·rename_i hw
   unfold Ha
   simp only[hw]
   cases hkd:Hr o.op with
   |call c=>
    rw[hkd]at h
    simp only[aaW,Hf]at h ⊢
    obtain⟨⟨f,args⟩,h1,d,h2,h⟩:=h
    simp only at h2
    cases hout:d.out with
    |ret v=>
     rw[hout]at h
     exact((Xx hC h2).and (Xh hC hk hkp h)).mono fun m hm=>⟨_,h1,d,hm.1,by rw[hout];exact hm.2⟩
    |pan v=>
     rw[hout]at h
     exact((Xx hC h2).and (hkp _ _ h)).mono fun m hm=>⟨_,h1,d,hm.1,by rw[hout];exact hm.2⟩
   |panic x=>
    rw[hkd]at h
    simp only[aaW]at h ⊢
    obtain⟨v,h1,h⟩:=h
    split at h
    ·exact(hkp _ _ h).mono fun m hm=>⟨_,h1,hm⟩
    ·simp at h
   |other=>
    rw[hkd]at h
    simp only[aaW,Hf]at h ⊢
    obtain⟨d,h1,h⟩:=h
    exact(Xh hC hk hkp h).mono fun m hm=>⟨_,h1,hm⟩
theorem Qh{ev:Code→List Aq→St→R}{ev':Nat→Code→List Aq→St→R}{r:Ex × St}(he:∀c k s,ev c k s=some r→fF fun m=>ev' m c k s=some r):
 ∀{k:List Aq} {e:Ex} {s:St},Dz ev k e s=some r→fF fun m=>Dz (ev' m) k e s=some r
 | [],e,s,h=>.of fun _=>h
 | .code c::k,.normal,s,h=>he c k s h
 | .code c::k,.exit i,s,h=>Qh he (k:=k) h
 | .code c::k,.ret,s,h=>Qh he (k:=k) h
 | .code c::k,.pan v,s,h=>Qh he (k:=k) h
 | .blk id::k,.normal,s,h=>Qh he (k:=k) h
 | .blk id::k,.ret,s,h=>Qh he (k:=k) h
 | .blk id::k,.pan v,s,h=>Qh he (k:=k) h
 | .blk id::k,.exit i,s,h=>by
   simp only[Dz]at h ⊢
   cases hi:(i==id)with
   |true=>rw[hi]at h;exact Qh he (k:=k) h
   |false=>rw[hi]at h;exact Qh he (k:=k) h
theorem Qe(hC:Cov O F){r:Ex × St}:∀(n:Nat) {c:Code} {k:List Aq} {s:St},Ed O P n c k s=some r→fF fun m=>Ed (F m) P n c k s=some r
 |0,c,k,s,h=>by simp[Ed]at h
 |n+1,c,k,s,h=>by
  have IH:∀c k s,Ed O P n c k s=some r→fF fun m=>Ed (F m) P n c k s=some r:=fun c k s h=>Qe hC n h
  have pop:∀{k:List Aq} {e:Ex} {s:St},Dz (Ed O P n) k e s=some r→fF fun m=>Dz (Ed (F m) P n) k e s=some r:=fun h=>Qh IH h
  cases c with
  |skip=>exact pop h
  |label l=>exact pop h
  |region id ops draw=>
   cases draw with
   |false=>exact Xh hC (fun s log h=>pop h) (fun v s h=>pop h) h
   |true=>
    simp only[Ed,Ii]at h ⊢
    cases hd:Qm ops.toList with
    |false=>rw[hd]at h;simp at h
    |true=>
     rw[hd]at h
     refine Xh hC (fun s log h=>?_) (fun v s h=>by simp at h) h
     cases hdd:Gg ops.toList log with
     |false=>rw[hdd]at h;simp at h
     |true=>rw[hdd]at h;exact pop h
  |seq a b=>exact IH a _ s h
  |cond oc a b=>
   simp only[Ed,aaA]at h ⊢
   cases he:Ak s.tmps oc with
   |none=>rw[he]at h;simp at h
   |some v=>
    rw[he]at h
    cases v with
    |bool b=>
     cases b with
     |true=>exact IH a k s h
     |false=>exact IH _ k s h
    |_=>simp at h
  |block id c=>exact IH c _ s h
  |loop c=>
   simp only[Ed,aJ]at h ⊢
   cases hl:O.loop c s with
   |none=>rw[hl]at h;simp at h
   |some x=>
    obtain⟨e,s'⟩:=x
    rw[hl]at h
    exact((hC.loop hl).and (pop h)).mono fun m hm=>by rw[hm.1];exact hm.2
  |exit id=>exact pop h
  |ret=>exact pop h
  |rangeFunc f ps asg body=>
   simp only[Ed,aaW]at h ⊢
   obtain⟨fv,h1,h⟩:=h
   split at h
   ·obtain⟨d,h2,h⟩:=aaW.1 h
    have fin:∀{e:Ex} {s':St},Dz (Ed O P n) k e s'=some r→fF fun m=>Dz (Ed (F m) P n) k e s'=some r:=fun h=>pop h
    cases hout:d.out with
    |pan v=>rw[hout]at h;simp at h
    |ret v=>
     rw[hout]at h
     simp only at h
     split at h
     ·rename_i hb
      exact((Xx hC h2).and (fin h)).mono fun m hm=>⟨_,h1,by simp only[hm.1,aa0,hout,hb];exact hm.2⟩
     ·rename_i hb
      exact((Xx hC h2).and (fin h)).mono fun m hm=>⟨_,h1,by simp only[hm.1,aa0,hout,hb];exact hm.2⟩
     ·rename_i hb
      exact((Xx hC h2).and (fin h)).mono fun m hm=>⟨_,h1,by simp only[hm.1,aa0,hout,hb];exact hm.2⟩
     ·simp at h
   ·simp at h
  |scope b=>exact IH b _ s h
  |goto l=>simp[Ed]at h
  |refuse s=>simp[Ed]at h
theorem aaL(hC:Cov O F){f:Nat}{args:List AV}{h:Ab}{r:Eo × Ab}(he:evF O P f args h=some r):fF fun m=>evF (F m) P f args h=some r:=by
 unfold evF at he ⊢
 cases hfn:P.funcs[f]? with
 |none=>rw[hfn]at he;simp at he
 |some fn=>
  rw[hfn]at he
  simp only at he ⊢
  cases hb:fn.body with
  |none=>rw[hb]at he;simp at he
  |some c=>
   rw[hb]at he
   simp only at he ⊢
   obtain⟨x,h1,h2⟩:=aaW.1 he
   exact(Qe hC _ h1).mono fun m hm=>by rw[hm];exact h2
theorem aaB(hC:Cov O F){f:Nat}{args:List AV}{h:Ab}{r:Eo × Ab}(he:evS O P f args h=some r):fF fun m=>evS (F m) P f args h=some r:=by
 unfold evS at he ⊢
 cases hfn:P.funcs[f]? with
 |none=>rw[hfn]at he;simp at he
 |some fn=>
  rw[hfn]at he
  simp only at he ⊢
  cases hb:fn.body with
  |none=>rw[hb]at he;simp at he
  |some c=>
   rw[hb]at he
   simp only at he ⊢
   obtain⟨x,h1,h2⟩:=aaW.1 he
   exact(Qe hC _ h1).mono fun m hm=>by rw[hm];exact h2
theorem iI(hC:Cov O F){args:List AV}{h:Ab}{r:Eo × Ab}(he:Qd O P args h=some r):fF fun m=>Qd (F m) P args h=some r:=by
 unfold Qd at he
 split at he
 ·rename_i b vs hrev
  unfold Qd
  simp only[hrev]
  split at he
  ·rename_i ps asg body tmps st hb
   split at he
   ·rename_i hl
    obtain⟨⟨e,s⟩,h1,h2⟩:=aaW.1 he
    cases e with
    |normal=>
     simp only at h2
     obtain⟨x,h3,h4⟩:=aaW.1 h2
     obtain⟨y,h5,h6⟩:=aaW.1 h4
     exact((Qe hC _ h1).and (Qe hC _ h5)).mono fun m hm=>by
      rw[if_pos hl,hm.1];simp only[aa0,h3];rw[hm.2];exact h6
    |_=>simp at h2
   ·simp at he
  ·simp at he
 ·simp at he
def eC(P:Program)(pr:Qk)(O:Gn):Gn where
 call:=fun f args h=>match f with
  | .round=>Qd O P args h
  | .sh f=>match pr f with
    |some _=>none
    |none=>evS O P f args h
  | .fn f=>match pr f with
    |some p=>p args h
    |none=>evF O P f args h
 loop:=fun c s=>aJ (Ed O P Ou c [] s) fun e s=>match e with
  | .normal=>O.loop c s
  |e=>some (e,s)
 md:=pr.md
variable {pr:Qk}
theorem ahG(n:Nat):Xe P pr (n+1)=eC P pr (Xe P pr n):=rfl
theorem pW(hC:Cov O F):Cov (eC P pr O) (fun m=>eC P pr (F m)) where
 call:=fun {f a h r} hc=>by
  cases f with
  |round=>exact iI hC hc
  |fn f=>
   simp only[eC]at hc ⊢
   cases hp:pr f with
   |some p=>rw[hp]at hc;exact .of fun _=>hc
   |none=>rw[hp]at hc;exact aaL hC hc
  |sh f=>
   simp only[eC]at hc ⊢
   cases hp:pr f with
   |some p=>rw[hp]at hc;simp at hc
   |none=>rw[hp]at hc;exact aaB hC hc
 loop:=fun {c s r} hl=>by
  simp only[eC,aJ]at hl ⊢
  cases hm:Ed O P Ou c [] s with
  |none=>rw[hm]at hl;simp at hl
  |some x=>
   obtain⟨e,s'⟩:=x
   rw[hm]at hl
   cases e with
   |normal=>exact((Qe hC _ hm).and (hC.loop hl)).mono fun m hm=>by rw[hm.1];exact hm.2
   |exit i=>exact(Qe hC _ hm).mono fun m hm=>by rw[hm];exact hl
   |ret=>exact(Qe hC _ hm).mono fun m hm=>by rw[hm];exact hl
   |pan v=>exact(Qe hC _ hm).mono fun m hm=>by rw[hm];exact hl
 md:=fun _=>rfl
theorem fF.const{p:Prop}(h:fF fun _=>p):p:=by
 obtain⟨N,h⟩:=h;exact h N (ab9 _)
theorem nM:∀(n:Nat),Cov (Xe P pr n) (fun _=>Xe P pr (n+1))
 |0=>⟨fun h=>by simp[Xe]at h,fun h=>by simp[Xe]at h,fun _=>rfl⟩
 |n+1=>pW (nM n)
theorem jE{n m:Nat}(hnm:n≤m){f:Vy}{a:List AV}{h:Ab}{r:Eo × Ab}(hc:(Xe P pr n).call f a h=some r):(Xe P pr m).call f a h=some r:=by
 induction hnm with
 |refl=>exact hc
 |step _ ih=>exact((nM _).call ih).const
theorem jA{n m:Nat}(hnm:n≤m){c:Code}{s:St}{r:Ex × St}(hc:(Xe P pr n).loop c s=some r):(Xe P pr m).loop c s=some r:=by
 induction hnm with
 |refl=>exact hc
 |step _ ih=>exact((nM _).loop ih).const
open Classical in
noncomputable def lim{α:Type}(x:Nat→Option α):Option α:=if h:∃n r,x n=some r then x h.choose else none
theorem sR{α:Type}{x:Nat→Option α}(hm:∀n m r,n≤m→x n=some r→x m=some r){r:α}:lim x=some r↔∃n,x n=some r:=by
 unfold lim
 constructor
 ·intro h
  split at h
  ·exact⟨_,h⟩
  ·simp at h
 ·rintro⟨n,hn⟩
  have hex:∃n r,x n=some r:=⟨n,r,hn⟩
  rw[dif_pos hex]
  obtain⟨r',hr'⟩:=hex.choose_spec
  rcases Nat.le_total n hex.choose with h|h
  ·exact hm _ _ _ h hn
  ·have:=hm _ _ _ h hr'
   rw[hn]at this;cases this;exact hr'
noncomputable def om(P:Program)(pr:Qk):Gn where
 call:=fun f a h=>lim fun n=>(Xe P pr n).call f a h
 loop:=fun c s=>lim fun n=>(Xe P pr n).loop c s
 md:=pr.md
theorem Uz{f:Vy}{a:List AV}{h:Ab}{r:Eo × Ab}:(om P pr).call f a h=some r↔∃n,(Xe P pr n).call f a h=some r:=sR fun _ _ _ h k=>jE h k
theorem sD{c:Code}{s:St}{r:Ex × St}:(om P pr).loop c s=some r↔∃n,(Xe P pr n).loop c s=some r:=sR fun _ _ _ h k=>jA h k
theorem gZ:Cov (om P pr) (Xe P pr) where
 call:=fun h=>by obtain⟨n,hn⟩:=Uz.1 h;exact⟨n,fun m hm=>jE hm hn⟩
 loop:=fun h=>by obtain⟨n,hn⟩:=sD.1 h;exact⟨n,fun m hm=>jA hm hn⟩
 md:=fun m=>by cases m<;>rfl
theorem ap7{f:Nat}(hp:pr f=none){a:List AV}{h:Ab}{r:Eo × Ab}(he:evF (om P pr) P f a h=some r):(om P pr).call (.fn f) a h=some r:=by
 obtain⟨N,hN⟩:=aaL gZ he
 refine Uz.2 ⟨N+1,?_⟩
 have:=hN N (ab9 _)
 simp only[Xe,hp];exact this
theorem ap0{f:Nat}(hp:pr f=none){a:List AV}{h:Ab}{r:Eo × Ab}(he:evS (om P pr) P f a h=some r):(om P pr).call (.sh f) a h=some r:=by
 obtain⟨N,hN⟩:=aaB gZ he
 refine Uz.2 ⟨N+1,?_⟩
 have:=hN N (ab9 _)
 simp only[Xe,hp];exact this
theorem amX{f:Nat}{p:List AV→Ab→Option (Eo × Ab)}(hp:pr f=some p){a:List AV}{h:Ab}{r:Eo × Ab}(he:p a h=some r):(om P pr).call (.fn f) a h=some r:=
 Uz.2 ⟨1,by simp only[Xe,hp];exact he⟩
theorem vH{a:List AV}{h:Ab}{r:Eo × Ab}(he:Qd (om P pr) P a h=some r):(om P pr).call .round a h=some r:=by
 obtain⟨N,hN⟩:=iI gZ he
 exact Uz.2 ⟨N+1,hN N (ab9 _)⟩
theorem Za{c:Code}{s s':St}{r:Ex × St}(hb:Ed (om P pr) P Ou c [] s=some (.normal,s'))(hr:(om P pr).loop c s'=some r):(om P pr).loop c s=some r:=by
 obtain⟨N,hN⟩:=Qe gZ _ hb
 obtain⟨M,hM⟩:=gZ.loop hr
 refine sD.2 ⟨max N M+1,?_⟩
 simp only[Xe,aJ,hN _ (Nat.le_max_left ..)]
 exact hM _ (Nat.le_max_right ..)
theorem Is{c:Code}{s s':St}{e:Ex}(hb:Ed (om P pr) P Ou c [] s=some (e,s'))(he:e≠.normal):(om P pr).loop c s=some (e,s'):=by
 obtain⟨N,hN⟩:=Qe gZ _ hb
 refine sD.2 ⟨N+1,?_⟩
 have h1:=hN N (ab9 _)
 simp only[Xe,aJ]
 rw[h1]
 cases e<;>first|rfl|exact(he rfl).elim
theorem avV(hN:aeN P)(hP:rV P G pr)(hM:P.follows .mixedOrders=true):Ir P G (om P pr):=by
 refine⟨fun f args h out h' hc=>?_,fun args h out h' hc=>?_,fun f args h out h' hc=>?_⟩
 ·obtain⟨n,hn⟩:=Uz.1 hc
  exact(zJ hN hP hM n).1.1 f args h out h' hn
 ·obtain⟨n,hn⟩:=Uz.1 hc
  exact(zJ hN hP hM n).1.2.1 args h out h' hn
 ·obtain⟨n,hn⟩:=Uz.1 hc
  exact(zJ hN hP hM n).1.2.2 f args h out h' hn
end
abbrev Tm:=Nat→AV
def mk(n:Nat)(t:Tm):List AV:=(apQ n).map t
def up(t:Tm)(d:Nat)(v:AV):Tm:=fun i=>if i=d then v else t i
def Bw(args:List AV):Tm:=fun i=>(args[i]?).getD (.tup [])
theorem axC(t:Tm)(d:Nat)(v:AV)(i:Nat):up t d v i=if i=d then v else t i:=aaS rfl rfl
theorem ahP(a:AV)(l:List AV):Bw (a::l) 0=a:=aaS rfl rfl
theorem aiM(a:AV)(l:List AV)(i:Nat):Bw (a::l) (i+1)=Bw l i:=by simp[Bw]
theorem aoM(n:Nat)(t:Tm)(i:Nat):Ig (mk n t) i=if i<n then t i else .tup []:=by
 unfold Ig mk
 rw[ai5]
 split
 ·rename_i h;rw[arH h];rfl
 ·rename_i h;rw[akJ (by simpa using h)];rfl
theorem akE(n:Nat)(t:Tm)(d:Nat)(v:AV):(mk n t).set d v=mk n (up t d v):=by
 refine alC fun i=>?_
 unfold mk up
 rw[ae6]
 simp only[List.length_map,List.length_range,ai5]
 by_cases hi:i<n
 ·rw[arH hi]
  by_cases hd:d=i
  ·subst hd;simp[hi]
  ·have:¬i=d:=fun e=>hd e.symm
   simp[hd,this]
 ·rw[akJ (by simpa using hi)]
  by_cases hd:d=i
  ·subst hd;simp[hi]
  ·simp[hd]
theorem atT(n:Nat)(t:Tm)(d:Nat)(v:AV):put (mk n t) (some d) v=mk n (up t d v):=akE n t d v
theorem agA(l:List AV)(v:AV):put l none v=l:=aaS rfl rfl
theorem afC(n:Nat)(args:List AV)(h:args.length≤n):args++List.replicate (n-args.length) (.tup [])=mk n (Bw args):=by
 refine alC fun i=>?_
 unfold mk Bw
 rw[ai5]
 by_cases hi:i<n
 ·rw[arH hi]
  by_cases hj:i<args.length
  ·rw[au2 hj];simp[hj]
  ·rw[List.getElem?_append_right (by omega),List.getElem?_replicate,if_pos (by omega),acK,akJ (by omega:args.length≤i)];rfl
 ·rw[akJ (by simp;omega),akJ (by simpa using hi)];rfl
section
variable {P:Program} {O:Gn}
def Fp(O:Gn)(P:Program)(t:List AV)(h:Ab)(op:Op):Option (Eo × List Ad):=
 match Hr op with
 | .call c=>(callee t c).bind fun(f,args)=>(Hj O (hf h) h.length f args).map fun d=>(d.out,d.es)
 | .panic x=>(Ak t x).bind fun v=>match v with
   | .iface _ _=>some (.pan v,[])
   |_=>none
 | .other=>(exec P (hf h) h.length t op).map fun d=>(.ret d.v,d.es)
def rg(O:Gn)(P:Program)(n:Nat)(k:List Aq)(ops rest:List Oper)(i:Nat)(t:List AV)(h:Ab):R:=
 Ha O P ops (Xc ops) rest i ⟨t,h⟩ [] (fun s _=>Dz (Ed O P n) k .normal s) (fun v s=>Dz (Ed O P n) k (.pan v) s)
def rgD(O:Gn)(P:Program)(n:Nat)(k:List Aq)(ops rest:List Oper)(i:Nat)(d:Option Nat)(x:Option (Eo × List Ad))(t:List AV)(h:Ab):R:=
 match x with
 |some (.ret v,es)=>rg O P n k ops rest i (put t d v) (Ba h es)
 |some (.pan v,es)=>Dz (Ed O P n) k (.pan v) ⟨t,Ba h es⟩
 |none=>none
theorem Tv{ops:List Oper}{gs:List Nat}{k:St→R}{kp:AV→St→R}:∀{rest:List Oper} {i:Nat} {s:St} (log log':Ya),Ha O P ops gs rest i s log (fun s _=>k s) kp=Ha O P ops gs rest i s log' (fun s _=>k s) kp
 | [],i,s,log,log'=>rfl
 |o::rest,i,s,log,log'=>by
  unfold Ha
  split
  ·rfl
  ·exact Tv _ _
  ·split
   ·congr 1;funext x
    obtain⟨f,args⟩:=x
    simp only
    congr 1;funext d
    split
    ·simp only[Hf];exact Tv _ _
    ·rfl
   ·rfl
   ·congr 1;funext d
    simp only[Hf];exact Tv _ _
theorem ayC(n:Nat)(k:List Aq)(ops rest:List Oper)(i:Nat)(t:List AV)(h:Ab)(o:Oper)(hw:Gx ops t o=some true):
 rg O P n k ops (o::rest) i t h=rgD O P n k ops rest (i+1) o.dst (Fp O P t h o.op) t h:=by
 unfold rg Ha
 simp only[hw]
 unfold Fp
 cases hk:Hr o.op with
 |call c=>
  simp only
  cases hc:callee t c with
  |none=>rfl
  |some x=>
   obtain⟨f,args⟩:=x
   cases ha:Hj O (hf h) h.length f args with
   |none=>simp[rgD,ha]
   |some d=>
    simp only[aa0,ha,acK,rgD]
    cases ho:d.out with
    |ret v=>simp only[Hf];exact Tv _ _
    |pan v=>rfl
 |panic x=>
  simp only
  cases he:Ak t x with
  |none=>rfl
  |some v=>cases v<;>simp[rgD,Ba]
 |other=>
  simp only
  cases he:exec P (hf h) h.length t o.op with
  |none=>simp[rgD]
  |some d=>simp only[aa0,acK,rgD,Hf];exact Tv _ _
theorem alR(n:Nat)(k:List Aq)(ops rest:List Oper)(i:Nat)(t:List AV)(h:Ab)(o:Oper)(hw:Gx ops t o=some false):
 rg O P n k ops (o::rest) i t h=rg O P n k ops rest (i+1) (put t o.dst (.tup [])) h:=by
 unfold rg
 conv=>lhs;unfold Ha
 simp only[hw]
 exact Tv _ _
def cdK(O:Gn)(P:Program)(n:Nat)(a b:Code)(k:List Aq)(v:Option AV)(s:St):R:=
 match v with
 |some (.bool true)=>Ed O P n a k s
 |some (.bool false)=>Ed O P n b k s
 |_=>none
theorem ak6(n:Nat)(a b:Code)(k:List Aq)(s:St):cdK O P n a b k (some (.bool true)) s=Ed O P n a k s:=aaS rfl rfl
theorem aeD(n:Nat)(a b:Code)(k:List Aq)(s:St):cdK O P n a b k (some (.bool false)) s=Ed O P n b k s:=aaS rfl rfl
def lpK(O:Gn)(P:Program)(n:Nat)(k:List Aq)(x:R):R:=
 match x with
 |some (e,s)=>Dz (Ed O P n) k e s
 |none=>none
theorem akB(n:Nat)(k:List Aq)(s:St):Ed O P (n+1) .skip k s=Dz (Ed O P n) k .normal s:=aaS rfl rfl
theorem aoN(n:Nat)(a b:Code)(k:List Aq)(s:St):Ed O P (n+1) (.seq a b) k s=Ed O P n a (.code b::k) s:=aaS rfl rfl
theorem afN(n:Nat)(c:Operand)(a b:Code)(k:List Aq)(t:List AV)(h:Ab):Ed O P (n+1) (.cond c a b) k ⟨t,h⟩=cdK O P n a b k (Ak t c) ⟨t,h⟩:=by
 simp only[Ed,aaA,cdK]
 cases Ak t c with
 |none=>rfl
 |some v=>
  cases v with
  |bool g=>cases g<;>rfl
  |_=>rfl
theorem aeI(n:Nat)(id:Nat)(c:Code)(k:List Aq)(s:St):Ed O P (n+1) (.block id c) k s=Ed O P n c (.blk id::k) s:=aaS rfl rfl
theorem ajV(n:Nat)(c:Code)(k:List Aq)(s:St):Ed O P (n+1) (.loop c) k s=lpK O P n k (O.loop c s):=by
 simp only[Ed,aJ,lpK]
 cases O.loop c s<;>rfl
theorem agR(n:Nat)(id:Nat)(k:List Aq)(s:St):Ed O P (n+1) (.exit id) k s=Dz (Ed O P n) k (.exit id) s:=aaS rfl rfl
theorem apC(n:Nat)(k:List Aq)(s:St):Ed O P (n+1) .ret k s=Dz (Ed O P n) k .ret s:=aaS rfl rfl
theorem agU(ev:Code→List Aq→St→R)(e:Ex)(s:St):Dz ev [] e s=some (e,s):=aaS rfl rfl
theorem adC(n:Nat)(c:Code)(k:List Aq)(s:St):Dz (Ed O P n) (.code c::k) .normal s=Ed O P n c k s:=aaS rfl rfl
theorem oD(ev:Code→List Aq→St→R)(c:Code)(k:List Aq)(i:Nat)(s:St):Dz ev (.code c::k) (.exit i) s=Dz ev k (.exit i) s:=aaS rfl rfl
theorem oN(ev:Code→List Aq→St→R)(c:Code)(k:List Aq)(s:St):Dz ev (.code c::k) .ret s=Dz ev k .ret s:=aaS rfl rfl
theorem afU(ev:Code→List Aq→St→R)(id:Nat)(k:List Aq)(s:St):Dz ev (.blk id::k) .normal s=Dz ev k .normal s:=aaS rfl rfl
theorem rF(ev:Code→List Aq→St→R)(id:Nat)(k:List Aq)(s:St):Dz ev (.blk id::k) .ret s=Dz ev k .ret s:=aaS rfl rfl
theorem oQ(ev:Code→List Aq→St→R)(id i:Nat)(k:List Aq)(s:St):Dz ev (.blk id::k) (.exit i) s=if i=id then Dz ev k .normal s else Dz ev k (.exit i) s:=by
 simp only[Dz]
 by_cases h:i=id
 ·subst h;simp
 ·have:(i==id)=false:=by simpa using h
  rw[this];simp[h]
def fnK(P:Program)(k:Nat)(rs:List ResultVar)(x:R):Option (Eo × Ab):=
 match x with
 |some (.normal,s)|some (.ret,s)=>(Uf P s rs).bind fun vs=>(Sz k (Ui vs) s.h).map fun(v,h)=>(.ret v,h)
 |some (.pan v,s)=>(Sz k v s.h).map fun(v,h)=>(.pan v,h)
 |_=>none
def aiC(k:Nat)(vs:Option (List AV))(h:Ab):Option (Eo × Ab):=vs.bind fun vs=>(Sz k (Ui vs) h).map fun(v,h)=>(.ret v,h)
theorem at7{f:Nat}{fn:Func}(hf:P.funcs[f]?=some fn){c:Code}(hb:fn.body=some c){args:List AV}(hl:args.length≤fn.ntmps)(h:Ab):
 evF O P f args h=fnK P h.length fn.results.toList (Ed O P Ou c [] ⟨mk fn.ntmps (Bw args),h⟩):=by
 unfold evF
 simp only[hf,hb]
 rw[afC _ _ hl]
 cases Ed O P Ou c [] ⟨mk fn.ntmps (Bw args),h⟩with
 |none=>rfl
 |some x=>
  obtain⟨e,s⟩:=x
  cases e<;>rfl
structure CO where
 dst:Option Nat
 op:Op
 g:Option (Option Nat × Bool)
def Jd(ops:List Oper)(o:Oper):CO:=⟨o.dst,o.op,o.guard.map fun(j,w)=>((ops[j]?).bind (·.dst),w)⟩
def rc(O:Gn)(P:Program)(n:Nat)(k:List Aq):List CO→List AV→Ab→R
 | [],t,h=>Dz (Ed O P n) k .normal ⟨t,h⟩
 |c::cs,t,h=>
  match(match c.g with
   |none=>some true
   |some (none,_)=>none
   |some (some q,w)=>match Ig t q with
    | .bool b=>some (b==w)
    | .tup []=>some false
    |_=>none)with
  |none=>none
  |some false=>rc O P n k cs (put t c.dst (.tup [])) h
  |some true=>match Fp O P t h c.op with
   |some (.ret v,es)=>rc O P n k cs (put t c.dst v) (Ba h es)
   |some (.pan v,es)=>Dz (Ed O P n) k (.pan v) ⟨t,Ba h es⟩
   |none=>none
def rcD(O:Gn)(P:Program)(n:Nat)(k:List Aq)(d:Option Nat)(cs:List CO)(x:Option (Eo × List Ad))(t:List AV)(h:Ab):R:=
 match x with
 |some (.ret v,es)=>rc O P n k cs (put t d v) (Ba h es)
 |some (.pan v,es)=>Dz (Ed O P n) k (.pan v) ⟨t,Ba h es⟩
 |none=>none
def rcG(O:Gn)(P:Program)(n:Nat)(k:List Aq)(d:Option Nat)(op:Op)(cs:List CO)(v:AV)(w:Bool)(t:List AV)(h:Ab):R:=
 match v with
 | .bool b=>match b==w with
   |true=>rcD O P n k d cs (Fp O P t h op) t h
   |false=>rc O P n k cs (put t d (.tup [])) h
 | .tup []=>rc O P n k cs (put t d (.tup [])) h
 |_=>none
theorem ak4{n:Nat}{k:List Aq}{ops:List Oper}:∀{rest:List Oper} {i:Nat} {t:List AV} {h:Ab},rg O P n k ops rest i t h=rc O P n k (rest.map (Jd ops)) t h
 | [],i,t,h=>rfl
 |o::rest,i,t,h=>by
  simp only[List.map_cons]
  have hw:(match(Jd ops o).g with
   |none=>some true
   |some (none,_)=>none
   |some (some q,w)=>match Ig t q with
    | .bool b=>some (b==w)
    | .tup []=>some false
    |_=>none)=Gx ops t o:=by
   unfold Jd Gx
   cases o.guard with
   |none=>rfl
   |some x=>
    obtain⟨j,w⟩:=x
    simp only[acK]
    cases(ops[j]?).bind (·.dst)with
    |none=>rfl
    |some q=>
     simp only
     cases Ig t q<;>first|rfl|(rename_i l;cases l<;>rfl)
  unfold rc
  rw[hw]
  cases hwa:Gx ops t o with
  |none=>unfold rg Ha;simp only[hwa]
  |some b=>
   cases b with
   |false=>rw[alR n k ops rest i t h o hwa];exact ak4
   |true=>
    rw[ayC n k ops rest i t h o hwa]
    show rgD O P n k ops rest (i+1) o.dst (Fp O P t h o.op) t h=match Fp O P t h o.op with
     |some (.ret v,es)=>rc O P n k (rest.map (Jd ops)) (put t o.dst v) (Ba h es)
     |some (.pan v,es)=>Dz (Ed O P n) k (.pan v) ⟨t,Ba h es⟩
     |none=>none
    cases Fp O P t h o.op with
    |none=>rfl
    |some x=>
     obtain⟨out,es⟩:=x
     cases out with
     |ret v=>exact ak4
     |pan v=>rfl
theorem atK(n:Nat)(k:List Aq)(t:List AV)(h:Ab):rc O P n k [] t h=Dz (Ed O P n) k .normal ⟨t,h⟩:=aaS rfl rfl
theorem avN(n:Nat)(k:List Aq)(d:Option Nat)(op:Op)(cs:List CO)(t:List AV)(h:Ab):rc O P n k (⟨d,op,none⟩::cs) t h=rcD O P n k d cs (Fp O P t h op) t h:=aaS rfl rfl
theorem avJ(n:Nat)(k:List Aq)(d:Option Nat)(op:Op)(cs:List CO)(q:Nat)(w:Bool)(t:List AV)(h:Ab):rc O P n k (⟨d,op,some (some q,w)⟩::cs) t h=rcG O P n k d op cs (Ig t q) w t h:=by
 unfold rc rcG
 simp only
 cases Ig t q with
 |bool b=>simp only;cases(b==w)<;>rfl
 |tup l=>cases l<;>rfl
 |_=>rfl
theorem al5(n:Nat)(k:List Aq)(d:Option Nat)(cs:List CO)(v:AV)(es:List Ad)(t:List AV)(h:Ab):rcD O P n k d cs (some (.ret v,es)) t h=rc O P n k cs (put t d v) (Ba h es):=aaS rfl rfl
theorem aq3(n:Nat)(k:List Aq)(d:Option Nat)(op:Op)(cs:List CO)(t:List AV)(h:Ab):rcG O P n k d op cs (.bool true) true t h=rcD O P n k d cs (Fp O P t h op) t h:=aaS rfl rfl
theorem ar2(n:Nat)(k:List Aq)(d:Option Nat)(op:Op)(cs:List CO)(t:List AV)(h:Ab):rcG O P n k d op cs (.bool false) false t h=rcD O P n k d cs (Fp O P t h op) t h:=aaS rfl rfl
theorem asR(n:Nat)(k:List Aq)(d:Option Nat)(op:Op)(cs:List CO)(t:List AV)(h:Ab):rcG O P n k d op cs (.bool true) false t h=rc O P n k cs (put t d (.tup [])) h:=aaS rfl rfl
theorem asP(n:Nat)(k:List Aq)(d:Option Nat)(op:Op)(cs:List CO)(t:List AV)(h:Ab):rcG O P n k d op cs (.bool false) true t h=rc O P n k cs (put t d (.tup [])) h:=aaS rfl rfl
theorem asI(n:Nat)(k:List Aq)(d:Option Nat)(op:Op)(cs:List CO)(w:Bool)(t:List AV)(h:Ab):rcG O P n k d op cs (.tup []) w t h=rc O P n k cs (put t d (.tup [])) h:=aaS rfl rfl
theorem aqG(n:Nat)(id:Nat)(ops:Array Oper)(k:List Aq)(t:List AV)(h:Ab):Ed O P (n+1) (.region id ops false) k ⟨t,h⟩=rc O P n k (ops.toList.map (Jd ops.toList)) t h:=ak4
end
section
variable {P:Program} {O:Gn}
abbrev OE:=Option (Eo × List Ad)
def r1(x:Option AV):OE:=x.map fun v=>(.ret v,[])
theorem eI(v:AV):r1 (some v)=some (.ret v,[]):=aaS rfl rfl
def rD(x:Option Lq):OE:=x.map fun d=>(.ret d.v,d.es)
theorem anN(v:AV)(es:List Ad)(fs:List Et):rD (some ⟨v,es,fs⟩)=some (.ret v,es):=aaS rfl rfl
theorem Hh(x:Option AV):rD (Ic x)=r1 x:=by cases x<;>rfl
theorem Ei(t:List AV)(h:Ab)(op:Op)(hk:Hr op=.other):Fp O P t h op=rD (exec P (hf h) h.length t op):=by unfold Fp;rw[hk];rfl
theorem aoY(t:List AV)(h:Ab)(x:Operand):Fp O P t h (.move x)=r1 (Ak t x):=by rw[Ei _ _ _ rfl];exact Hh _
theorem ae3(t:List AV)(h:Ab)(x:Operand):Fp O P t h (.assign x)=r1 (Ak t x):=by rw[Ei _ _ _ rfl];exact Hh _
def pk(c a b:Option AV):OE:=
 match c,a,b with
 |some (.bool true),some a,some _=>some (.ret a,[])
 |some (.bool false),some _,some b=>some (.ret b,[])
 |_,_,_=>none
theorem amN(a b:AV):pk (some (.bool true)) (some a) (some b)=some (.ret a,[]):=aaS rfl rfl
theorem ag4(a b:AV):pk (some (.bool false)) (some a) (some b)=some (.ret b,[]):=aaS rfl rfl
theorem amE(t:List AV)(h:Ab)(c a b:Operand):Fp O P t h (.pick c a b)=pk (Ak t c) (Ak t a) (Ak t b):=by
 rw[Ei _ _ _ rfl]
 simp only[exec]
 cases Ak t c with
 |none=>rfl
 |some v=>
  cases Ak t a with
  |none=>cases v<;>first|rfl|(rename_i q;cases q<;>rfl)
  |some x=>
   cases Ak t b with
   |none=>cases v<;>first|rfl|(rename_i q;cases q<;>rfl)
   |some y=>cases v<;>first|rfl|(rename_i q;cases q<;>rfl)
def bn(P:Program)(op:BinOp)(ty:TypeId)(a b:Option AV):Option AV:=a.bind fun a=>b.bind fun b=>Ln P op ty a b
theorem am8(op:BinOp)(ty:TypeId)(a b:AV):bn P op ty (some a) (some b)=Ln P op ty a b:=aaS rfl rfl
theorem atU(t:List AV)(h:Ab)(op:BinOp)(ty:TypeId)(x y:Operand)(u:TypeId):Fp O P t h (.binOp op ty x y u)=r1 (bn P op ty (Ak t x) (Ak t y)):=by
 rw[Ei _ _ _ rfl]
 simp only[exec,bn]
 cases Ak t x with
 |none=>rfl
 |some a=>
  cases Ak t y with
  |none=>rfl
  |some b=>exact Hh _
section bins
variable (P:Program) (ty:TypeId) (k:IntKind) (a b:Int)
theorem axP:Ln P .add ty (.int k a) (.int k b)=some (.int k (k.wrap (a+b))):=by simp[Ln,Ni]
theorem ax7:Ln P .sub ty (.int k a) (.int k b)=some (.int k (k.wrap (a-b))):=by simp[Ln,Ni]
theorem ax6:Ln P .mul ty (.int k a) (.int k b)=some (.int k (k.wrap (a*b))):=by simp[Ln,Ni]
theorem axA:Ln P .quo ty (.int k a) (.int k b)=if b=0 then none else some (.int k (k.wrap (a.tdiv b))):=by simp[Ln,Ni]
theorem awP:Ln P .eql ty (.int k a) (.int k b)=some (.bool (a==b)):=by simp[Ln,Ni]
theorem ayI:Ln P .neq ty (.int k a) (.int k b)=some (.bool !(a==b)):=by simp[Ln,Ni,bne]
theorem aw0:Ln P .lss ty (.int k a) (.int k b)=some (.bool (decide (a<b))):=by simp[Ln,Ni]
theorem awA:Ln P .leq ty (.int k a) (.int k b)=some (.bool (decide (a≤b))):=by simp[Ln,Ni]
theorem ayB:Ln P .gtr ty (.int k a) (.int k b)=some (.bool (decide (b<a))):=by simp[Ln,Ni]
theorem ayH:Ln P .geq ty (.int k a) (.int k b)=some (.bool (decide (b≤a))):=by simp[Ln,Ni]
end bins
theorem awB(t:List AV)(h:Ab)(op:UnOp)(ty:TypeId)(x:Operand):Fp O P t h (.unOp op ty x)=r1 ((Ak t x).bind (aUn op)):=by
 rw[Ei _ _ _ rfl]
 simp only[exec]
 cases Ak t x with
 |none=>rfl
 |some a=>exact Hh _
def Pl(c:Option CB)(r:Nat):Option (List AV):=
 match c with
 |some (.live _ _ _ rows)=>rows[r]?
 |some (.frz _ _ rows)=>rows[r]?
 |_=>none
theorem adQ(st:Nat)(fl w:Bool)(rows:List (List AV))(r:Nat):Pl (some (.live st fl w rows)) r=rows[r]?:=aaS rfl rfl
theorem vX(h:Ab)(b r:Nat):cA (hf h) b r=Pl (h[b]?) r:=by
 unfold cA Pl hf
 cases h[b]? with
 |none=>rfl
 |some c=>cases c<;>rfl
def ldC(cs:Option (List AV))(o:Nat):OE:=cs.bind fun cs=>r1 (cs[o]?)
def ldR(cs:Option (List AV))(o n:Nat):OE:=cs.bind fun cs=>if o+n≤cs.length then some (.ret (.agg ((cs.drop o).take n)),[])else none
theorem ag6(cs:List AV)(o:Nat):ldC (some cs) o=r1 (cs[o]?):=aaS rfl rfl
theorem ai2(cs:List AV)(o n:Nat):ldR (some cs) o n=if o+n≤cs.length then some (.ret (.agg ((cs.drop o).take n)),[])else none:=aaS rfl rfl
def ld(P:Program)(ty:TypeId)(h:Ab)(p:Option AV):OE:=p.bind fun p=>rD (Ru P (hf h) ty p)
theorem amB(t:List AV)(h:Ab)(ty:TypeId)(a:Operand):Fp O P t h (.load ty a)=ld P ty h (Ak t a):=by
 rw[Ei _ _ _ rfl]
 simp only[exec,ld]
 cases Ak t a<;>rfl
def ax1(P:Program)(ty:TypeId):Prop:=jI P ty=some false∧∃n,Xf P ty=some n
def axR(P:Program)(ty:TypeId)(n:Nat):Prop:=jI P ty=some true∧Xf P ty=some n
theorem cF{ty:TypeId}(hs:ax1 P ty)(h:Ab)(b r o:Nat):ld P ty h (some (.ptr b r o))=ldC (Pl (h[b]?) r) o:=by
 obtain⟨h1,n,h2⟩:=hs
 simp only[ld,aa0,Ru,h1,h2,vX]
 cases Pl (h[b]?) r with
 |none=>rfl
 |some cs=>simp only[aa0,ldC];cases cs[o]?<;>rfl
theorem ajQ{ty:TypeId}(hs:ax1 P ty)(h:Ab)(c:AV)(cs:List AV):ld P ty h (some (.iptr (c::cs)))=some (.ret c,[]):=by
 obtain⟨h1,n,h2⟩:=hs
 simp only[ld,aa0,Ru,h1,h2,anN]
theorem cB{ty:TypeId}{n:Nat}(hs:axR P ty n)(h:Ab)(b r o:Nat):ld P ty h (some (.ptr b r o))=ldR (Pl (h[b]?) r) o n:=by
 obtain⟨h1,h2⟩:=hs
 simp only[ld,aa0,Ru,h1,h2,vX]
 cases Pl (h[b]?) r with
 |none=>rfl
 |some cs=>simp only[aa0,ldR];split<;>rfl
theorem vF{ty:TypeId}{n:Nat}(hs:axR P ty n)(h:Ab)(cs:List AV):ld P ty h (some (.iptr cs))=if n≤cs.length then some (.ret (.agg (cs.take n)),[])else none:=by
 obtain⟨h1,h2⟩:=hs
 simp only[ld,aa0,Ru,h1,h2]
 split<;>rfl
def sv(n:Nat)(c:Option CB)(b r o:Nat)(v:List AV):OE:=
 match c with
 |some (.live _ _ _ rows)=>(rows[r]?).bind fun cs=>if v.length=n∧o+n≤cs.length∧v.all AV.isCell=true then some (.ret (.tup []),[.cells b r o v])else none
 |_=>none
theorem an5(n:Nat)(st:Nat)(fl w:Bool)(rows:List (List AV))(b r o:Nat)(v:List AV):sv n (some (.live st fl w rows)) b r o v=(rows[r]?).bind fun cs=>if v.length=n∧o+n≤cs.length∧v.all AV.isCell=true then some (.ret (.tup []),[.cells b r o v])else none:=aaS rfl rfl
def xK(P:Program)(ty:TypeId)(h:Ab)(p v:Option AV):OE:=p.bind fun p=>v.bind fun v=>rD (Us P (hf h) ty p v)
theorem agP(t:List AV)(h:Ab)(ty:TypeId)(a x:Operand):Fp O P t h (.store ty a x)=xK P ty h (Ak t a) (Ak t x):=by
 rw[Ei _ _ _ rfl]
 simp only[exec,xK]
 cases Ak t a with
 |none=>rfl
 |some p=>cases Ak t x<;>rfl
theorem Sv{ty:TypeId}{n:Nat}(hs:Xf P ty=some n)(h:Ab)(b r o:Nat)(v:AV):xK P ty h (some (.ptr b r o)) (some v)=sv n (h[b]?) b r o (acells v):=by
 simp only[xK,aa0,Us,hs,hf,sv]
 cases h[b]? with
 |none=>rfl
 |some c=>
  cases c with
  |live st fl w rows=>
   simp only
   cases rows[r]? with
   |none=>rfl
   |some cs=>simp only[aa0];split<;>rfl
  |_=>rfl
def nw(h:Ab)(v:Option AV):OE:=v.bind fun v=>if(acells v).all AV.isCell=true then some (.ret (.ptr h.length 0 0),[.new h.length (.live (acells v).length ((acells v).all AV.flat) false [acells v])])else none
theorem aoZ(h:Ab)(v:AV):nw h (some v)=if(acells v).all AV.isCell=true then some (.ret (.ptr h.length 0 0),[.new h.length (.live (acells v).length ((acells v).all AV.flat) false [acells v])])else none:=aaS rfl rfl
theorem ajN(t:List AV)(h:Ab)(ty:TypeId):Fp O P t h (.alloc ty)=nw h (Nj P ty):=by
 rw[Ei _ _ _ rfl]
 simp only[exec,nw]
 cases Nj P ty with
 |none=>rfl
 |some z=>simp only[aa0,fZ];split<;>rfl
theorem atN(t:List AV)(h:Ab)(ty:TypeId)(x:Operand):Fp O P t h (.box ty x)=nw h (Ak t x):=by
 rw[Ei _ _ _ rfl]
 simp only[exec,nw]
 cases Ak t x with
 |none=>rfl
 |some z=>simp only[aa0,fZ];split<;>rfl
theorem ag7(t:List AV)(h:Ab)(ty:TypeId)(ps:Array (Nat × Operand)):Fp O P t h (.build ty ps)=r1 ((Dn t (ps.toList.map (·.2))).bind fun vs=>bC P ty (Ur ps.toList vs)):=by
 rw[Ei _ _ _ rfl]
 simp only[exec]
 cases Dn t (ps.toList.map (·.2))with
 |none=>rfl
 |some vs=>exact Hh _
theorem oM(t:List AV)(h:Ab)(ty:TypeId)(len:Nat)(ps:Array (Nat × Operand)):Fp O P t h (.buildSlice ty len ps)=rD ((Dn t (ps.toList.map (·.2))).bind fun vs=>Ef P h.length ty len (Ur ps.toList vs)):=Ei _ _ _ rfl
def fa(P:Program)(ty:TypeId)(x:Option AV)(f:Nat):OE:=r1 (x.bind fun x=>Qp P ty x f)
theorem ayL(t:List AV)(h:Ab)(ty:TypeId)(x:Operand)(f:Nat):Fp O P t h (.fieldAddr ty x f)=fa P ty (Ak t x) f:=by
 rw[Ei _ _ _ rfl]
 simp only[exec,fa]
 cases Ak t x with
 |none=>rfl
 |some a=>exact Hh _
def Cj(P:Program)(ty:TypeId)(f off n:Nat):Prop:=∃fs fd,P.underlying ty=some (.struct fs)∧fs[f]?=some fd∧fd.offset=off∧Xf P fd.type=some n∧n≠0
theorem Cb{ty:TypeId}{f off n:Nat}(hf:Cj P ty f off n)(b r o:Nat):fa P ty (some (.ptr b r o)) f=some (.ret (.ptr b r (o+off)),[]):=by
 obtain⟨fs,fd,h1,h2,h3,h4,h5⟩:=hf
 simp only[fa,aa0,Qp,h1,h2,h4,h5,if_false,h3,eI]
theorem Rh{ty:TypeId}{f off n:Nat}(hf:Cj P ty f off n)(cs:List AV):fa P ty (some (.iptr cs)) f=if off+n≤cs.length then some (.ret (.iptr (cs.drop off)),[])else none:=by
 obtain⟨fs,fd,h1,h2,h3,h4,h5⟩:=hf
 simp only[fa,aa0,Qp,h1,h2,h4,h5,if_false,h3]
 split<;>rfl
def ia(P:Program)(ty:TypeId)(x i:Option AV):OE:=r1 (x.bind fun x=>i.bind fun i=>Of P ty x i)
theorem aw5(t:List AV)(h:Ab)(ty:TypeId)(x i:Operand):Fp O P t h (.indexAddr ty x i)=ia P ty (Ak t x) (Ak t i):=by
 rw[Ei _ _ _ rfl]
 simp only[exec,ia]
 cases Ak t x with
 |none=>rfl
 |some a=>
  cases Ak t i with
  |none=>rfl
  |some b=>exact Hh _
def SlT(P:Program)(ty:TypeId)(n:Nat):Prop:=∃e,P.underlying ty=some (.slice e)∧Xf P e=some n
theorem ahX{ty:TypeId}{n:Nat}(hs:SlT P ty n)(fl:Bool)(rows:List (List AV))(k:IntKind)(i:Int):ia P ty (some (.imm n fl rows)) (some (.int k i))=if 0≤i then r1 ((rows[i.toNat]?).map .iptr)else none:=by
 obtain⟨e,h1,h2⟩:=hs
 simp only[ia,aa0,Of,h1,h2,true_and]
 split<;>rfl
theorem yF{ty:TypeId}{n:Nat}(hs:SlT P ty n)(b r len:Nat)(k:IntKind)(i:Int):ia P ty (some (.slr n b r len)) (some (.int k i))=if 0≤i∧i<len then some (.ret (.ptr b (r+i.toNat) 0),[])else none:=by
 obtain⟨e,h1,h2⟩:=hs
 simp only[ia,aa0,Of,h1,h2,true_and]
 split<;>rfl
theorem yR(t:List AV)(h:Ab)(x:Operand)(i:Nat):Fp O P t h (.extract x i)=r1 ((Ak t x).bind fun x=>match x with| .tup vs=>vs[i]?|_=>none):=by
 rw[Ei _ _ _ rfl]
 simp only[exec]
 cases Ak t x with
 |none=>rfl
 |some a=>cases a<;>first|rfl|exact Hh _
def ln(P:Program)(ty:TypeId)(x:Option AV):OE:=r1 (x.bind (jJ P ty))
theorem aqK(t:List AV)(h:Ab)(x:Operand)(ty:TypeId):Fp O P t h (.call ⟨.builtin .len,#[x],#[ty]⟩)=ln P ty (Ak t x):=by
 rw[Ei _ _ _ rfl]
 simp only[exec,Dn,ln]
 cases Ak t x with
 |none=>rfl
 |some a=>exact Hh _
theorem agL{ty:TypeId}{n:Nat}(hs:SlT P ty n)(st:Nat)(fl:Bool)(rows:List (List AV)):ln P ty (some (.imm st fl rows))=some (.ret (.int .i64 rows.length),[]):=by
 obtain⟨e,h1,h2⟩:=hs
 simp only[ln,aa0,jJ,h1,eI]
theorem zT{ty:TypeId}{n:Nat}(hs:SlT P ty n)(st b r len:Nat):ln P ty (some (.slr st b r len))=some (.ret (.int .i64 len),[]):=by
 obtain⟨e,h1,h2⟩:=hs
 simp only[ln,aa0,jJ,h1,eI]
theorem kP{ty:TypeId}{n:Nat}(hs:SlT P ty n):ln P ty (some .nils)=some (.ret (.int .i64 0),[]):=by
 obtain⟨e,h1,h2⟩:=hs
 simp only[ln,aa0,jJ,h1,eI]
theorem anQ(t:List AV)(h:Ab)(x y:Operand)(ts:Array TypeId):Fp O P t h (.call ⟨.builtin .min,#[x,y],ts⟩)=r1 ((Ak t x).bind fun a=>(Ak t y).bind fun b=>dX a b):=by
 rw[Ei _ _ _ rfl]
 simp only[exec,Dn]
 cases Ak t x with
 |none=>rfl
 |some a=>
  cases Ak t y with
  |none=>rfl
  |some b=>exact Hh _
theorem ao8(t:List AV)(h:Ab)(x y:Operand)(ts:Array TypeId):Fp O P t h (.call ⟨.builtin .max,#[x,y],ts⟩)=r1 ((Ak t x).bind fun a=>(Ak t y).bind fun b=>dV a b):=by
 rw[Ei _ _ _ rfl]
 simp only[exec,Dn]
 cases Ak t x with
 |none=>rfl
 |some a=>
  cases Ak t y with
  |none=>rfl
  |some b=>exact Hh _
def cr(x:Option Nr):OE:=x.map fun d=>(d.out,d.es)
theorem anK(o:Eo)(es:List Ad)(fs:List Et):cr (some ⟨o,es,fs⟩)=some (o,es):=aaS rfl rfl
def oJ:List AV→Bool
 | .ptr _ _ _::_=>true
 | .yl _::_=>true
 |_=>false
theorem nH(f:Nat)(args:List AV):Zm f args=if oJ args=true then .sh f else .fn f:=by
 unfold Zm
 split
 ·rfl
 ·rfl
 ·rename_i h1 h2
  rw[if_neg]
  intro hc
  unfold oJ at hc
  split at hc
  ·exact h1 _ _ _ _ rfl
  ·exact h2 _ _ rfl
  ·cases hc
theorem auB:oJ []=false:=aaS rfl rfl
theorem auT(b r o:Nat)(l:List AV):oJ (.ptr b r o::l)=true:=aaS rfl rfl
theorem aqI(k:IntKind)(n:Int)(l:List AV):oJ (.int k n::l)=false:=aaS rfl rfl
theorem am1(l:List AV):oJ (.nils::l)=false:=aaS rfl rfl
theorem arG(n:Nat)(fl:Bool)(rows:List (List AV))(l:List AV):oJ (.imm n fl rows::l)=false:=aaS rfl rfl
theorem arO(a b r n:Nat)(l:List AV):oJ (.slr a b r n::l)=false:=aaS rfl rfl
theorem aqN(c:List AV)(l:List AV):oJ (.agg c::l)=false:=aaS rfl rfl
def shK(h:Ab)(x:Option (Eo × Ab)):OE:=x.bind fun(out,h')=>(Fh 0 h h').map fun es=>(out,es)
def fG(h:Ab):Ab:=h.map CB.clean
def shC(O:Gn)(h:Ab)(f:Nat)(args:List AV):OE:=if(mU args||O.md f)=true then shK h (O.call (.sh f) args (fG h))else cr (Ew O (hf h) h.length (.fn f) args)
theorem ap3(h:Ab)(f:Vy)(args:List AV):cr (Ls O (hf h) h.length f args)=shK h (O.call f args (fG h)):=by
 unfold Ls shK cr fG
 rw[ahH,aa0]
 cases O.call f args (h.map CB.clean)with
 |none=>rfl
 |some x=>
  obtain⟨out,h'⟩:=x
  simp only[aa0]
  cases Fh 0 h h'<;>rfl
def cl(O:Gn)(h:Ab)(f:Option AV)(vs:Option (List AV)):OE:=f.bind fun f=>vs.bind fun vs=>
 match f with
 | .func (.func f) a b=>if oJ (a++vs++b)=true then shC O h f (a++vs++b)else cr (Ew O (hf h) h.length (.fn f) (a++vs++b))
 | .yl b=>shK h (O.call .round (vs++[.yl b]) (fG h))
 |_=>none
theorem ah9(h:Ab)(f:Nat)(a b vs:List AV):cl O h (some (.func (.func f) a b)) (some vs)=if oJ (a++vs++b)=true then shC O h f (a++vs++b)else cr (Ew O (hf h) h.length (.fn f) (a++vs++b)):=aaS rfl rfl
theorem avP(h:Ab)(b:Nat)(vs:List AV):cl O h (some (.yl b)) (some vs)=shK h (O.call .round (vs++[.yl b]) (fG h)):=aaS rfl rfl
theorem aiF(h:Ab)(f:Nat)(args:List AV):cr (Hj O (hf h) h.length (Zm f args) args)=if oJ args=true then shC O h f args else cr (Ew O (hf h) h.length (.fn f) args):=by
 rw[nH]
 split
 ·unfold shC
  cases hq:(mU args||O.md f)with
  |true=>simp only[Hj,hq,cond_true,if_true,ap3]
  |false=>simp only[Hj,hq,cond_false,adV,if_false]
 ·rfl
theorem aoX(t:List AV)(h:Ab)(f:Operand)(args:Array Operand)(ts:Array TypeId):Fp O P t h (.call ⟨.value f,args,ts⟩)=cl O h (Ak t f) (Dn t args.toList):=by
 simp only[Fp,Hr,callee,cl]
 cases Ak t f with
 |none=>rfl
 |some fv=>
  cases Dn t args.toList with
  |none=>rfl
  |some vs=>
   simp only[aa0]
   cases fv with
   |func fn a b=>
    cases fn with
    |func f=>exact aiF h f _
    |_=>rfl
   |yl b=>exact ap3 h .round _
   |_=>rfl
def Bj:Nat→AV→Bool
 |0,_=>false
 |d+1,v=>
  match v with
  | .ptr _ _ _=>false
  | .slr _ _ _ _=>false
  | .yl _=>false
  | .agg cs=>cs.all (Bj d)
  | .tup cs=>cs.all (Bj d)
  | .iface _ x=>Bj d x
  | .func _ a b=>a.all (Bj d)&&b.all (Bj d)
  |_=>true
theorem Qv{f:AV→Option AV}:∀{l:List AV},(∀x∈l,f x=some x)→Az f l=some l
 | [],_=>rfl
 |a::l,h=>by
  simp only[Az,h a (abB ..),Qv (fun x hx=>h x (aa6 _ hx)),aa0,acK]
theorem Jk(g:HF):∀{d e:Nat} {v:AV},d≤e→Bj d v=true→Ih e g v=some v
 |0,e,v,_,h=>by simp[Bj]at h
 |d+1,0,v,he,h=>by omega
 |d+1,e+1,v,he,h=>by
  cases v with
  |ptr b r o=>simp[Bj]at h
  |slr a b c d=>simp[Bj]at h
  |agg cs=>
   simp only[Bj,abT]at h
   simp only[Ih]
   rw[Qv fun x hx=>Jk g (by omega) (h x hx)];rfl
  |iface t x=>
   simp only[Bj]at h
   simp only[Ih]
   rw[Jk g (by omega) h];rfl
  |_=>rfl
theorem Iy(g:HF):∀{d e:Nat} {v:AV},d≤e→Bj d v=true→Be e g v=[]
 |0,e,v,_,h=>by simp[Bj]at h
 |d+1,0,v,he,h=>by omega
 |d+1,e+1,v,he,h=>by
  cases v with
  |ptr b r o=>simp[Bj]at h
  |slr a b c d=>simp[Bj]at h
  |agg cs=>
   simp only[Bj,abT]at h
   simp only[Be]
   rw[avA]
   exact fun x hx=>Iy g (by omega) (h x hx)
  |iface t x=>
   simp only[Bj]at h
   simp only[Be]
   exact Iy g (by omega) h
  |_=>rfl
theorem Oi{f:List Nat→AV→Option (AV × List Nat)}{m:List Nat}:∀{l:List AV},(∀x∈l,f m x=some (x,m))→Ey.refL f m l=some (l,m)
 | [],_=>rfl
 |a::l,h=>by
  simp only[Ey.refL,h a (abB ..),Oi (fun x hx=>h x (aa6 _ hx)),aa0,acK]
theorem Lx(m:List Nat):∀{d:Nat} {v:AV},Bj d v=true→Ey d m v=some (v,m)
 |0,v,h=>by simp[Bj]at h
 |d+1,v,h=>by
  cases v with
  |ptr b r o=>simp[Bj]at h
  |slr a b c d=>simp[Bj]at h
  |yl b=>simp[Bj]at h
  |agg cs=>
   simp only[Bj,abT]at h
   simp only[Ey]
   rw[Oi fun x hx=>Lx m (h x hx)];rfl
  |tup cs=>
   simp only[Bj,abT]at h
   simp only[Ey]
   rw[Oi fun x hx=>Lx m (h x hx)];rfl
  |iface t x=>
   simp only[Bj]at h
   simp only[Ey]
   rw[Lx m h];rfl
  |func fn a b=>
   simp only[Bj,aeW,abT]at h
   simp only[Ey]
   rw[Oi fun x hx=>Lx m (h.1 x hx)]
   simp only[aa0]
   rw[Oi fun x hx=>Lx m (h.2 x hx)];rfl
  |_=>rfl
theorem Oh(f:Nat→Nat):∀{d:Nat} {v:AV},Bj d v=true→Dp d f v=some v
 |0,v,h=>by simp[Bj]at h
 |d+1,v,h=>by
  cases v with
  |ptr b r o=>simp[Bj]at h
  |slr a b c d=>simp[Bj]at h
  |yl b=>simp[Bj]at h
  |agg cs=>
   simp only[Bj,abT]at h
   simp only[Dp]
   rw[Qv fun x hx=>Oh f (h x hx)];rfl
  |tup cs=>
   simp only[Bj,abT]at h
   simp only[Dp]
   rw[Qv fun x hx=>Oh f (h x hx)];rfl
  |iface t x=>
   simp only[Bj]at h
   simp only[Dp]
   rw[Oh f h];rfl
  |func fn a b=>
   simp only[Bj,aeW,abT]at h
   simp only[Dp]
   rw[Qv fun x hx=>Oh f (h.1 x hx)]
   simp only[aa0]
   rw[Qv fun x hx=>Oh f (h.2 x hx)];rfl
  |_=>rfl
def ac0(base:Nat)(x:Option (Eo × Ab)):Option Nr:=x.bind fun(out,h')=>
 (Dp 8 (fun i=>base+i) out.v).bind fun v=>(Jj (fun i=>base+i) base h').map fun ns=>⟨out.map fun _=>v,ns,[]⟩
theorem iH{g:HF}{base:Nat}{f:Vy}{args:List AV}(hp:args.all (Bj 8)=true):Ew O g base f args=ac0 base (O.call f args []):=by
 rw[abT]at hp
 have h1:Az (Ih 12 g) args=some args:=Qv fun x hx=>Jk g (by omega) (hp x hx)
 have h2:Md g [] args=some (args,[],[]):=by
  unfold Md
  rw[Oi fun x hx=>Lx [] (hp x hx)]
  rfl
 have h3:args.flatMap (Be 12 g)=[]:=by
  rw[avA]
  exact fun x hx=>Iy g (by omega) (hp x hx)
 have h4:Gz [] base=fun i=>base+i:=by funext i;simp[Gz]
 unfold Ew
 simp only[h1,h2,h3,aa0,List.any_nil,adV,if_false,List.map_nil]
 unfold ac0
 cases O.call f args []with
 |none=>rfl
 |some x=>
  obtain⟨out,h'⟩:=x
  simp only[aa0,Og,h4,List.length_nil,List.take_zero,List.drop_zero,Ip,List.isEmpty_nil,Bool.true_or,if_true,au4,List.append_nil,List.map_nil]
  cases Dp 8 (fun i=>base+i) out.v with
  |none=>rfl
  |some v=>
   simp only[aa0]
   cases Jj (fun i=>base+i) base h'<;>rfl
theorem akU{base:Nat}{v:AV}(hv:Bj 8 v=true):ac0 base (some (.ret v,[]))=some ⟨.ret v,[],[]⟩:=by
 simp only[ac0,aa0,Eo.v,Oh _ hv,Jj,acK,Eo.map]
theorem ad9{vs:List AV}{h:Ab}(hv:Bj 8 (Ui vs)=true):aiC 0 (some vs) h=some (.ret (Ui vs),[]):=by
 simp only[aiC,aa0,Sz,List.range_zero]
 unfold Md
 rw[Oi (l:=[Ui vs]) (fun x hx=>by simp at hx;subst hx;exact Lx [] hv)]
 rfl
theorem akY(s:St):Uf P s []=some []:=aaS rfl rfl
theorem ag1(t:List AV)(h:Ab)(q:Nat)(rs:List ResultVar):Uf P ⟨t,h⟩ (.tmp q::rs)=(Uf P ⟨t,h⟩ rs).map fun vs=>Ig t q::vs:=aaS rfl rfl
theorem akT{pr:Qk}{f:Nat}{fn:Func}{c:Code}{args:List AV}{h:Ab}{r:Eo × Ab}(hp:pr f=none)(hf:P.funcs[f]?=some fn)(hb:fn.body=some c)(hl:Nat.ble args.length fn.ntmps=true)
 (he:fnK P h.length fn.results.toList (Ed (om P pr) P 5000 c [] ⟨mk fn.ntmps (Bw args),h⟩)=some r):(om P pr).call (.fn f) args h=some r:=
 ap7 hp ((at7 hf hb (Nat.le_of_ble_eq_true hl) h).trans he)
def ac1(base:Nat)(x:Option (Eo × Ab)):Option Nr:=ac0 base x
theorem ar0(base:Nat)(v:AV):ac0 base (some (.ret v,[]))=if Bj 8 v=true then some ⟨.ret v,[],[]⟩else ac1 base (some (.ret v,[])):=by
 split
 ·rename_i h;exact akU h
 ·rfl
theorem anB(b:Bool):aUn .not (.bool b)=some (.bool !b):=aaS rfl rfl
theorem aoC(k:IntKind)(n:Int):aUn .neg (.int k n)=some (.int k (k.wrap (0-n))):=aaS rfl rfl
theorem akA(k k':IntKind)(x y:Int):dX (.int k x) (.int k' y)=some (.int k (if y<x then y else x)):=aaS rfl rfl
theorem agK(k k':IntKind)(x y:Int):dV (.int k x) (.int k' y)=some (.int k (if y>x then y else x)):=aaS rfl rfl
def Ao(n:Nat)(fl nn:Bool):List (List AV)→AV
 | []=>bif nn then .imm n fl []else .nils
 |r::rs=>.imm n fl (r::rs)
theorem mA(n:Nat)(fl nn:Bool)(r:List AV)(rs:List (List AV)):Ao n fl nn (r::rs)=.imm n fl (r::rs):=aaS rfl rfl
theorem Ej(d n:Nat)(fl nn:Bool)(rows:List (List AV)):Bj (d+1) (Ao n fl nn rows)=true:=by
 cases rows with
 |nil=>cases nn<;>rfl
 |cons r rs=>rfl
theorem atL(n:Nat)(fl nn:Bool)(rows:List (List AV))(l:List AV):oJ (Ao n fl nn rows::l)=false:=by
 cases rows with
 |nil=>cases nn<;>rfl
 |cons r rs=>rfl
theorem ai4(n:Nat)(fl nn:Bool)(rows:List (List AV)):AV.isCell (Ao n fl nn rows)=true:=by
 cases rows with
 |nil=>cases nn<;>rfl
 |cons r rs=>rfl
theorem ajF(n:Nat)(fl nn:Bool)(rows:List (List AV)):AV.flat (Ao n fl nn rows)=false:=by
 cases rows with
 |nil=>cases nn<;>rfl
 |cons r rs=>rfl
theorem zG(n:Nat)(fl nn:Bool)(rows:List (List AV)):acells (Ao n fl nn rows)=[Ao n fl nn rows]:=by
 cases rows with
 |nil=>cases nn<;>rfl
 |cons r rs=>rfl
theorem fO{ty:TypeId}{n:Nat}(hs:SlT P ty n)(fl nn:Bool)(rows:List (List AV)):ln P ty (some (Ao n fl nn rows))=some (.ret (.int .i64 rows.length),[]):=by
 cases rows with
 |nil=>cases nn
       ·exact kP hs
       ·exact agL hs _ _ _
 |cons r rs=>exact agL hs _ _ _
theorem fH{ty:TypeId}{n:Nat}(hs:SlT P ty n)(fl nn:Bool)(rows:List (List AV))(k:IntKind)(i:Int):ia P ty (some (Ao n fl nn rows)) (some (.int k i))=if 0≤i then r1 ((rows[i.toNat]?).map .iptr)else none:=by
 cases rows with
 |nil=>
  cases nn
  ·obtain⟨e,h1,h2⟩:=hs
   simp[ia,Ao,Of,h1,r1]
  ·exact ahX hs _ _ _ _
 |cons r rs=>exact ahX hs _ _ _ _
theorem Aj{n:Int}(h1: -9223372036854775808≤n)(h2:n<9223372036854775808):IntKind.i64.wrap n=n:=by
 simp only[IntKind.wrap,IntKind.bits,IntKind.signed]
 simp
 omega
end
section
variable {P:Program} {O:Gn} {pr:Qk}
theorem aw4{C:R→Prop}{n:Nat}{k:List Aq}{d:Option Nat}{op:Op}{cs:List CO}{b w:Bool}{t:List AV}{h:Ab}
 (h1:b=true→C (rcG O P n k d op cs (.bool true) w t h)) (h2:b=false→C (rcG O P n k d op cs (.bool false) w t h)):C (rcG O P n k d op cs (.bool b) w t h):=by
 cases b with
 |true=>exact h1 rfl
 |false=>exact h2 rfl
theorem axS{C:R→Prop}{n:Nat}{x y:Code}{k:List Aq}{g:Bool}{s:St}
 (h1:g=true→C (Ed O P n x k s)) (h2:g=false→C (Ed O P n y k s)):C (cdK O P n x y k (some (.bool g)) s):=by
 cases g with
 |true=>exact h1 rfl
 |false=>exact h2 rfl
def LpQ(O:Gn)(c:Code)(s:St)(Q:Ex→St→Prop):Prop:=∃e s',O.loop c s=some (e,s')∧Q e s'
def awC(O:Gn)(c:Code)(Q:Ex→St→Prop):R→Prop
 |some (.normal,s)=>LpQ O c s Q
 |some (e,s)=>Q e s
 |none=>False
theorem LpQ.of{c:Code}{s:St}{Q:Ex→St→Prop}(h:awC (om P pr) c Q (Ed (om P pr) P 5000 c [] s)):LpQ (om P pr) c s Q:=by
 cases hm:Ed (om P pr) P 5000 c [] s with
 |none=>rw[hm]at h;exact h.elim
 |some x=>
  obtain⟨e,s'⟩:=x
  rw[hm]at h
  cases e with
  |normal=>
   obtain⟨e,s'',h1,h2⟩:=h
   exact⟨e,s'',Za hm h1,h2⟩
  |exit i=>exact⟨_,_,Is hm (by simp),h⟩
  |ret=>exact⟨_,_,Is hm (by simp),h⟩
  |pan v=>exact⟨_,_,Is hm (by simp),h⟩
def FnE(P:Program)(q:Nat)(rs:List ResultVar)(Q:Eo→Ab→Prop)(x:R):Prop:=∃o h,fnK P q rs x=some (o,h)∧Q o h
def Rt(q:Nat)(vs:Option (List AV))(h:Ab)(Q:Eo→Ab→Prop):Prop:=∃o h',aiC q vs h=some (o,h')∧Q o h'
theorem yZ(q:Nat)(rs:List ResultVar)(Q:Eo→Ab→Prop)(t:List AV)(h:Ab):FnE P q rs Q (some (.ret,⟨t,h⟩))=Rt q (Uf P ⟨t,h⟩ rs) h Q:=aaS rfl rfl
theorem ae4(q:Nat)(rs:List ResultVar)(Q:Eo→Ab→Prop)(t:List AV)(h:Ab):FnE P q rs Q (some (.normal,⟨t,h⟩))=Rt q (Uf P ⟨t,h⟩ rs) h Q:=aaS rfl rfl
def Rt1(q:Nat)(vs:Option (List AV))(h:Ab)(Q:Eo→Ab→Prop):Prop:=Rt q vs h Q
theorem ayN(vs:List AV)(h:Ab)(Q:Eo→Ab→Prop):Rt 0 (some vs) h Q=if Bj 8 (Ui vs)=true then Q (.ret (Ui vs)) []else Rt1 0 (some vs) h Q:=by
 split
 ·rename_i hv
  unfold Rt
  rw[ad9 hv]
  exact propext ⟨fun⟨o,h',e,q⟩=>by cases e;exact q,fun q=>⟨_,_,rfl,q⟩⟩
 ·rfl
def Ql(O:Gn)(f:Nat)(args:List AV)(h:Ab)(Q:Eo→Ab→Prop):Prop:=∃o h',O.call (.fn f) args h=some (o,h')∧Q o h'
theorem Ql.start{f:Nat}{fn:Func}{c:Code}{args:List AV}{h:Ab}{Q:Eo→Ab→Prop}(hp:pr f=none)(hf:P.funcs[f]?=some fn)(hb:fn.body=some c)(hl:Nat.ble args.length fn.ntmps=true)
 (he:FnE P h.length fn.results.toList Q (Ed (om P pr) P 5000 c [] ⟨mk fn.ntmps (Bw args),h⟩)):Ql (om P pr) f args h Q:=by
 obtain⟨o,h',e,q⟩:=he
 exact⟨o,h',akT hp hf hb hl e,q⟩
theorem Ql.eq{f:Nat}{args:List AV}{h:Ab}{o:Eo}{h':Ab}(k:Ql O f args h fun o1 h1=>(o1,h1)=(o,h')):O.call (.fn f) args h=some (o,h'):=by
 obtain⟨o1,h1,e,q⟩:=k
 rw[e,q]
def aj1(O:Gn)(g:HF)(base:Nat)(f:Vy)(args:List AV):Option Nr:=Ew O g base f args
theorem agD(g:HF)(base:Nat)(f:Vy)(args:List AV):Ew O g base f args=if args.all (Bj 8)=true then ac0 base (O.call f args [])else aj1 O g base f args:=by
 split
 ·rename_i h;exact iH h
 ·rfl
theorem apH(d:Nat)(b:Bool):Bj (d+1) (.bool b)=true:=aaS rfl rfl
theorem Qi(d:Nat)(k:IntKind)(n:Int):Bj (d+1) (.int k n)=true:=aaS rfl rfl
theorem anZ(d:Nat):Bj (d+1) .nils=true:=aaS rfl rfl
theorem arR(d n:Nat)(fl:Bool)(rows:List (List AV)):Bj (d+1) (.imm n fl rows)=true:=aaS rfl rfl
theorem auG(d b r o:Nat):Bj (d+1) (.ptr b r o)=false:=aaS rfl rfl
theorem atG(d a b r o:Nat):Bj (d+1) (.slr a b r o)=false:=aaS rfl rfl
theorem Ju(d:Nat)(cs:List AV):Bj (d+1) (.agg cs)=cs.all (Bj d):=aaS rfl rfl
theorem aqV(d:Nat)(cs:List AV):Bj (d+1) (.tup cs)=cs.all (Bj d):=aaS rfl rfl
theorem amC(d:Nat)(fn:Fn)(a b:List AV):Bj (d+1) (.func fn a b)=(a.all (Bj d)&&b.all (Bj d)):=aaS rfl rfl
theorem alL(b:Bool):AV.isCell (.bool b)=true:=aaS rfl rfl
theorem aqL(k:IntKind)(n:Int):AV.isCell (.int k n)=true:=aaS rfl rfl
theorem aoT:AV.isCell .nils=true:=aaS rfl rfl
theorem aoW:AV.isCell .nilf=true:=aaS rfl rfl
theorem ar1(n:Nat)(fl:Bool)(rows:List (List AV)):AV.isCell (.imm n fl rows)=true:=aaS rfl rfl
theorem asT(a b r o:Nat):AV.isCell (.slr a b r o)=true:=aaS rfl rfl
theorem aqQ(b r o:Nat):AV.isCell (.ptr b r o)=true:=aaS rfl rfl
theorem anS(f:Fn)(a b:List AV):AV.isCell (.func f a b)=true:=aaS rfl rfl
theorem amH(b:Bool):AV.flat (.bool b)=true:=aaS rfl rfl
theorem as7(k:IntKind)(n:Int):AV.flat (.int k n)=true:=aaS rfl rfl
theorem alY:AV.flat .nils=false:=aaS rfl rfl
theorem amZ:AV.flat .nilf=false:=aaS rfl rfl
theorem auZ(n:Nat)(fl:Bool)(rows:List (List AV)):AV.flat (.imm n fl rows)=false:=aaS rfl rfl
theorem asC(a b r o:Nat):AV.flat (.slr a b r o)=false:=aaS rfl rfl
theorem auO(b r o:Nat):AV.flat (.ptr b r o)=false:=aaS rfl rfl
theorem alK(f:Fn)(a b:List AV):AV.flat (.func f a b)=false:=aaS rfl rfl
theorem ar8(cs:List AV):acells (.agg cs)=cs:=aaS rfl rfl
theorem aq5(k:IntKind)(n:Int):acells (.int k n)=[.int k n]:=aaS rfl rfl
theorem apF:acells .nils=[.nils]:=aaS rfl rfl
theorem anX:acells .nilf=[.nilf]:=aaS rfl rfl
theorem as5(a b r o:Nat):acells (.slr a b r o)=[.slr a b r o]:=aaS rfl rfl
theorem auW(b r o:Nat):acells (.ptr b r o)=[.ptr b r o]:=aaS rfl rfl
theorem al2(f:Fn)(a b:List AV):acells (.func f a b)=[.func f a b]:=aaS rfl rfl
end
end Go.Ev
