/- The evaluator and its soundness. -/
import Derived.Test.YtdbiogihimdpcaaGreatDoorLibB
import Derived.OrdersIn
import Derived.RangeFuncNested
set_option linter.unusedSimpArgs false
set_option linter.unusedVariables false
/- Edits that commute; heaps that agree on what an operation looks at; an operation over an agreeing heap. -/
namespace Go.Ev
open Go.RowKit
theorem setCells_comm(cs:List AV){vs us:List AV}{o p:Nat}(hd:o+vs.length≤p∨p+us.length≤o):
 setCells (setCells cs o vs) p us=setCells (setCells cs p us) o vs:=by
 apply List.ext_getElem?
 intro j
 rw[setCells_at (setCells cs o vs),setCells_at (setCells cs p us),setCells_at cs vs,setCells_at cs us,setCells_len,setCells_len]
 by_cases a1:p≤j∧j<p+us.length∧j<cs.length
 ·rw[if_pos a1,if_neg (by omega),if_pos a1]
 ·rw[if_neg a1]
  by_cases a2:o≤j∧j<o+vs.length∧j<cs.length
  ·rw[if_pos a2,if_pos a2]
  ·rw[if_neg a2,if_neg a2,if_neg a1]
theorem setRow_comm(rows:List (List AV)){r q:Nat}{vs us:List AV}{o p:Nat}(hd:o+vs.length≤p∨p+us.length≤o):
 setRow (setRow rows r o vs) q p us=setRow (setRow rows q p us) r o vs:=by
 unfold setRow
 by_cases hrq:r=q
 ·subst hrq
  cases h:rows[r]? with
  |none=>simp[h]
  |some cs=>
   have hr:r<rows.length:=(List.getElem?_eq_some_iff.1 h).1
   simp[hr,setCells_comm cs hd]
 ·cases h:rows[r]? with
  |none=>
   cases h2:rows[q]? with
   |none=>simp[h,h2]
   |some cs2=>simp[List.getElem?_set,Ne.symm hrq,h,h2]
  |some cs=>
   cases h2:rows[q]? with
   |none=>simp[List.getElem?_set,hrq,h,h2]
   |some cs2=>simp only[List.getElem?_set,hrq,Ne.symm hrq,if_false,h,h2];rw[List.set_comm _ _ hrq]
/-- An edit, seen at its block. -/
def HEdit.eff:HEdit→Option CB→Option CB
 | .new _ c,_=>some c
 | .put _ c,_=>some c
 | .cells _ r o vs,x=>match x with
   |some (.live st fl _ rows)=>some (.live st (fl&&vs.all AV.flat) true (setRow rows r o vs))
   |x=>x
theorem fapp1_at(g:HF)(e:HEdit)(i:Nat):fapp1 g e i=if i=e.id then e.eff (g i)else g i:=by
 cases e with
 |new b c=>by_cases hi:i=b<;>simp[fapp1,upd,HEdit.id,HEdit.eff,hi]
 |put b c=>by_cases hi:i=b<;>simp[fapp1,upd,HEdit.id,HEdit.eff,hi]
 |cells b r o vs=>
  by_cases hi:i=b
  ·subst hi
   simp only[fapp1,HEdit.id,HEdit.eff,if_true]
   cases hg:g i with
   |none=>simp[hg]
   |some c=>cases c<;>simp[hg,upd]
  ·have e:∀(x:Option CB) (y:HF),(match x with
    |some (.live st fl _ rows)=>upd y b (.live st (fl&&vs.all AV.flat) true (setRow rows r o vs))
    |_=>y) i=y i:=fun x y=>by
    cases x with
    |none=>rfl
    |some c=>cases c<;>simp[upd,hi]
   rw[if_neg (show ¬i=(HEdit.cells b r o vs).id from hi)]
   exact e (g b) g
theorem eff_comm{e e':HEdit}(hid:e.id=e'.id)(h:e.foot.meets e'.foot=false)(x:Option CB):e'.eff (e.eff x)=e.eff (e'.eff x):=by
 cases e<;>cases e'<;>simp[HEdit.id]at hid<;>subst hid<;>simp[HEdit.foot,Foot.meets]at h
 rename_i b r o vs r' o' vs'
 cases x with
 |none=>rfl
 |some c=>
  cases c with
  |live st fl w rows=>
   simp only[HEdit.eff]
   rw[setRow_comm rows (by omega)]
   rw[Bool.and_assoc,Bool.and_comm (vs.all AV.flat),←Bool.and_assoc]
  |_=>rfl
theorem fapp1_comm(g:HF){e e':HEdit}(h:e.foot.meets e'.foot=false):fapp1 (fapp1 g e) e'=fapp1 (fapp1 g e') e:=by
 funext i
 rw[fapp1_at,fapp1_at,fapp1_at,fapp1_at]
 by_cases h1:i=e'.id
 ·by_cases h2:i=e.id
  ·rw[if_pos h1,if_pos h2,if_pos h2,if_pos h1];exact eff_comm (h2.symm.trans h1) h _
  ·rw[if_pos h1,if_neg h2,if_neg h2,if_pos h1]
 ·by_cases h2:i=e.id
  ·rw[if_neg h1,if_pos h2,if_pos h2,if_neg h1]
  ·rw[if_neg h1,if_neg h2,if_neg h2,if_neg h1]
theorem fapp_comm1(g:HF){e:HEdit}:∀{es:List HEdit},(∀x∈es,e.foot.meets x.foot=false)→fapp (fapp1 g e) es=fapp1 (fapp g es) e
 | [],_=>rfl
 |x::es,h=>by
  simp only[fapp]
  rw[fapp1_comm g (h x (List.mem_cons_self ..))]
  exact fapp_comm1 (fapp1 g x) (fun y hy=>h y (List.mem_cons_of_mem _ hy))
theorem fapp_comm:∀{es es':List HEdit} (g:HF),(∀x∈es,∀y∈es',x.foot.meets y.foot=false)→fapp (fapp g es) es'=fapp (fapp g es') es
 | [],es',g,_=>rfl
 |e::es,es',g,h=>by
  simp only[fapp]
  rw[fapp_comm (fapp1 g e) (fun x hx=>h x (List.mem_cons_of_mem _ hx)),fapp_comm1 g (h e (List.mem_cons_self ..))]
/-- What one sees of a block through a range of offsets in its rows. -/
inductive CAgree(o n:Nat):Option CB→Option CB→Prop
 |refl (x:Option CB):CAgree o n x x
 |live {st st':Nat} {fl fl' w w':Bool} {rows rows':List (List AV)}:rows.length=rows'.length→
   (∀(r:Nat) cs cs',rows[r]?=some cs→rows'[r]?=some cs'→cs.length=cs'.length∧∀j,o≤j→j<o+n→cs[j]?=cs'[j]?)→CAgree o n (some (.live st fl w rows)) (some (.live st' fl' w' rows'))
def FAgree(g g':HF):Foot→Prop
 | .blk b=>g' b=g b
 | .cells b o n=>CAgree o n (g b) (g' b)
 | .all=>g'=g
theorem CAgree.trans{o n:Nat}{x y z:Option CB}(h:CAgree o n x y)(k:CAgree o n y z):CAgree o n x z:=by
 cases h with
 |refl=>exact k
 |live a b=>
  cases k with
  |refl=>exact .live a b
  |live c d=>
   refine .live (a.trans c) (fun r cs cs' h1 h2=>?_)
   have hr:=(List.getElem?_eq_some_iff.1 h1).1
   have h3:=List.getElem?_eq_getElem (a▸hr)
   obtain⟨b1,b2⟩:=b r _ _ h1 h3
   obtain⟨d1,d2⟩:=d r _ _ h3 h2
   exact⟨b1.trans d1,fun j q1 q2=>(b2 j q1 q2).trans (d2 j q1 q2)⟩
theorem FAgree.refl(g:HF)(f:Foot):FAgree g g f:=by
 cases f with
 |blk b=>rfl
 |cells b o n=>exact CAgree.refl _
 |all=>rfl
theorem FAgree.trans{g g' g'':HF}{f:Foot}(h:FAgree g g' f)(k:FAgree g' g'' f):FAgree g g'' f:=by
 cases f with
 |blk b=>exact Eq.trans k h
 |cells b o n=>exact CAgree.trans h k
 |all=>exact Eq.trans k h
theorem setRow_length(rows:List (List AV))(r o:Nat)(vs:List AV):(setRow rows r o vs).length=rows.length:=by
 unfold setRow;split<;>simp
theorem setRow_get{rows:List (List AV)}{r o:Nat}{vs:List AV}{q:Nat}{cs':List AV}(h:(setRow rows r o vs)[q]?=some cs'):∃cs,rows[q]?=some cs∧cs'=if q=r then setCells cs o vs else cs:=by
 unfold setRow at h
 split at h
 ·rename_i cs hr
  rw[List.getElem?_set]at h
  by_cases hq:r=q
  ·subst hq
   have hlt:r<rows.length:=(List.getElem?_eq_some_iff.1 hr).1
   simp[hlt]at h;subst h
   exact⟨cs,hr,by simp⟩
  ·rw[if_neg hq]at h;exact⟨cs',h,by rw[if_neg (Ne.symm hq)]⟩
 ·rename_i hr
  refine⟨cs',h,?_⟩
  rw[if_neg (fun e=>by subst e;rw[hr]at h;cases h)]
/-- An edit that does not meet what is looked at. -/
theorem FAgree.edit(g:HF){e:HEdit}{f:Foot}(h:e.foot.meets f=false):FAgree g (fapp1 g e) f:=by
 cases f with
 |all=>cases e<;>simp[HEdit.foot,Foot.meets]at h
 |blk b=>
  show fapp1 g e b=g b
  rw[fapp1_at,if_neg]
  intro hb
  cases e<;>simp[HEdit.foot,Foot.meets,HEdit.id]at h hb<;>omega
 |cells b o n=>
  show CAgree o n (g b) (fapp1 g e b)
  rw[fapp1_at]
  by_cases hb:b=e.id
  ·rw[if_pos hb]
   cases e with
   |new b' c=>simp[HEdit.foot,Foot.meets,HEdit.id]at h hb;omega
   |put b' c=>simp[HEdit.foot,Foot.meets,HEdit.id]at h hb;omega
   |cells b' r o' vs=>
    simp only[HEdit.id]at hb
    subst hb
    simp only[HEdit.foot,Foot.meets,beq_self_eq_true,Bool.true_and,Bool.and_eq_false_iff,decide_eq_false_iff_not]at h
    cases hg:g b with
    |none=>exact .refl _
    |some c=>
     cases c with
     |live st fl w rows=>
      refine .live (setRow_length ..).symm (fun q cs cs' h1 h2=>?_)
      obtain⟨cs0,k1,k2⟩:=setRow_get h2
      rw[h1]at k1;cases k1
      subst k2
      by_cases hq:q=r
      ·rw[if_pos hq]
       refine⟨(setCells_len ..).symm,fun j q1 q2=>?_⟩
       rw[setCells_at,if_neg (by omega)]
      ·rw[if_neg hq];exact⟨rfl,fun _ _ _=>rfl⟩
     |_=>exact .refl _
  ·rw[if_neg hb];exact .refl _
/-- The same edit on both sides. -/
theorem FAgree.both{g g':HF}{f:Foot}(h:FAgree g g' f)(e:HEdit):FAgree (fapp1 g e) (fapp1 g' e) f:=by
 cases f with
 |all=>show fapp1 g' e=fapp1 g e;rw[show g'=g from h]
 |blk b=>
  show fapp1 g' e b=fapp1 g e b
  rw[fapp1_at,fapp1_at,show g' b=g b from h]
 |cells b o n=>
  show CAgree o n (fapp1 g e b) (fapp1 g' e b)
  have h':CAgree o n (g b) (g' b):=h
  rw[fapp1_at,fapp1_at]
  by_cases hb:b=e.id
  ·rw[if_pos hb,if_pos hb]
   generalize g b=x at h'
   generalize g' b=y at h'
   cases e with
   |new b' c=>exact .refl _
   |put b' c=>exact .refl _
   |cells b' r o' vs=>
    cases h' with
    |refl=>exact .refl _
    |live a d=>
     refine .live (by rw[setRow_length,setRow_length];exact a) (fun q cs cs' h1 h2=>?_)
     obtain⟨c1,k1,k2⟩:=setRow_get h1
     obtain⟨c2,k3,k4⟩:=setRow_get h2
     obtain⟨d1,d2⟩:=d q c1 c2 k1 k3
     subst k2 k4
     by_cases hq:q=r
     ·rw[if_pos hq,if_pos hq]
      refine⟨by rw[setCells_len,setCells_len];exact d1,fun j q1 q2=>?_⟩
      rw[setCells_at,setCells_at,d1]
      split
      ·rfl
      ·exact d2 j q1 q2
     ·rw[if_neg hq,if_neg hq];exact⟨d1,d2⟩
  ·rw[if_neg hb,if_neg hb];exact h'
theorem FAgree.edits{f:Foot}:∀{es:List HEdit} (g:HF),(∀e∈es,e.foot.meets f=false)→FAgree g (fapp g es) f
 | [],g,_=>.refl g f
 |e::es,g,h=>(FAgree.edit g (h e (List.mem_cons_self ..))).trans (FAgree.edits _ (fun x hx=>h x (List.mem_cons_of_mem _ hx)))
theorem FAgree.boths{f:Foot}:∀{es:List HEdit} {g g':HF},FAgree g g' f→FAgree (fapp g es) (fapp g' es) f
 | [],_,_,h=>h
 |e::es,_,_,h=>FAgree.boths (es:=es) (h.both e)
theorem FAgree.symm{g g':HF}{f:Foot}(h:FAgree g g' f):FAgree g' g f:=by
 cases f with
 |all=>exact Eq.symm h
 |blk b=>exact Eq.symm h
 |cells b o n=>
  have h':CAgree o n (g b) (g' b):=h
  show CAgree o n (g' b) (g b)
  generalize g b=x at h'
  generalize g' b=y at h'
  cases h' with
  |refl=>exact .refl _
  |live a d=>exact .live a.symm (fun r cs cs' h1 h2=>⟨(d r cs' cs h2 h1).1.symm,fun j q1 q2=>((d r cs' cs h2 h1).2 j q1 q2).symm⟩)
section
variable {P:Program}
theorem evalOs_congr{t t':List AV}:∀{xs:List Operand},(∀x∈xs,evalO t x=evalO t' x)→evalOs t xs=evalOs t' xs
 | [],_=>rfl
 |x::xs,h=>by
  simp only[evalOs]
  rw[h x (List.mem_cons_self ..),evalOs_congr (fun y hy=>h y (List.mem_cons_of_mem _ hy))]
theorem optO_congr{t t':List AV}{x:Option Operand}(h:∀y,x=some y→evalO t y=evalO t' y):optO t x=optO t' x:=by
 cases x with
 |none=>rfl
 |some y=>simp only[optO];rw[h y rfl]
theorem exec_tmps{g:HF}{base:Nat}{t t':List AV}{o:Op}(h:∀x∈o.operands.toList,evalO t x=evalO t' x):exec P g base t o=exec P g base t' o:=by
 cases o with
 |alloc t=>rfl
 |build ty ps=>simp only[exec];rw[evalOs_congr (t:=t) (t':=t') (xs:=ps.toList.map (·.2)) (fun x hx=>h x (by simp only[Op.operands];exact hx))]
 |buildSlice ty n ps=>simp only[exec];rw[evalOs_congr (t:=t) (t':=t') (xs:=ps.toList.map (·.2)) (fun x hx=>h x (by simp only[Op.operands];exact hx))]
 |makeFunc fn xs ys=>
  cases fn with
  |func f=>
   simp only[exec]
   rw[evalOs_congr (xs:=xs.toList) (fun x hx=>h x (by simp[Op.operands];exact .inl (by simpa using hx))),evalOs_congr (xs:=ys.toList) (fun x hx=>h x (by simp[Op.operands];exact .inr (by simpa using hx)))]
  |_=>simp[exec]
 |slice ty x lo hi mx=>
  cases mx with
  |some m=>simp[exec]
  |none=>
   simp only[exec]
   rw[h x (by simp[Op.operands]),optO_congr (x:=lo) (fun y hy=>h y (by subst hy;simp[Op.operands])),optO_congr (x:=hi) (fun y hy=>h y (by subst hy;simp[Op.operands]))]
 |call c=>
  obtain⟨cal,args,ts⟩:=c
  cases cal with
  |builtin b=>simp only[exec];rw[evalOs_congr (xs:=args.toList) (fun x hx=>h x (by simpa [Op.operands,Call.operands]using hx))]
  |_=>simp[exec]
 |pick c a b=>simp only[exec];rw[h c (by simp[Op.operands]),h a (by simp[Op.operands]),h b (by simp[Op.operands])]
 |store _ a b=>simp only[exec];rw[h a (by simp[Op.operands]),h b (by simp[Op.operands])]
 |binOp _ _ a b _=>simp only[exec];rw[h a (by simp[Op.operands]),h b (by simp[Op.operands])]
 |makeSlice _ a b=>simp only[exec];rw[h a (by simp[Op.operands]),h b (by simp[Op.operands])]
 |indexAddr _ a b=>simp only[exec];rw[h a (by simp[Op.operands]),h b (by simp[Op.operands])]
 |index _ a b=>simp only[exec];rw[h a (by simp[Op.operands]),h b (by simp[Op.operands])]
 |move a=>simp only[exec];rw[h a (by simp[Op.operands])]
 |assign a=>simp only[exec];rw[h a (by simp[Op.operands])]
 |box _ a=>simp only[exec];rw[h a (by simp[Op.operands])]
 |load _ a=>simp only[exec];rw[h a (by simp[Op.operands])]
 |nilCheck a=>simp only[exec];rw[h a (by simp[Op.operands])]
 |unOp _ _ a=>simp only[exec];rw[h a (by simp[Op.operands])]
 |convert _ _ a=>simp only[exec];rw[h a (by simp[Op.operands])]
 |makeInterface _ a=>simp only[exec];rw[h a (by simp[Op.operands])]
 |fieldAddr _ a _=>simp only[exec];rw[h a (by simp[Op.operands])]
 |field _ a _=>simp only[exec];rw[h a (by simp[Op.operands])]
 |extract a _=>simp only[exec];rw[h a (by simp[Op.operands])]
 |_=>rfl
theorem callee_tmps{t t':List AV}{c:Call}(h:∀x∈c.operands.toList,evalO t x=evalO t' x):callee t c=callee t' c:=by
 obtain⟨cal,args,ts⟩:=c
 cases cal with
 |value f=>simp only[callee];rw[h f (by simp[Call.operands]),evalOs_congr (xs:=args.toList) (fun x hx=>h x (by simp[Call.operands];exact .inr (by simpa using hx)))]
 |_=>rfl
/-- Reading a row through a range of offsets. -/
theorem CAgree.row{o n:Nat}{g g':HF}{b:Nat}(h:CAgree o n (g b) (g' b)){r:Nat}{cs:List AV}(hr:rowOf g b r=some cs):
 ∃cs',rowOf g' b r=some cs'∧cs'.length=cs.length∧∀j,o≤j→j<o+n→cs'[j]?=cs[j]?:=by
 unfold rowOf at hr ⊢
 generalize g b=x at h hr
 generalize g' b=y at h
 cases h with
 |refl=>exact⟨cs,hr,rfl,fun _ _ _=>rfl⟩
 | @live st st' fl fl' w w' rows rows' a d=>
   simp only at hr ⊢
   have hlt:=(List.getElem?_eq_some_iff.1 hr).1
   have h3:=List.getElem?_eq_getElem (a▸hlt)
   obtain⟨d1,d2⟩:=d r _ _ hr h3
   exact⟨_,h3,d1.symm,fun j q1 q2=>(d2 j q1 q2).symm⟩
theorem take_drop_ext{cs cs':List AV}{o n:Nat}(h1:cs'.length=cs.length)(h2:∀j,o≤j→j<o+n→cs'[j]?=cs[j]?):(cs'.drop o).take n=(cs.drop o).take n:=by
 apply List.ext_getElem?
 intro j
 rw[List.getElem?_take,List.getElem?_take]
 split
 ·rw[List.getElem?_drop,List.getElem?_drop];exact h2 _ (by omega) (by omega)
 ·rfl
theorem aLoad_loc{g g':HF}{t:TypeId}{p:AV}{d:Did}(h:aLoad P g t p=some d)(ha:∀f∈d.fs,FAgree g g' f):aLoad P g' t p=some d:=by
 unfold aLoad at h ⊢
 simp only[Option.bind_eq_some_iff]at h ⊢
 obtain⟨isA,h1,n,h2,h⟩:=h
 refine⟨isA,h1,n,h2,?_⟩
 cases p with
 |iptr cs=>cases isA<;>cases cs<;>exact h
 |ptr b r o=>
  cases isA with
  |true=>
   simp only[Option.bind_eq_some_iff]at h ⊢
   obtain⟨cs,h3,h⟩:=h
   split at h<;>simp at h
   rename_i hle
   subst h
   obtain⟨cs',k1,k2,k3⟩:=CAgree.row (ha (.cells b o n) (List.mem_singleton.2 rfl)) h3
   exact⟨cs',k1,by rw[if_pos (by omega),take_drop_ext k2 k3]⟩
  |false=>
   simp only[Option.bind_eq_some_iff,Option.map_eq_some_iff]at h ⊢
   obtain⟨cs,h3,v,h4,rfl⟩:=h
   obtain⟨cs',k1,k2,k3⟩:=CAgree.row (ha (.cells b o 1) (List.mem_singleton.2 rfl)) h3
   exact⟨cs',k1,v,by rw[k3 o (Nat.le_refl _) (by omega)];exact h4,rfl⟩
 |_=>cases isA<;>simp at h
theorem aStore_loc{g g':HF}{t:TypeId}{p v:AV}{d:Did}(h:aStore P g t p v=some d)(ha:∀f∈d.fs,FAgree g g' f):aStore P g' t p v=some d:=by
 unfold aStore at h ⊢
 simp only[Option.bind_eq_some_iff]at h ⊢
 obtain⟨n,h2,h⟩:=h
 refine⟨n,h2,?_⟩
 cases p with
 |ptr b r o=>
  simp only at h ⊢
  split at h
  ·rename_i st fl w rows hg
   simp only[Option.bind_eq_some_iff]at h
   obtain⟨cs,h3,h⟩:=h
   split at h<;>simp at h
   rename_i hc
   subst h
   have hA:CAgree o n (g b) (g' b):=ha (.cells b o n) (List.mem_singleton.2 rfl)
   rw[hg]at hA
   generalize hy:g' b=y at hA
   cases hA with
   |refl=>simp only[Option.bind_eq_some_iff];exact⟨cs,h3,by rw[if_pos hc]⟩
   | @live _ _ _ _ _ _ _ rows' a d=>
     have hlt:=(List.getElem?_eq_some_iff.1 h3).1
     have h4:=List.getElem?_eq_getElem (a▸hlt)
     obtain⟨d1,d2⟩:=d r _ _ h3 h4
     simp only[Option.bind_eq_some_iff]
     exact⟨_,h4,by rw[if_pos (by rw[←d1];exact hc)]⟩
  ·simp at h
 |_=>simp at h
theorem rowsOf_congr{g g':HF}{b r len:Nat}(h:g' b=g b):rowsOf g' b r len=rowsOf g b r len:=by unfold rowsOf;rw[h]
theorem srcRows_loc{g g':HF}{e:TypeId}{x:AV}{fl:Bool}{rows:List (List AV)}{fs:List Foot}(h:srcRows P g e x=some (fl,rows,fs))(ha:∀f∈fs,FAgree g g' f):srcRows P g' e x=some (fl,rows,fs):=by
 cases x with
 |slr st b r len=>
  simp only[srcRows,Option.bind_eq_some_iff]at h ⊢
  obtain⟨⟨st',fl',rows'⟩,h1,h⟩:=h
  simp only at h
  split at h<;>simp at h
  rename_i hs
  obtain⟨rfl,rfl,rfl⟩:=h
  refine⟨_,by rw[rowsOf_congr (ha (.blk b) (List.mem_singleton.2 rfl))];exact h1,?_⟩
  simp only;rw[if_pos hs]
 |_=>exact h
theorem aAppend_loc{g g':HF}{base:Nat}{t:TypeId}{s x:AV}{d:Did}(h:aAppend P g base t s x=some d)(ha:∀f∈d.fs,FAgree g g' f):aAppend P g' base t s x=some d:=by
 unfold aAppend at h ⊢
 simp only[Option.bind_eq_some_iff]at h ⊢
 obtain⟨e,h1,n,h2,by_,h3,z,h4,⟨nfl,new,fs⟩,h5,h⟩:=h
 have hfs:(∀f∈fs,f∈d.fs):=by
  simp only at h
  split at h
  ·simp at h
  ·split at h
   ·split at h<;>simp at h<;>subst h<;>exact fun f hf=>hf
   ·split at h<;>simp at h
    subst h;exact fun f hf=>hf
   ·split at h
    ·split at h<;>simp at h
     subst h;exact fun f hf=>List.mem_cons_of_mem _ hf
    ·simp at h
   ·simp at h
 refine⟨e,h1,n,h2,by_,h3,z,h4,(nfl,new,fs),srcRows_loc h5 (fun f hf=>ha f (hfs f hf)),?_⟩
 simp only at h ⊢
 split at h
 ·simp at h
 ·rename_i hn
  rw[if_neg hn]
  cases new with
  |nil=>exact h
  |cons n0 new=>
   cases s with
   |slr st b r len=>
    simp only at h ⊢
    split at h
    ·rename_i st' fl' w' rows' hg
     split at h
     ·rename_i hc
      simp at h
      subst h
      have hb:g' b=g b:=ha (.blk b) (List.mem_cons_self ..)
      rw[hb,hg]
      simp only
      rw[if_pos hc]
      rfl
     ·simp at h
    ·simp at h
   |_=>exact h
theorem exec_loc{g g':HF}{base:Nat}{t:List AV}{o:Op}{d:Did}(h:exec P g base t o=some d)(ha:∀f∈d.fs,FAgree g g' f):exec P g' base t o=some d:=by
 cases o with
 |load ty x=>
  simp only[exec,Option.bind_eq_some_iff]at h ⊢
  obtain⟨p,h1,h2⟩:=h
  exact⟨p,h1,aLoad_loc h2 ha⟩
 |store ty x y=>
  simp only[exec,Option.bind_eq_some_iff]at h ⊢
  obtain⟨p,h1,v,h2,h3⟩:=h
  exact⟨p,h1,v,h2,aStore_loc h3 ha⟩
 |makeFunc fn xs ys=>cases fn<;>exact h
 |slice ty x lo hi mx=>cases mx<;>exact h
 |call c=>
  obtain⟨cal,args,ts⟩:=c
  cases cal with
  |builtin b=>
   simp only[exec,Option.bind_eq_some_iff]at h ⊢
   obtain⟨vs,h1,h⟩:=h
   refine⟨vs,h1,?_⟩
   split at h
   ·exact h
   ·simp only[Option.bind_eq_some_iff]at h ⊢
    obtain⟨t0,h2,t1,h3,h⟩:=h
    refine⟨t0,h2,t1,h3,?_⟩
    split at h
    ·exact aAppend_loc h ha
    ·exact aAppend_loc h ha
    ·simp at h
   ·exact h
   ·exact h
   ·exact h
   ·exact h
   ·simp at h
  |_=>exact h
 |_=>exact h
/-- Where an operation makes a block it makes it at the place it is told; where it makes none the place is of no account. -/
def BaseOK(base:Nat)(F:Nat→Option Did)(d:Did):Prop:=(∀b c,HEdit.new b c∈d.es→b=base)∧((∀b c,HEdit.new b c∉d.es)→∀base',F base'=some d)
theorem aNew_base{base:Nat}{v:AV}{d:Did}(h:aNew base v=some d):BaseOK base (fun b=>aNew b v) d:=by
 unfold aNew at h
 split at h<;>simp at h
 subst h
 exact⟨fun b c hb=>by simp at hb;exact hb.1,fun hn=>(hn _ _ (List.mem_singleton.2 rfl)).elim⟩
theorem aBuildSlice_base{base:Nat}{t:TypeId}{len:Nat}{parts:List (Nat × AV)}{d:Did}(h:aBuildSlice P base t len parts=some d):BaseOK base (fun b=>aBuildSlice P b t len parts) d:=by
 unfold aBuildSlice at h
 simp only[Option.bind_eq_some_iff]at h
 obtain⟨e,h1,n,h2,z,h3,h⟩:=h
 split at h
 ·simp at h
 ·obtain⟨rows,h4,h⟩:=Option.bind_eq_some_iff.1 h
  split at h<;>simp at h
  subst h
  exact⟨fun b c hb=>by simp at hb;exact hb.1,fun hn=>(hn _ _ (List.mem_singleton.2 rfl)).elim⟩
theorem aMakeSlice_base{base:Nat}{t:TypeId}{l c:AV}{d:Did}(h:aMakeSlice P base t l c=some d):BaseOK base (fun b=>aMakeSlice P b t l c) d:=by
 unfold aMakeSlice at h
 simp only[Option.bind_eq_some_iff]at h
 obtain⟨e,h1,n,h2,b,h3,z,h4,h⟩:=h
 split at h
 ·split at h<;>simp at h
  subst h
  exact⟨fun b c hb=>by simp at hb;exact hb.1,fun hn=>(hn _ _ (List.mem_singleton.2 rfl)).elim⟩
 ·simp at h
theorem aAppend_base{g:HF}{base:Nat}{t:TypeId}{s x:AV}{d:Did}(h:aAppend P g base t s x=some d):BaseOK base (fun b=>aAppend P g b t s x) d:=by
 have h0:=h
 unfold aAppend at h
 simp only[Option.bind_eq_some_iff]at h
 obtain⟨e,h1,n,h2,by_,h3,z,h4,⟨nfl,new,fs⟩,h5,h⟩:=h
 simp only at h
 split at h
 ·simp at h
 ·rename_i hn
  cases new with
  |nil=>
   refine⟨fun b c hb=>?_,fun _ base'=>?_⟩
   ·simp only at h
    split at h<;>simp at h<;>subst h<;>simp at hb
   ·unfold aAppend
    simp only[Option.bind_eq_some_iff]
    refine⟨e,h1,n,h2,by_,h3,z,h4,(nfl,[],fs),h5,?_⟩
    simp only;rw[if_neg hn];exact h
  |cons n0 new=>
   cases s with
   |nils=>
    simp only at h
    split at h<;>simp at h
    subst h
    exact⟨fun b c hb=>by simp at hb;exact hb.1,fun hn=>(hn _ _ (List.mem_singleton.2 rfl)).elim⟩
   |slr st b r len=>
    simp only at h
    split at h
    ·split at h<;>simp at h
     subst h
     exact⟨fun b c hb=>by simp at hb;exact hb.1,fun hn=>(hn _ _ (List.mem_cons_of_mem _ (List.mem_singleton.2 rfl))).elim⟩
    ·simp at h
   |_=>simp at h
theorem exec_base{g:HF}{base:Nat}{t:List AV}{o:Op}{d:Did}(h:exec P g base t o=some d):BaseOK base (fun b=>exec P g b t o) d:=by
 have still:(∀base',exec P g base' t o=exec P g base t o)→d.es=[]→BaseOK base (fun b=>exec P g b t o) d:=fun h1 h2=>
  ⟨fun b c hb=>by rw[h2]at hb;simp at hb,fun _ base'=>(h1 base').trans h⟩
 have pure':∀{x:Option AV} {d:Did},purely x=some d→d.es=[]:=fun hx=>by
  obtain⟨v,_,rfl⟩:=Option.map_eq_some_iff.1 hx;rfl
 have lift:∀{α:Type} {x:Option α} {F:Nat→α→Option Did} (v:α),x=some v→BaseOK base (fun b=>F b v) d→BaseOK base (fun b=>x.bind (F b)) d:=fun v hv k=>by
  subst hv;exact k
 have goodE:(∀(he:exec P g base t o=some d),d.es=[])→(∀base',exec P g base' t o=exec P g base t o)→BaseOK base (fun b=>exec P g b t o) d:=fun h1 h2=>still h2 (h1 h)
 cases o with
 |alloc ty=>obtain⟨z,h1,h⟩:=Option.bind_eq_some_iff.1 h;exact lift z h1 (aNew_base h)
 |box ty x=>obtain⟨z,h1,h⟩:=Option.bind_eq_some_iff.1 h;exact lift z h1 (aNew_base h)
 |buildSlice ty n ps=>obtain⟨z,h1,h⟩:=Option.bind_eq_some_iff.1 h;exact lift z h1 (aBuildSlice_base h)
 |makeSlice ty x y=>
  obtain⟨p,h1,h⟩:=Option.bind_eq_some_iff.1 h
  obtain⟨q,h2,h⟩:=Option.bind_eq_some_iff.1 h
  exact lift p h1 (lift q h2 (aMakeSlice_base h))
 |makeFunc fn xs ys=>
  cases fn with
  |func f=>
   refine still (fun _=>rfl) ?_
   simp only[exec,Option.bind_eq_some_iff]at h
   obtain⟨p,_,v,_,h⟩:=h
   simp at h;subst h;rfl
  |_=>simp[exec]at h
 |slice ty x lo hi mx=>
  cases mx with
  |some m=>simp[exec]at h
  |none=>
   refine still (fun _=>rfl) ?_
   simp only[exec,Option.bind_eq_some_iff]at h
   obtain⟨p,_,v,_,u,_,h⟩:=h
   exact pure' h
 |call c=>
  obtain⟨cal,args,ts⟩:=c
  cases cal with
  |builtin b=>
   obtain⟨vs,hvs,he⟩:=Option.bind_eq_some_iff.1 h
   have hx:BaseOK base (fun b'=>exec P g b' t (.call ⟨.builtin b,args,ts⟩)) d:=by
    simp only[exec]
    refine lift vs hvs ?_
    split at he
    ·obtain⟨t0,q1,q2⟩:=Option.bind_eq_some_iff.1 he
     exact⟨fun b c hb=>by rw[pure' q2]at hb;simp at hb,fun _ _=>he⟩
    ·obtain⟨t0,q1,q2⟩:=Option.bind_eq_some_iff.1 he
     obtain⟨t1,q3,q4⟩:=Option.bind_eq_some_iff.1 q2
     refine lift t0 q1 (lift t1 q3 ?_)
     split at q4
     ·exact aAppend_base q4
     ·exact aAppend_base q4
     ·simp at q4
    ·exact⟨fun b c hb=>by rw[pure' he]at hb;simp at hb,fun _ _=>he⟩
    ·exact⟨fun b c hb=>by rw[pure' he]at hb;simp at hb,fun _ _=>he⟩
    ·exact⟨fun b c hb=>by rw[pure' he]at hb;simp at hb,fun _ _=>he⟩
    ·exact⟨fun b c hb=>by rw[pure' he]at hb;simp at hb,fun _ _=>he⟩
    ·simp at he
   exact hx
  |_=>simp[exec]at h
 |load ty x=>
  refine still (fun _=>rfl) ?_
  obtain⟨p,_,he⟩:=Option.bind_eq_some_iff.1 h
  unfold aLoad at he
  simp only[Option.bind_eq_some_iff]at he
  obtain⟨isA,_,n,_,he⟩:=he
  split at he
  ·split at he<;>simp at he;subst he;rfl
  ·obtain⟨cs,_,he⟩:=Option.bind_eq_some_iff.1 he
   split at he<;>simp at he;subst he;rfl
  ·simp at he;subst he;rfl
  ·obtain⟨cs,_,he⟩:=Option.bind_eq_some_iff.1 he
   obtain⟨v,_,rfl⟩:=Option.map_eq_some_iff.1 he;rfl
  ·simp at he
 |store ty x y=>
  refine⟨fun b c hb=>?_,fun _ _=>h⟩
  simp only[exec,Option.bind_eq_some_iff]at h
  obtain⟨p,_,v,_,he⟩:=h
  unfold aStore at he
  obtain⟨n,_,he⟩:=Option.bind_eq_some_iff.1 he
  cases p with
  |ptr b r o=>
   simp only at he
   split at he
   ·obtain⟨cs,_,he⟩:=Option.bind_eq_some_iff.1 he
    split at he<;>simp at he
    subst he;simp at hb
   ·simp at he
  |_=>simp at he
 |move x=>exact still (fun _=>rfl) (pure' h)
 |assign x=>exact still (fun _=>rfl) (pure' h)
 |pick a b c=>
  refine still (fun _=>rfl) ?_
  simp only[exec,Option.bind_eq_some_iff]at h
  obtain⟨c,_,x,_,y,_,he⟩:=h
  split at he<;>simp at he
  subst he;rfl
 |build ty ps=>obtain⟨z,_,he⟩:=Option.bind_eq_some_iff.1 h;exact still (fun _=>rfl) (pure' he)
 |nilCheck x=>
  refine still (fun _=>rfl) ?_
  obtain⟨p,_,he⟩:=Option.bind_eq_some_iff.1 h
  split at he<;>simp at he<;>subst he<;>rfl
 |binOp op ty x y yt=>
  refine still (fun _=>rfl) ?_
  simp only[exec,Option.bind_eq_some_iff]at h
  obtain⟨p,_,v,_,he⟩:=h;exact pure' he
 |unOp op ty x=>obtain⟨z,_,he⟩:=Option.bind_eq_some_iff.1 h;exact still (fun _=>rfl) (pure' he)
 |convert s ty x=>obtain⟨z,_,he⟩:=Option.bind_eq_some_iff.1 h;exact still (fun _=>rfl) (pure' he)
 |makeInterface ty x=>
  refine still (fun _=>rfl) ?_
  obtain⟨z,_,he⟩:=Option.bind_eq_some_iff.1 h
  split at he<;>simp at he;subst he;rfl
 |fieldAddr ty x f=>obtain⟨z,_,he⟩:=Option.bind_eq_some_iff.1 h;exact still (fun _=>rfl) (pure' he)
 |field ty x f=>obtain⟨z,_,he⟩:=Option.bind_eq_some_iff.1 h;exact still (fun _=>rfl) (pure' he)
 |indexAddr ty x y=>
  refine still (fun _=>rfl) ?_
  simp only[exec,Option.bind_eq_some_iff]at h
  obtain⟨p,_,v,_,he⟩:=h;exact pure' he
 |index ty x y=>
  refine still (fun _=>rfl) ?_
  simp only[exec,Option.bind_eq_some_iff]at h
  obtain⟨p,_,v,_,he⟩:=h;exact pure' he
 |extract x i=>
  refine still (fun _=>rfl) ?_
  obtain⟨z,_,he⟩:=Option.bind_eq_some_iff.1 h
  split at he
  ·exact pure' he
  ·simp at he
 |_=>simp[exec]at h
end
section
variable {P:Program} {O:Orc} {g g':HF}
theorem omap_congr{α β:Type}{f f':α→Option β}:∀{l:List α},(∀a∈l,f a=f' a)→omap f l=omap f' l
 | [],_=>rfl
 |a::l,h=>by
  simp only[omap]
  rw[h a (List.mem_cons_self ..),omap_congr (fun b hb=>h b (List.mem_cons_of_mem _ hb))]
theorem flatMap_congr'{α β:Type}{f f':α→List β}:∀{l:List α},(∀a∈l,f a=f' a)→l.flatMap f=l.flatMap f'
 | [],_=>rfl
 |a::l,h=>by
  simp only[List.flatMap_cons]
  rw[h a (List.mem_cons_self ..),flatMap_congr' (fun b hb=>h b (List.mem_cons_of_mem _ hb))]
theorem immV_loc:∀{d:Nat} {v:AV},(∀b∈lentV d g v,g' b=g b)→immV d g' v=immV d g v∧lentV d g' v=lentV d g v
 |0,v,_=>⟨rfl,rfl⟩
 |d+1,v,h=>by
  cases v with
  |slr st b r len=>
   have hb:rowsOf g' b r len=rowsOf g b r len:=rowsOf_congr (h b (by simp[lentV]))
   simp only[immV,lentV,hb]
   cases hr:rowsOf g b r len with
   |none=>exact⟨rfl,rfl⟩
   |some x=>
    obtain⟨st',fl,rows⟩:=x
    cases fl with
    |true=>exact⟨rfl,rfl⟩
    |false=>
     have hin:∀cs∈rows,∀c∈cs,immV d g' c=immV d g c∧lentV d g' c=lentV d g c:=fun cs hcs c hc=>immV_loc fun b' hb'=>h b' (by
      simp only[lentV,hr]
      exact List.mem_cons_of_mem _ (List.mem_flatMap.2 ⟨cs,hcs,List.mem_flatMap.2 ⟨c,hc,hb'⟩⟩))
     refine⟨?_,?_⟩
     ·show(omap (omap (immV d g')) rows).map (AV.imm st' false)=(omap (omap (immV d g)) rows).map (AV.imm st' false)
      rw[omap_congr (fun cs hcs=>omap_congr (fun c hc=>(hin cs hcs c hc).1))]
     ·show b::rows.flatMap (fun cs=>cs.flatMap (lentV d g'))=b::rows.flatMap (fun cs=>cs.flatMap (lentV d g))
      rw[flatMap_congr' (fun cs hcs=>flatMap_congr' (fun c hc=>(hin cs hcs c hc).2))]
  |agg cs=>
   have hin:∀c∈cs,immV d g' c=immV d g c∧lentV d g' c=lentV d g c:=fun c hc=>immV_loc fun b' hb'=>h b' (by simp only[lentV];exact List.mem_flatMap.2 ⟨c,hc,hb'⟩)
   simp only[immV,lentV]
   rw[omap_congr (fun c hc=>(hin c hc).1),flatMap_congr' (fun c hc=>(hin c hc).2)]
   exact⟨rfl,rfl⟩
  |iface t x=>
   have:=immV_loc (d:=d) (v:=x) (fun b' hb'=>h b' (by simpa only[lentV]using hb'))
   simp only[immV,lentV]
   rw[this.1,this.2]
   exact⟨rfl,rfl⟩
  |func fn a b=>cases a<;>cases b<;>exact⟨rfl,rfl⟩
  |_=>exact⟨rfl,rfl⟩
theorem argV_loc:∀{d:Nat} {v:AV},(∀b∈lentV d g v,g' b=g b)→argV d g' v=argV d g v
 |0,v,_=>rfl
 |d+1,v,h=>by
  cases v with
  |slr st b r len=>exact(immV_loc h).1
  |agg cs=>
   have hin:∀c∈cs,argV d g' c=argV d g c:=fun c hc=>argV_loc fun b' hb'=>h b' (by simp only[lentV];exact List.mem_flatMap.2 ⟨c,hc,hb'⟩)
   simp only[argV]
   rw[omap_congr hin]
  |iface t x=>
   have:=argV_loc (d:=d) (v:=x) (fun b' hb'=>h b' (by simpa only[lentV]using hb'))
   simp only[argV]
   rw[this]
  |_=>rfl
theorem packCB_loc:∀{n i:Nat} {m m':List Nat} {cs:List CB},packCB n g i m=some (cs,m')→i≤m.length→(∀b∈m',g' b=g b)→packCB n g' i m=some (cs,m')
 |0,_,_,_,_,h,_,_=>by simp[packCB]at h
 |n+1,i,m,m',cs,h,hi,hm=>by
  have hpre:=(packCB_ok h hi).1
  unfold packCB at h ⊢
  cases hb:m[i]? with
  |none=>rw[hb]at h;exact h
  |some b=>
   rw[hb]at h
   simp only[Option.bind_eq_some_iff,Option.map_eq_some_iff]at h ⊢
   obtain⟨c,h1,⟨c',m1⟩,h2,⟨cs',m2⟩,h3,h4⟩:=h
   simp at h4
   obtain⟨rfl,rfl⟩:=h4
   have hlt:=(List.getElem?_eq_some_iff.1 hb).1
   have hmem:b∈m2:=(List.IsPrefix.subset hpre) (List.mem_of_getElem? hb)
   refine⟨c,by rw[hm b hmem];exact h1,(c',m1),h2,(cs',m2),?_,rfl⟩
   have hl:i+1≤m1.length:=by have:=((refCB_ok h2).1).length_le;omega
   exact packCB_loc h3 hl hm
theorem pack_loc{m m':List Nat}{vs vs':List AV}{cs:List CB}(h:pack g m vs=some (vs',cs,m'))(hm:∀b∈m',g' b=g b):pack g' m vs=some (vs',cs,m'):=by
 unfold pack at h ⊢
 simp only[Option.bind_eq_some_iff,Option.map_eq_some_iff]at h ⊢
 obtain⟨⟨v1,m1⟩,h1,⟨c1,m2⟩,h2,h3⟩:=h
 simp at h3
 obtain⟨rfl,rfl,rfl⟩:=h3
 exact⟨_,h1,_,packCB_loc h2 (Nat.zero_le _) hm,rfl⟩
theorem freezeE_loc:∀{l:List Nat},(∀b∈l,g' b=g b)→freezeE g' l=freezeE g l
 | [],_=>rfl
 |b::l,h=>by
  simp only[freezeE]
  rw[h b (List.mem_cons_self ..),freezeE_loc (fun x hx=>h x (List.mem_cons_of_mem _ hx))]
theorem unpack_fs{base:Nat}{lent m:List Nat}{cs:List CB}{out:Out}{h':Heap}{d:DidC}(h:unpack g base lent m cs out h'=some d):d.fs=(lent++m).map .blk:=by
 unfold unpack at h
 simp only[Option.bind_eq_some_iff]at h
 obtain⟨v,_,ps,_,ns,_,h⟩:=h
 simp at h
 subst h;simp
theorem aCallP_loc{base:Nat}{f:Cal}{args:List AV}{d:DidC}(h:aCallP O g base f args=some d)(ha:∀x∈d.fs,FAgree g g' x):
 aCallP O g' base f args=some d∧omap (argV 12 g') args=omap (argV 12 g) args∧∀vs vs' cs m,omap (argV 12 g) args=some vs→pack g' [] vs=some (vs',cs,m)→pack g [] vs=some (vs',cs,m):=by
 unfold aCallP at h ⊢
 simp only[Option.bind_eq_some_iff]at h
 obtain⟨vs,hvs,⟨vs',cs,m⟩,hp,h⟩:=h
 simp only at h
 split at h
 ·simp at h
 ·rename_i hlm
  simp only[Option.bind_eq_some_iff]at h
  obtain⟨⟨out,h'⟩,hc,hu⟩:=h
  simp only at hu
  have hfs:=unpack_fs hu
  have hl:∀b∈args.flatMap (lentV 12 g),g' b=g b:=fun b hb=>ha (.blk b) (by rw[hfs];exact List.mem_map.2 ⟨b,List.mem_append_left _ hb,rfl⟩)
  have hm:∀b∈m,g' b=g b:=fun b hb=>ha (.blk b) (by rw[hfs];exact List.mem_map.2 ⟨b,List.mem_append_right _ hb,rfl⟩)
  have hin:∀x∈args,immV 12 g' x=immV 12 g x∧lentV 12 g' x=lentV 12 g x:=fun x hx=>immV_loc fun b hb=>hl b (List.mem_flatMap.2 ⟨x,hx,hb⟩)
  have hlen:args.flatMap (lentV 12 g')=args.flatMap (lentV 12 g):=flatMap_congr' fun x hx=>(hin x hx).2
  have harg:omap (argV 12 g') args=omap (argV 12 g) args:=omap_congr fun x hx=>argV_loc fun b hb=>hl b (List.mem_flatMap.2 ⟨x,hx,hb⟩)
  have hp':=pack_loc hp hm
  refine⟨?_,harg,fun vs1 vs1' cs1 m1 q1 q2=>?_⟩
  ·simp only[Option.bind_eq_some_iff]
   refine⟨vs,by rw[harg];exact hvs,(vs',cs,m),hp',?_⟩
   simp only[hlen]
   rw[if_neg hlm]
   simp only[Option.bind_eq_some_iff]
   refine⟨(out,h'),hc,?_⟩
   simp only
   unfold unpack at hu ⊢
   rw[freezeE_loc hl]
   exact hu
  ·rw[hvs]at q1;cases q1
   rw[hp']at q2
   rw[hp];exact q2
theorem aCallS_fs{base:Nat}{f:Cal}{args:List AV}{d:DidC}(h:aCallS O g base f args=some d):d.fs=[.all]:=by
 unfold aCallS at h
 obtain⟨_,_,h⟩:=Option.bind_eq_some_iff.1 h
 obtain⟨_,_,h⟩:=Option.bind_eq_some_iff.1 h
 obtain⟨_,_,rfl⟩:=Option.map_eq_some_iff.1 h
 rfl
theorem aCall_loc{base:Nat}{f:Cal}{args:List AV}{d:DidC}(h:aCall O g base f args=some d)(ha:∀x∈d.fs,FAgree g g' x):
 aCall O g' base f args=some d∧omap (argV 12 g') args=omap (argV 12 g) args∧∀vs vs' cs m,omap (argV 12 g) args=some vs→pack g' [] vs=some (vs',cs,m)→pack g [] vs=some (vs',cs,m):=by
 have sh:aCallS O g base f args=some d→g'=g:=fun h=>ha .all (by rw[aCallS_fs h];simp)
 by_cases hp:Packed O f args
 ·obtain⟨n,_,k2⟩:=hp.eq
  rw[k2]at h ⊢
  exact aCallP_loc h ha
 ·rw[aCall_shared hp]at h ⊢
  have:=sh h
  subst this
  exact⟨h,rfl,fun _ _ _ _ _ q=>q⟩
end
section
variable {P:Program} {O:Orc}
/-- One operation of a region that gives a value. -/
def did1(O:Orc)(P:Program)(ops:List Oper)(t:List AV)(g:HF)(base:Nat)(o:Oper):Option Did:=
 match wantedA ops t o with
 |none=>none
 |some false=>some ⟨.tup [],[],[]⟩
 |some true=>
  match kindOf o.op with
  | .call c=>(callee t c).bind fun(f,args)=>(aCall O g base f args).bind fun d=>match d.out with
    | .ret v=>some ⟨v,d.es,d.fs⟩
    | .pan _=>none
  | .panic _=>none
  | .other=>exec P g base t o.op
inductive Runs(O:Orc)(P:Program)(ops:List Oper):List (Oper × Did)→St→St→Prop
 |nil (s:St):Runs O P ops [] s s
 |cons {o:Oper} {d:Did} {l:List (Oper × Did)} {s s':St}:did1 O P ops s.tmps (hf s.h) s.h.length o=some d→EsGood s.h d.es→Runs O P ops l ⟨put s.tmps o.dst d.v,happ s.h d.es⟩ s'→Runs O P ops ((o,d)::l) s s'
theorem evOps_runs{ops:List Oper}{gs:List Nat}{k:St→Log→R}{r:Ex × St}:∀{rest:List Oper} {i:Nat} {s:St} {log:Log},evOps O P ops gs rest i s log k (fun _ _=>none)=some r→
 ∃recs s',Runs O P ops recs s s'∧recs.map (·.1)=rest∧k s' (log++recs.map fun x=>(x.2.es,x.2.fs))=some r
 | [],i,s,log,h=>⟨[],s,.nil s,rfl,by simpa [evOps]using h⟩
 |o::rest,i,s,log,h=>by
  have fin:∀(d:Did),did1 O P ops s.tmps (hf s.h) s.h.length o=some d→EsGood s.h d.es→evOps O P ops gs rest (i+1) ⟨put s.tmps o.dst d.v,happ s.h d.es⟩ (log++[(d.es,d.fs)]) k (fun _ _=>none)=some r→
   ∃recs s',Runs O P ops recs s s'∧recs.map (·.1)=o::rest∧k s' (log++recs.map fun x=>(x.2.es,x.2.fs))=some r:=fun d h1 h2 h3=>by
   obtain⟨recs,s',k1,k2,k3⟩:=evOps_runs h3
   exact⟨(o,d)::recs,s',.cons h1 h2 k1,by simp[k2],by simpa using k3⟩
  unfold evOps at h
  split at h
  ·simp at h
  ·rename_i hw
   exact fin ⟨.tup [],[],[]⟩ (by simp only[did1,hw]) (.nil _) h
  ·rename_i hw
   cases hk:kindOf o.op with
   |call c=>
    rw[hk]at h
    simp only[Option.bind_eq_some_iff]at h
    obtain⟨⟨fc,args⟩,hcal,d,hd,h⟩:=h
    simp only at hd
    cases ho:d.out with
    |ret v=>
     rw[ho]at h
     simp only[bindV_eq]at h
     refine fin ⟨v,d.es,d.fs⟩ ?_ (aCall_good hd) h
     simp only[did1,hw,hk,Option.bind_eq_some_iff]
     exact⟨(fc,args),hcal,d,hd,by simp only[ho]⟩
    |pan v=>rw[ho]at h;simp at h
   |panic x=>
    rw[hk]at h
    simp only[Option.bind_eq_some_iff]at h
    obtain⟨v,hv,h⟩:=h
    split at h<;>simp at h
   |other=>
    rw[hk]at h
    simp only[Option.bind_eq_some_iff,bindV_eq]at h
    obtain⟨d,hd,h⟩:=h
    exact fin d (by simp only[did1,hw,hk];exact hd) (exec_good hd) h
/-- The temporaries, the heap, behind a set of the operations (in the text's order). -/
def tS:(Nat→Bool)→List (Oper × Did)→List AV→List AV
 |_,[],t=>t
 |D,x::l,t=>tS (fun n=>D (n+1)) l (if D 0=true then put t x.1.dst x.2.v else t)
def gS:(Nat→Bool)→List (Oper × Did)→HF→HF
 |_,[],g=>g
 |D,x::l,g=>gS (fun n=>D (n+1)) l (if D 0=true then fapp g x.2.es else g)
theorem tS_congr:∀{l:List (Oper × Did)} {D D':Nat→Bool} {t:List AV},(∀i,i<l.length→D i=D' i)→tS D l t=tS D' l t
 | [],_,_,_,_=>rfl
 |x::l,D,D',t,h=>by
  simp only[tS]
  rw[h 0 (by simp),tS_congr (fun i hi=>h (i+1) (by simp;omega))]
theorem gS_congr:∀{l:List (Oper × Did)} {D D':Nat→Bool} {g:HF},(∀i,i<l.length→D i=D' i)→gS D l g=gS D' l g
 | [],_,_,_,_=>rfl
 |x::l,D,D',g,h=>by
  simp only[gS]
  rw[h 0 (by simp),gS_congr (fun i hi=>h (i+1) (by simp;omega))]
theorem tS_none:∀{l:List (Oper × Did)} {D:Nat→Bool} {t:List AV},(∀i,D i=false)→tS D l t=t
 | [],_,_,_=>rfl
 |x::l,D,t,h=>by simp only[tS];rw[h 0];exact tS_none (fun i=>h (i+1))
theorem gS_none:∀{l:List (Oper × Did)} {D:Nat→Bool} {g:HF},(∀i,D i=false)→gS D l g=g
 | [],_,_,_=>rfl
 |x::l,D,g,h=>by simp only[gS];rw[h 0];exact gS_none (fun i=>h (i+1))
theorem lt_succ_dec(i:Nat):(fun n=>decide (n+1<i+1))=fun n=>decide (n<i):=by funext n;simp
theorem Runs.at{ops:List Oper}:∀{recs:List (Oper × Did)} {s s':St},Runs O P ops recs s s'→∀i o d,recs[i]?=some (o,d)→
 ∃h:Heap,did1 O P ops (tS (fun n=>decide (n<i)) recs s.tmps) (gS (fun n=>decide (n<i)) recs (hf s.h)) h.length o=some d∧gS (fun n=>decide (n<i)) recs (hf s.h)=hf h∧EsGood h d.es∧s.h.length≤h.length∧h.length≤s'.h.length∧
  (∀b,Eid d.es b→b<s'.h.length)∧∀j o' d',j<i→recs[j]?=some (o',d')→∀b,Eid d'.es b→b<h.length
 |_,_,_,.nil s,i,o,d,h=>by simp at h
 |_,s,s',.cons (o:=o0) (d:=d0) (l:=l) h1 h2 h3,i,o,d,h=>by
  obtain⟨e1,e2,e3,e4⟩:=happ_fapp h2.ok
  have hlast:(happ s.h d0.es).length≤s'.h.length:=by
   have aux:∀{recs:List (Oper × Did)} {s s':St},Runs O P ops recs s s'→s.h.length≤s'.h.length:=fun hr=>by
    induction hr with
    |nil=>exact Nat.le_refl _
    |cons _ k2 _ ih=>exact Nat.le_trans (happ_fapp k2.ok).2.1 ih
   exact aux h3
  cases i with
  |zero=>
   simp at h
   obtain⟨rfl,rfl⟩:=h
   refine⟨s.h,?_,?_,h2,Nat.le_refl _,Nat.le_trans e2 hlast,fun b hb=>Nat.lt_of_lt_of_le (e3 b hb) hlast,fun j _ _ hj=>by omega⟩
   ·rw[tS_none (fun i=>by simp),gS_none (fun i=>by simp)];exact h1
   ·rw[gS_none (fun i=>by simp)]
  |succ i=>
   simp at h
   obtain⟨hh,k1,k2,k3,k4,k5,k6,k7⟩:=Runs.at h3 i o d h
   simp only[tS,gS,lt_succ_dec]
   simp only[Nat.zero_lt_succ,decide_true,if_true]
   rw[←e1]
   refine⟨hh,k1,k2,k3,Nat.le_trans e2 k4,k5,k6,fun j o' d' hj hr b hb=>?_⟩
   cases j with
   |zero=>simp at hr;obtain⟨rfl,rfl⟩:=hr;exact Nat.lt_of_lt_of_le (e3 b hb) k4
   |succ j=>exact k7 j o' d' (by omega) (by simpa using hr) b hb
theorem EsGood.trans{h:Heap}{es es':List HEdit}(a:EsGood h es)(b:EsGood (happ h es) es'):EsGood h (es++es'):=by
 obtain⟨k1,k2,k3,k4⟩:=happ_fapp a.ok
 have ok:∀(es:List HEdit) (h:Heap),esOK h.length es→esOK (happ h es).length es'→esOK h.length (es++es'):=by
  intro es
  induction es with
  |nil=>intro h _ q;exact q
  |cons e es ih=>
   intro h q1 q2
   cases e with
   |new b c=>
    obtain⟨r1,r2⟩:=q1
    exact⟨r1,by have:=ih (h++[c]) (by simpa using r2) q2;simpa using this⟩
   |put b c=>
    obtain⟨r1,r2⟩:=q1
    exact⟨r1,by have:=ih (h.set b c) (by simpa using r2) q2;simpa using this⟩
   |cells b r o vs=>
    obtain⟨r1,r2⟩:=q1
    have hl:(happ1 h (.cells b r o vs)).length=h.length:=by
     simp only[happ1];split<;>simp
    exact⟨r1,by have:=ih (happ1 h (.cells b r o vs)) (by rw[hl];exact r2) q2;rw[hl]at this;exact this⟩
 have fa:∀(es:List HEdit) (g:HF),fapp g (es++es')=fapp (fapp g es) es':=by
  intro es
  induction es with
  |nil=>intro g;rfl
  |cons e es ih=>intro g;exact ih _
 have eid:∀b,Eid (es++es') b↔Eid es b∨Eid es' b:=fun b=>by
  constructor
  ·rintro⟨e,he,hid⟩
   rcases List.mem_append.1 he with he|he
   ·exact .inl ⟨e,he,hid⟩
   ·exact .inr ⟨e,he,hid⟩
  ·rintro(⟨e,he,hid⟩|⟨e,he,hid⟩)
   ·exact⟨e,List.mem_append_left _ he,hid⟩
   ·exact⟨e,List.mem_append_right _ he,hid⟩
 refine⟨ok es h a.ok b.ok,fun x hx hlt=>?_,fun x hx=>?_⟩
 ·rw[fa,←k1]
  by_cases h1:Eid es x
  ·refine⟨(a.touched x h1 hlt).1,fun c hc=>?_⟩
   by_cases h2:Eid es' x
   ·exact(b.touched x h2 (k3 x h1)).2 c hc
   ·rw[b.untouched x h2,k1]at hc
    exact(a.touched x h1 hlt).2 c hc
  ·have h2:Eid es' x:=((eid x).1 hx).resolve_left h1
   obtain⟨q1,q2⟩:=b.touched x h2 (Nat.lt_of_lt_of_le hlt k2)
   rw[k1,a.untouched x h1]at q1
   exact⟨q1,q2⟩
 ·have h1:¬Eid es x:=fun e=>hx ((eid x).2 (.inl e))
  have h2:¬Eid es' x:=fun e=>hx ((eid x).2 (.inr e))
  rw[fa,←k1,b.untouched x h2,k1,a.untouched x h1]
def allEs(recs:List (Oper × Did)):List HEdit:=recs.flatMap (·.2.es)
theorem mem_allEs{recs:List (Oper × Did)}{b:Nat}:Eid (allEs recs) b↔∃(j:Nat) (o:Oper) (d:Did),recs[j]?=some (o,d)∧Eid d.es b:=by
 unfold allEs
 constructor
 ·rintro⟨e,he,hid⟩
  obtain⟨x,hx,he⟩:=List.mem_flatMap.1 he
  obtain⟨j,hj⟩:=List.mem_iff_getElem?.1 hx
  exact⟨j,x.1,x.2,hj,e,he,hid⟩
 ·rintro⟨j,o,d,hj,e,he,hid⟩
  exact⟨e,List.mem_flatMap.2 ⟨(o,d),List.mem_of_getElem? hj,he⟩,hid⟩
theorem happ_append:∀{es es':List HEdit} {g:Heap},happ g (es++es')=happ (happ g es) es'
 | [],_,_=>rfl
 |e::es,_,_=>happ_append (es:=es)
theorem gS_all:∀{recs:List (Oper × Did)} {g:HF},gS (fun _=>true) recs g=fapp g (allEs recs)
 | [],g=>rfl
 |x::l,g=>by
  simp only[gS,if_true,allEs,List.flatMap_cons]
  rw[fapp_append]
  exact gS_all
theorem Runs.last{ops:List Oper}{recs:List (Oper × Did)}{s s':St}(h:Runs O P ops recs s s'):s'.tmps=tS (fun _=>true) recs s.tmps∧s'.h=happ s.h (allEs recs)∧EsGood s.h (allEs recs):=by
 induction h with
 |nil s=>exact⟨rfl,rfl,.nil _⟩
 | @cons o d l s s' h1 h2 h3 ih=>
   obtain⟨k1,k2,k3⟩:=ih
   refine⟨?_,?_,?_⟩
   ·simp only[tS,if_true];exact k1
   ·simp only[allEs,List.flatMap_cons];rw[happ_append];exact k2
   ·simp only[allEs,List.flatMap_cons];exact h2.trans k3
theorem put_len(t:List AV)(d:Option Nat)(v:AV):(put t d v).length=t.length:=by cases d<;>simp[put]
theorem tget_put(t:List AV)(d:Option Nat)(v:AV)(x:Nat):tget (put t d v) x=if d=some x∧x<t.length then v else tget t x:=by
 cases d with
 |none=>simp[put]
 |some d=>
  simp only[put,tget,List.getElem?_set,Option.some.injEq]
  by_cases h:d=x
  ·subst h
   by_cases h2:d<t.length
   ·simp[h2]
   ·simp[h2]
  ·simp[h]
/-- Sets that differ only by operations that write nothing of what is looked at. -/
theorem tS_agree{L:List Nat}:∀{l:List (Oper × Did)} {D D':Nat→Bool} {t t':List AV},(∀j o d,l[j]?=some (o,d)→D j≠D' j→∀x,o.dst=some x→x∉L)→t.length=t'.length→(∀x∈L,tget t x=tget t' x)→
 ∀x∈L,tget (tS D l t) x=tget (tS D' l t') x
 | [],D,D',t,t',_,_,h=>h
 |y::l,D,D',t,t',hd,hl,h=>by
  simp only[tS]
  refine tS_agree (fun j o d hj hne=>hd (j+1) o d (by simpa using hj) hne) ?_ ?_
  ·split<;>split<;>simp[put_len,hl]
  ·intro x hx
   have h0:=hd 0 y.1 y.2 (by simp)
   cases e1:D 0<;>cases e2:D' 0
   ·simpa using h x hx
   ·simp only[Bool.false_eq_true,if_false,if_true]
    rw[tget_put,if_neg (fun q=>h0 (by simp[e1,e2]) x q.1 hx)]
    exact h x hx
   ·simp only[Bool.false_eq_true,if_false,if_true]
    rw[tget_put,if_neg (fun q=>h0 (by simp[e1,e2]) x q.1 hx)]
    exact h x hx
   ·simp only[if_true]
    rw[tget_put,tget_put,hl,h x hx]
theorem gS_agree{f:Foot}:∀{l:List (Oper × Did)} {D D':Nat→Bool} {g g':HF},(∀j o d,l[j]?=some (o,d)→D j≠D' j→∀e∈d.es,e.foot.meets f=false)→FAgree g g' f→FAgree (gS D l g) (gS D' l g') f
 | [],D,D',g,g',_,h=>h
 |y::l,D,D',g,g',hd,h=>by
  simp only[gS]
  refine gS_agree (fun j o d hj hne=>hd (j+1) o d (by simpa using hj) hne) ?_
  have h0:=hd 0 y.1 y.2 (by simp)
  cases e1:D 0<;>cases e2:D' 0
  ·simpa using h
  ·simp only[Bool.false_eq_true,if_false,if_true]
   exact h.trans (FAgree.edits _ (h0 (by simp[e1,e2])))
  ·simp only[Bool.false_eq_true,if_false,if_true]
   exact(FAgree.edits _ (h0 (by simp[e1,e2]))).symm.trans h
  ·simp only[if_true]
   exact FAgree.boths h
theorem put_comm(t:List AV){x y:Option Nat}(v u:AV)(h:∀d,x=some d→y≠some d):put (put t x v) y u=put (put t y u) x v:=by
 cases x with
 |none=>rfl
 |some a=>
  cases y with
  |none=>rfl
  |some b=>simp only[put];exact List.set_comm _ _ (fun e=>h a rfl (by rw[e]))
theorem tS_put{x:Option Nat}{v:AV}:∀{l:List (Oper × Did)} {D:Nat→Bool} {t:List AV},(∀j o d,l[j]?=some (o,d)→D j=true→∀c,x=some c→o.dst≠some c)→tS D l (put t x v)=put (tS D l t) x v
 | [],D,t,_=>rfl
 |y::l,D,t,h=>by
  simp only[tS]
  cases e:D 0 with
  |true=>
   simp only[if_true]
   rw[put_comm t v y.2.v (h 0 y.1 y.2 (by simp) e)]
   exact tS_put (fun j o d hj hD=>h (j+1) o d (by simpa using hj) hD)
  |false=>exact tS_put (fun j o d hj hD=>h (j+1) o d (by simpa using hj) hD)
theorem gS_es{es:List HEdit}:∀{l:List (Oper × Did)} {D:Nat→Bool} {g:HF},(∀j o d,l[j]?=some (o,d)→D j=true→∀x∈es,∀y∈d.es,x.foot.meets y.foot=false)→gS D l (fapp g es)=fapp (gS D l g) es
 | [],D,g,_=>rfl
 |y::l,D,g,h=>by
  simp only[gS]
  cases e:D 0 with
  |true=>
   simp only[if_true]
   rw[fapp_comm g (h 0 y.1 y.2 (by simp) e)]
   exact gS_es (fun j o d hj hD=>h (j+1) o d (by simpa using hj) hD)
  |false=>exact gS_es (fun j o d hj hD=>h (j+1) o d (by simpa using hj) hD)
/-- One operation more. -/
theorem tS_insert:∀{l:List (Oper × Did)} {D D':Nat→Bool} {t:List AV} {i:Nat} {o:Oper} {d:Did},l[i]?=some (o,d)→D i=false→D' i=true→(∀j,j≠i→D' j=D j)→
 (∀j o' d',l[j]?=some (o',d')→i<j→D j=true→∀c,o.dst=some c→o'.dst≠some c)→tS D' l t=put (tS D l t) o.dst d.v
 | [],D,D',t,i,o,d,h,_,_,_,_=>by simp at h
 |y::l,D,D',t,i,o,d,h,h1,h2,h3,h4=>by
  cases i with
  |zero=>
   simp at h
   subst h
   simp only[tS,h1,h2,if_true,Bool.false_eq_true,if_false]
   rw[show(fun n=>D' (n+1))=fun n=>D (n+1)from funext fun n=>h3 (n+1) (by omega)]
   exact tS_put (fun j o' d' hj hD=>h4 (j+1) o' d' (by simpa using hj) (by omega) hD)
  |succ i=>
   simp only[tS]
   rw[h3 0 (by omega)]
   exact tS_insert (by simpa using h) h1 h2 (fun j hj=>h3 (j+1) (by omega)) (fun j o' d' hj hi hD=>h4 (j+1) o' d' (by simpa using hj) (by omega) hD)
theorem gS_insert:∀{l:List (Oper × Did)} {D D':Nat→Bool} {g:HF} {i:Nat} {o:Oper} {d:Did},l[i]?=some (o,d)→D i=false→D' i=true→(∀j,j≠i→D' j=D j)→
 (∀j o' d',l[j]?=some (o',d')→i<j→D j=true→∀x∈d.es,∀y∈d'.es,x.foot.meets y.foot=false)→gS D' l g=fapp (gS D l g) d.es
 | [],D,D',g,i,o,d,h,_,_,_,_=>by simp at h
 |y::l,D,D',g,i,o,d,h,h1,h2,h3,h4=>by
  cases i with
  |zero=>
   simp at h
   subst h
   simp only[gS,h1,h2,if_true,Bool.false_eq_true,if_false]
   rw[show(fun n=>D' (n+1))=fun n=>D (n+1)from funext fun n=>h3 (n+1) (by omega)]
   exact gS_es (fun j o' d' hj hD=>h4 (j+1) o' d' (by simpa using hj) (by omega) hD)
  |succ i=>
   simp only[gS]
   rw[h3 0 (by omega)]
   exact gS_insert (by simpa using h) h1 h2 (fun j hj=>h3 (j+1) (by omega)) (fun j o' d' hj hi hD=>h4 (j+1) o' d' (by simpa using hj) (by omega) hD)
theorem fapp1_none{g:HF}{e:HEdit}{b:Nat}(h:fapp1 g e b≠none):g b≠none∨e.id=b:=by
 rw[fapp1_at]at h
 by_cases hb:b=e.id
 ·exact .inr hb.symm
 ·rw[if_neg hb]at h;exact .inl h
theorem fapp_none:∀{es:List HEdit} {g:HF} {b:Nat},fapp g es b≠none→g b≠none∨Eid es b
 | [],g,b,h=>.inl h
 |e::es,g,b,h=>by
  rcases fapp_none (es:=es) h with h|⟨x,hx,hid⟩
  ·rcases fapp1_none h with h|h
   ·exact .inl h
   ·exact .inr ⟨e,List.mem_cons_self ..,h⟩
  ·exact .inr ⟨x,List.mem_cons_of_mem _ hx,hid⟩
theorem gS_some:∀{l:List (Oper × Did)} {D:Nat→Bool} {g:HF} {b:Nat},gS D l g b≠none→g b≠none∨∃j o d,D j=true∧l[j]?=some (o,d)∧Eid d.es b
 | [],D,g,b,h=>.inl h
 |x::l,D,g,b,h=>by
  simp only[gS]at h
  rcases gS_some h with h|⟨j,o,d,h1,h2,h3⟩
  ·cases e:D 0 with
   |true=>
    rw[e]at h
    simp only[if_true]at h
    rcases fapp_none h with h|h
    ·exact .inl h
    ·exact .inr ⟨0,x.1,x.2,e,by simp,h⟩
   |false=>rw[e]at h;exact .inl h
  ·exact .inr ⟨j+1,o,d,h1,by simpa using h2,h3⟩
end
section
variable {P:Program} {G:Nat→Option Obj} {O:Orc} {F:Fence} {nn:Nat}
theorem op_sound(hF:WF F)(hO:CallsOK P G O){ops:Array Oper}{i:Nat}{o:Oper}(ho:ops[i]?=some o){t:List AV}{g:HF}{base z:Nat}{d:Did}{a:Act}{w:World}{S:Nat→Prop}(hI:Inv G w S){ρ:Rho}
 (H:HR w S ρ g) (T:TR w S ρ t a.tmps) (hz:ρ z=.fresh) (hgf:∀b,g b≠none→ρ b≠.fresh) (hd:did1 O P ops.toList t g base o=some d)
 (hmb:∀vs vs' cs m,pack g [] vs=some (vs',cs,m)→(∀b∈m,Foot.blk b∈d.fs)→∀b∈m,b<base) (hall:Foot.all∈d.fs→∀b,base≤b→g b=none) (hnew:∀b c,HEdit.new b c∈d.es→ρ b=.fresh)
 {Q:Exit→Act→World→Prop} {K:Act→World→Prop}
 (hK:∀cv w' S' ρ',VR w' S' ρ' d.v cv→HR w' S' ρ' (fapp g d.es)→Sim w w' S S' ρ ρ'→Loc (Eid d.es) w w' ρ ρ'→Frs d.es ρ ρ'→K (a.put o.dst cv) w'):wpOpIn F nn P ops Q i K a w:=by
 have habout:∀f,o.about P w a.eval=some f→F.fn f:=fun f _=>hF.fn f
 unfold wpOpIn
 simp only[ho]
 unfold did1 at hd
 split at hd
 ·simp at hd
 ·rename_i hw
  rw[wanted_sound T hw]
  simp only[Bool.false_eq_true,if_false]
  simp at hd
  subst hd
  exact⟨habout,hK undef w S ρ undef_VR H (Sim.refl _ _ _) Loc.refl Frs.refl⟩
 ·rename_i hw
  rw[wanted_sound T hw]
  simp only[if_true]
  refine⟨habout,?_⟩
  cases hk:kindOf o.op with
  |call c=>
   rw[hk]at hd
   simp only[Option.bind_eq_some_iff]at hd
   obtain⟨⟨fc,args⟩,hcal,dc,hdc,hd⟩:=hd
   simp only at hdc
   have hop:o.op=.call c∧∀b,c.callee≠.builtin b:=by
    unfold kindOf at hk
    split at hk<;>simp at hk
    rename_i c' hnb hop
    subst hk
    exact⟨hop,fun b e=>by obtain⟨cal,as,ts⟩:=c';simp at e;subst e;exact hnb b as ts rfl⟩
   obtain⟨hop,hnb⟩:=hop
   have hsem:o.semAt F.round a.eval=execOp a.eval o:=Oper.semAt_eq _ _ _ (fun c e=>by rw[hop]at e;cases e)
   rw[hsem]
   cases hout:dc.out with
   |pan v=>rw[hout]at hd;simp at hd
   |ret v0=>
    rw[hout]at hd
    simp at hd
    subst hd
    unfold callee at hcal
    split at hcal
    ·rename_i fo hfo
     simp only[Option.bind_eq_some_iff]at hcal
     obtain⟨fv,hfv,vs,hvs,hcal⟩:=hcal
     have hfr:=evalO_sound T hfv
     have hvr:=evalOs_sound T hvs
     generalize hfe:a.eval fo=cf at hfr
     split at hcal
     ·rename_i f fa fb
      simp only[Option.some.injEq,Prod.mk.injEq]at hcal
      obtain⟨rfl,rfl⟩:=hcal
      cases hfr with
      | @func _ _ _ _ va vc q1 q2 q3 q4=>
        have hlr:LR w S ρ (fa++vs++fb) (va++c.args.map a.eval++vc).toList:=by
         have e1:(va++c.args.map a.eval++vc).toList=va.toList++c.args.toList.map a.eval++vc.toList:=by simp
         rw[e1]
         exact(LR.append (LR.append ⟨by simpa using q1,fun i x v hx hv=>q3 i x v hx (by simpa using hv)⟩ hvr) ⟨by simpa using q2,fun i x v hx hv=>q4 i x v hx (by simpa using hv)⟩)
        have hmb':∀vs1 vs' cs m,omap (argV 12 g) (fa++vs++fb)=some vs1→pack g [] vs1=some (vs',cs,m)→Packed O (calOf f (fa++vs++fb)) (fa++vs++fb)→∀b∈m,b<base:=fun vs1 vs' cs m h1 h2 h3=>by
         refine hmb vs1 vs' cs m h2 (fun b hb=>?_)
         have hdc':=hdc
         obtain⟨n3,_,h3⟩:=h3.eq
         rw[h3]at hdc'
         unfold aCallP at hdc'
         simp only[Option.bind_eq_some_iff]at hdc'
         obtain⟨vs2,r1,⟨vs3,cs3,m3⟩,r2,r3⟩:=hdc'
         rw[h1]at r1;cases r1
         rw[h2]at r2;cases r2
         simp only at r3
         split at r3
         ·simp at r3
         ·obtain⟨⟨out,h'⟩,_,r4⟩:=Option.bind_eq_some_iff.1 r3
          show Foot.blk b∈dc.fs
          rw[unpack_fs r4]
          exact List.mem_map.2 ⟨b,List.mem_append_right _ hb,rfl⟩
        obtain⟨henter,hcalls⟩:=aCall_core hO hI H hz hgf (calOf_is _ _) hlr hmb' hdc hall hnew
        have hrun:(execOp a.eval o).run P w=.ok (.enter f (va++c.args.map a.eval++vc)) w:=by
         simp only[execOp,hop,Sem.run_bind,resolve,hfo,hfe,Deferred.ofValue,Sem.run_pure,Result.andThen_ok,invoke]
         rw[henter]
        rw[hrun]
        refine⟨fun hdp=>by rw[hF.depth]at hdp;simp at hdp,hF.calls (hcalls.mono fun e w' ⟨cv,S',ρ',he,hv,hHR,hsim,hloc,hfrs⟩=>?_)⟩
        cases e with
        |returned v=>
         obtain⟨⟨x,hx⟩,rfl⟩:=he
         rw[hout]at hv
         exact hK _ w' S' ρ' hv hHR hsim hloc hfrs
        |panicked ch=>
         obtain⟨⟨x,hx⟩,rfl⟩:=he
         rw[hout]at hx;cases hx
        |outgrown=>exact he.elim
     ·rename_i b
      simp only[Option.some.injEq,Prod.mk.injEq]at hcal
      obtain⟨rfl,rfl⟩:=hcal
      have hyl:∃l,cf=.func (.yield l) #[] #[]:=by cases hfr<;>exact⟨_,rfl⟩
      obtain⟨l,rfl⟩:=hyl
      have hlr:LR w S ρ (vs++[.yl b]) ((c.args.map a.eval).toList++[.func (.yield l) #[] #[]]):=LR.append (by simpa using hvr) (.cons hfr .nil)
      obtain⟨fn,tmps,asg,body,hy,hround⟩:=aRound_core hO hI H hz hgf hlr hdc hall hnew
      have hrun:(execOp a.eval o).run P w=.ok (.round l fn tmps asg body) w:=by
       simp only[execOp,hop,Sem.run_bind,resolve,hfo,hfe,Deferred.ofValue,Sem.run_pure,Result.andThen_ok,invoke]
       simpa using hy
      rw[hrun]
      refine⟨fun hdp=>by rw[hF.depth]at hdp;simp at hdp,(hround F _ hF).mono fun e w' ⟨cv,S',ρ',he,hv,hHR,hsim,hloc,hfrs⟩=>?_⟩
      cases e with
      |returned v=>
       obtain⟨⟨x,hx⟩,rfl⟩:=he
       rw[hout]at hv
       exact hK _ w' S' ρ' hv hHR hsim hloc hfrs
      |panicked ch=>
       obtain⟨⟨x,hx⟩,rfl⟩:=he
       rw[hout]at hx;cases hx
      |outgrown=>exact he.elim
     ·simp at hcal
    ·simp at hcal
  |panic x=>rw[hk]at hd;simp at hd
  |other=>
   rw[hk]at hd
   simp only at hd
   have hsem:o.semAt F.round a.eval=execOp a.eval o:=Oper.semAt_eq _ _ _ (kindOf_other hd)
   rw[hsem]
   have hex:∃base',ρ base'=.fresh∧exec P g base' t o.op=some d:=by
    obtain⟨b1,b2⟩:=exec_base hd
    by_cases hn:∃b c,HEdit.new b c∈d.es
    ·obtain⟨b,c,hbc⟩:=hn
     have:=b1 b c hbc
     subst this
     exact⟨b,hnew b c hbc,hd⟩
    ·exact⟨z,hz,b2 (fun b c hbc=>hn ⟨b,c,hbc⟩) z⟩
   obtain⟨base',hb',hd'⟩:=hex
   obtain⟨cv,w',ρ',hran,hv,hHR,hsim,hloc,hfrs⟩:=exec_sound H hb' T hd'
   rcases hran with hran|⟨hran,rfl⟩
   ·rw[hran];exact hK cv w' S ρ' hv hHR hsim hloc hfrs
   ·rw[hran];exact hK _ w' S ρ' hv hHR hsim hloc hfrs
theorem looks_evalO{ops:List Oper}{o:Oper}{t t':List AV}(h:∀x∈looks ops o,tget t x=tget t' x):∀x∈o.op.operands.toList,evalO t x=evalO t' x:=fun x hx=>by
 cases x with
 |tmp y=>
  simp only[evalO]
  rw[h y (List.mem_append_left _ (List.mem_filterMap.2 ⟨_,hx,rfl⟩))]
 |_=>rfl
theorem wantedA_congr{ops:List Oper}{o:Oper}{t t':List AV}(h:∀x∈looks ops o,tget t x=tget t' x):wantedA ops t o=wantedA ops t' o:=by
 unfold wantedA
 cases hg:o.guard with
 |none=>rfl
 |some jw=>
  obtain⟨j,want⟩:=jw
  simp only
  cases hd:(ops[j]?).bind (·.dst)with
  |none=>rfl
  |some y=>
   simp only
   rw[h y (List.mem_append_right _ (by rw[hg];simp[hd]))]
theorem did1_loc{ops:List Oper}{o:Oper}{t t':List AV}{g g':HF}{base:Nat}{d:Did}(h:did1 O P ops t g base o=some d)(ht:∀x∈looks ops o,tget t x=tget t' x)(ha:∀f∈d.fs,FAgree g g' f):did1 O P ops t' g' base o=some d:=by
 unfold did1 at h ⊢
 rw[←wantedA_congr ht]
 split at h
 ·simp at h
 ·exact h
 ·have hev:=looks_evalO ht
  cases hk:kindOf o.op with
  |call c=>
   rw[hk]at h
   simp only[Option.bind_eq_some_iff]at h ⊢
   obtain⟨⟨fc,args⟩,hcal,dc,hdc,hd⟩:=h
   have hop:o.op=.call c:=by
    unfold kindOf at hk
    split at hk<;>simp at hk
    rename_i c' hnb hop
    subst hk
    exact hop
   refine⟨(fc,args),?_,dc,?_,hd⟩
   ·rw[←callee_tmps (fun x hx=>hev x (by rw[hop];exact hx))];exact hcal
   ·refine(aCall_loc hdc fun f hf=>ha f ?_).1
    cases hout:dc.out with
    |ret v=>rw[hout]at hd;simp at hd;subst hd;exact hf
    |pan v=>rw[hout]at hd;simp at hd
  |panic x=>rw[hk]at h;simp at h
  |other=>
   rw[hk]at h
   simp only at h ⊢
   rw[←exec_tmps hev]
   exact exec_loc h ha
theorem before_inner{acc:Array Nat}{i:Nat}:∀{l:List Edge} {s:Nat},(l.foldl (fun s e=>if Region.binds .any e then s|||2 ^ e.on|||acc.getD e.on 0 else s) s).testBit i=true→
 s.testBit i=true∨∃e∈l,Region.binds .any e=true∧(e.on=i∨(acc.getD e.on 0).testBit i=true)
 | [],s,h=>.inl h
 |e::l,s,h=>by
  rcases before_inner (l:=l) h with h|⟨e',he,k1,k2⟩
  ·simp only at h
   by_cases hb:Region.binds .any e=true
   ·rw[if_pos hb,Nat.testBit_or,Nat.testBit_or,Nat.testBit_two_pow]at h
    simp only[Bool.or_eq_true,decide_eq_true_eq]at h
    rcases h with(h|h)|h
    ·exact .inl h
    ·exact .inr ⟨e,List.mem_cons_self ..,hb,.inl h⟩
    ·exact .inr ⟨e,List.mem_cons_self ..,hb,.inr h⟩
   ·rw[if_neg hb]at h;exact .inl h
  ·exact .inr ⟨e',List.mem_cons_of_mem _ he,k1,k2⟩
def beforeStep(acc:Array Nat)(o:Oper):Array Nat:=acc.push (o.after.foldl (fun s e=>if Region.binds .any e then s|||2 ^ e.on|||acc.getD e.on 0 else s) 0)
theorem before_spec_list(l:List Oper):∀(A:Array Nat) (pre:List Oper),A.size=pre.length→
 (∀j i,(A.getD j 0).testBit i=true→∃o e,pre[j]?=some o∧e∈o.after.toList∧Region.binds .any e=true∧(e.on=i∨(e.on<j∧(A.getD e.on 0).testBit i=true)))→
 ∀j i,((l.foldl beforeStep A).getD j 0).testBit i=true→∃o e,(pre++l)[j]?=some o∧e∈o.after.toList∧Region.binds .any e=true∧(e.on=i∨(e.on<j∧((l.foldl beforeStep A).getD e.on 0).testBit i=true)):=by
 induction l with
 |nil=>intro A pre _ h j i hj;simpa using h j i hj
 |cons o l ih=>
  intro A pre hA h j i hj
  have:=ih (beforeStep A o) (pre++[o]) (by simp[beforeStep,hA]) (fun j i hj=>?_) j i hj
  ·simpa using this
  ·have hpush:∀n,n<A.size→(beforeStep A o).getD n 0=A.getD n 0:=fun n hn=>by
    simp only[beforeStep,Array.getD_eq_getD_getElem?,Array.getElem?_push]
    rw[if_neg (by omega)]
   rcases Nat.lt_trichotomy j A.size with hlt|heq|hgt
   ·rw[hpush j hlt]at hj
    obtain⟨o',e,k1,k2,k3,k4⟩:=h j i hj
    refine⟨o',e,?_,k2,k3,?_⟩
    ·rw[List.getElem?_append_left (by omega)];exact k1
    ·rcases k4 with k4|⟨k4,k5⟩
     ·exact .inl k4
     ·exact .inr ⟨k4,by rw[hpush _ (by omega)];exact k5⟩
   ·subst heq
    have hv:(beforeStep A o).getD A.size 0=o.after.foldl (fun s e=>if Region.binds .any e then s|||2 ^ e.on|||A.getD e.on 0 else s) 0:=by
     simp[beforeStep,Array.getD_eq_getD_getElem?]
    rw[hv,←Array.foldl_toList]at hj
    rcases before_inner hj with hz|⟨e,k1,k2,k3⟩
    ·simp at hz
    ·refine⟨o,e,by rw[hA];simp,k1,k2,?_⟩
     rcases k3 with k3|k3
     ·exact .inl k3
     ·have hlt:e.on<A.size:=by
       rcases Nat.lt_or_ge e.on A.size with q|q
       ·exact q
       ·rw[Array.getD_eq_getD_getElem?,Array.getElem?_eq_none q]at k3;simp at k3
      exact .inr ⟨hlt,by rw[hpush _ hlt];exact k3⟩
   ·rw[Array.getD_eq_getD_getElem?,Array.getElem?_eq_none (by simp[beforeStep];omega)]at hj
    simp at hj
theorem before_spec{ops:Array Oper}{j i:Nat}(h:((Region.before ops).getD j 0).testBit i=true):
 ∃o e,ops[j]?=some o∧e∈o.after.toList∧Region.binds .any e=true∧(e.on=i∨(e.on<j∧((Region.before ops).getD e.on 0).testBit i=true)):=by
 have hb:Region.before ops=ops.toList.foldl beforeStep #[]:=by unfold Region.before;rw[←Array.foldl_toList];rfl
 rw[hb]at h ⊢
 have:=before_spec_list ops.toList #[] [] rfl (fun j i hj=>by simp at hj) j i h
 simpa using this
/-- Closed towards what comes before. -/
theorem before_closed{ops:Array Oper}{D:Nat→Bool}(hc:∀(j:Nat) (o:Oper),ops[j]?=some o→D j=true→∀e∈o.after.toList,Region.binds .any e=true→D e.on=true):∀(j i:Nat),D j=true→((Region.before ops).getD j 0).testBit i=true→D i=true:=by
 intro j
 induction j using Nat.strongRecOn with
 |_ j ih=>
  intro i hj h
  obtain⟨o,e,k1,k2,k3,k4⟩:=before_spec h
  have he:=hc j o k1 hj e k2 k3
  rcases k4 with k4|⟨k4,k5⟩
  ·rw[←k4];exact he
  ·exact ih e.on k4 i he k5
theorem mem_unord{ops:Array Oper}{i j:Nat}(hij:i<j)(hj:j<ops.size)(h:((Region.before ops).getD j 0).testBit i=false):(i,j)∈unord ops.toList:=by
 unfold unord
 simp only[List.mem_flatMap,List.mem_range,List.mem_filterMap,Array.toArray_toList]
 exact⟨j,by simpa using hj,i,hij,by rw[h];simp⟩
end
section
variable {P:Program} {G:Nat→Option Obj} {O:Orc} {F:Fence} {nn:Nat}
/-- Some operation of a set is about a block. -/
def InD(D:Nat→Bool)(recs:List (Oper × Did))(b:Nat):Prop:=∃(j:Nat) (o:Oper) (d:Did),D j=true∧recs[j]?=some (o,d)∧Eid d.es b
/-- Behind a set of a region's operations. -/
structure DI(s:St)(recs:List (Oper × Did))(a0:Act)(w0:World)(S0:Nat→Prop)(ρ0:Rho)(D:Nat→Bool)(a:Act)(w:World)(S:Nat→Prop)(ρ:Rho):Prop where
 hr:HR w S ρ (gS D recs (hf s.h))
 tr:TR w S ρ (tS D recs s.tmps) a.tmps
 sim:Sim w0 w S0 S ρ0 ρ
 loc:Loc (InD D recs) w0 w ρ0 ρ
 frs:∀b,ρ b=.fresh↔(ρ0 b=.fresh∧¬InD D recs b)
 defers:a.defers=a0.defers
theorem clash_spec{x y:List HEdit × List Foot}(h:clash x y=false):(∀e∈x.1,∀e'∈y.1,e.foot.meets e'.foot=false)∧(∀e∈x.1,∀f∈y.2,e.foot.meets f=false)∧(∀e∈y.1,∀f∈x.2,e.foot.meets f=false):=by
 unfold clash at h
 simp only[Bool.or_eq_false_iff,List.any_eq_false,List.mem_map,List.mem_append]at h
 obtain⟨h1,h2⟩:=h
 refine⟨fun e he e' he'=>?_,fun e he f hf=>?_,fun e he f hf=>?_⟩
 ·have:=h1 e.foot ⟨e,he,rfl⟩
  simp only[Bool.not_eq_true,List.any_eq_false,List.mem_append,List.mem_map]at this
  exact this e'.foot (.inl ⟨e',he',rfl⟩)
 ·have:=h1 e.foot ⟨e,he,rfl⟩
  simp only[Bool.not_eq_true,List.any_eq_false,List.mem_append,List.mem_map]at this
  exact this f (.inr hf)
 ·have:=h2 e.foot ⟨e,he,rfl⟩
  simp only[Bool.not_eq_true,List.any_eq_false]at this
  exact this f hf
theorem apartO_spec{ops:List Oper}{x y:Oper}(h:apartO ops x y=true):(∀d,x.dst=some d→d∉looks ops y∧y.dst≠some d)∧(∀d,y.dst=some d→d∉looks ops x):=by
 unfold apartO at h
 rw[Bool.and_eq_true]at h
 obtain⟨h1,h2⟩:=h
 refine⟨fun d hd=>?_,fun d hd=>?_⟩
 ·rw[hd]at h1;simpa using h1
 ·rw[hd]at h2;simpa using h2
theorem meets_self{b:Nat}{c:CB}{e:HEdit}(h:e.id=b):(HEdit.new b c).foot.meets e.foot=true:=by
 cases e<;>simp[HEdit.id]at h<;>subst h<;>simp[HEdit.foot,Foot.meets]
theorem getD_true{l:Array Bool}{i:Nat}(h:l.getD i true=false):i<l.size∧l.getD i false=false:=by
 rw[Array.getD_eq_getD_getElem?]at h ⊢
 cases e:l[i]? with
 |none=>rw[e]at h;simp at h
 |some b=>rw[e]at h;simp at h;subst h;exact⟨(Array.getElem?_eq_some_iff.1 e).1,rfl⟩
theorem count_lt{l:List Nat}{p q:Nat→Bool}(hq:∀x,q x=true→p x=true){i:Nat}(hi:i∈l)(h1:p i=true)(h2:q i=false):(l.filter q).length<(l.filter p).length:=by
 induction l with
 |nil=>simp at hi
 |cons x l ih=>
  have hle:(l.filter q).length≤(l.filter p).length:=by
   clear ih hi
   induction l with
   |nil=>simp
   |cons y l ih=>
    cases e1:q y with
    |true=>rw[List.filter_cons_of_pos e1,List.filter_cons_of_pos (hq y e1)];simpa using ih
    |false=>
     rw[List.filter_cons_of_neg (by simp[e1])]
     cases e2:p y with
     |true=>rw[List.filter_cons_of_pos e2];simp only[List.length_cons];omega
     |false=>rw[List.filter_cons_of_neg (by simp[e2])];exact ih
  rcases List.mem_cons.1 hi with rfl|hi
  ·rw[List.filter_cons_of_pos h1,List.filter_cons_of_neg (by simp[h2])];simp only[List.length_cons];omega
  ·have:=ih hi
   cases e1:q x with
   |true=>rw[List.filter_cons_of_pos e1,List.filter_cons_of_pos (hq x e1)];simp only[List.length_cons];omega
   |false=>
    rw[List.filter_cons_of_neg (by simp[e1])]
    cases e2:p x with
    |true=>rw[List.filter_cons_of_pos e2];simp only[List.length_cons];omega
    |false=>rw[List.filter_cons_of_neg (by simp[e2])];exact this
theorem draws_ok(hm:P.follows .mixedOrders=true)(hO:CallsOK P G O):DrawsOK P G O:=by
 intro ops B k r s a0 w0 S0 ρ0 id F nn hF hst hev hI hs
 obtain⟨recs,s',hruns,hmap,hk⟩:=evOps_runs hev
 simp only[List.nil_append]at hk
 have hdk:drawDyn ops.toList (recs.map fun x=>(x.2.es,x.2.fs))=true∧k s' (recs.map fun x=>(x.2.es,x.2.fs))=some r:=by
  unfold guardB at hk
  cases e:drawDyn ops.toList (recs.map fun x=>(x.2.es,x.2.fs))with
  |true=>rw[e]at hk;exact⟨rfl,hk⟩
  |false=>rw[e]at hk;simp at hk
 obtain⟨hdyn,hk⟩:=hdk
 have hlen:recs.length=ops.size:=by have:=congrArg List.length hmap;simpa using this
 have hget:∀(i:Nat) o d,recs[i]?=some (o,d)→ops[i]?=some o:=fun i o d h=>by
  have:(recs.map (·.1))[i]?=some o:=by rw[List.getElem?_map,h];rfl
  rw[hmap]at this;simpa using this
 unfold drawSt at hst
 rw[Bool.and_eq_true]at hst
 obtain⟨hedge,hap⟩:=hst
 have pair:∀(i j:Nat) x y,i<j→recs[i]?=some x→recs[j]?=some y→((Region.before ops).getD j 0).testBit i=false→apartO ops.toList x.1 y.1=true∧clash (x.2.es,x.2.fs) (y.2.es,y.2.fs)=false:=fun i j x y hij hi hj hb=>by
  have hjl:j<ops.size:=by rw[←hlen];exact(List.getElem?_eq_some_iff.1 hj).1
  have hmem:=mem_unord hij hjl hb
  refine⟨?_,?_⟩
  ·have:=List.all_eq_true.1 hap _ hmem
   have e1:=hget i x.1 x.2 hi
   have e2:=hget j y.1 y.2 hj
   simp only[Array.getElem?_toList,e1,e2]at this
   exact this
  ·have:=List.all_eq_true.1 hdyn _ hmem
   simp only[List.getElem?_map,hi,hj,Option.map_some]at this
   simpa using this
 have FF:=hs.1
 -- what is looked at, what is fresh, at a set of operations
 have step:∀(D:Nat→Bool) (i:Nat) (o:Oper) (d:Did),recs[i]?=some (o,d)→D i=false→
  (∀(j:Nat) (o:Oper),ops[j]?=some o→(D j=true∨j=i)→∀e∈o.after.toList,Region.binds .any e=true→D e.on=true)→
  ∀a w S ρ,DI s recs a0 w0 S0 ρ0 D a w S ρ→∀(Q:Exit→Act→World→Prop) (K:Act→World→Prop) (D':Nat→Bool),D' i=true→(∀j,j≠i→D' j=D j)→
  (∀a' w' S' ρ',DI s recs a0 w0 S0 ρ0 D' a' w' S' ρ'→K a' w')→wpOpIn F nn P ops Q i K a w:=by
  intro D i o d hi hDi hcl a w S ρ hDI Q K D' hD'i hD' hK
  obtain⟨h,t1,t2,t3,t4,t5,t6,t7⟩:=hruns.at i o d hi
  have hil:i<ops.size:=by rw[←hlen];exact(List.getElem?_eq_some_iff.1 hi).1
  have hclD:∀(j:Nat) (o:Oper),ops[j]?=some o→D j=true→∀e∈o.after.toList,Region.binds .any e=true→D e.on=true:=fun j o hj hd=>hcl j o hj (.inl hd)
  have hclD':∀(j:Nat) (o:Oper),ops[j]?=some o→D' j=true→∀e∈o.after.toList,Region.binds .any e=true→D' e.on=true:=fun j o hj hd e he hb=>by
   have hD:D e.on=true:=by
    by_cases hji:j=i
    ·exact hcl j o hj (.inr hji) e he hb
    ·exact hcl j o hj (.inl (by rw[←hD' j hji];exact hd)) e he hb
   have hne:e.on≠i:=fun q=>by rw[q,hDi]at hD;cases hD
   rw[hD' _ hne];exact hD
  -- later operations that are done do not wait for this one
  have later:∀j o' d',recs[j]?=some (o',d')→i<j→D j=true→apartO ops.toList o o'=true∧clash (d.es,d.fs) (d'.es,d'.fs)=false:=fun j o' d' hj hij hDj=>by
   refine pair i j (o,d) (o',d') hij hi hj ?_
   cases hb:((Region.before ops).getD j 0).testBit i with
   |false=>rfl
   |true=>have:=before_closed hclD j i hDj hb;rw[hDi]at this;cases this
  have earlier:∀j o' d',recs[j]?=some (o',d')→j<i→D j=false→apartO ops.toList o' o=true∧clash (d'.es,d'.fs) (d.es,d.fs)=false:=fun j o' d' hj hij hDj=>by
   refine pair j i (o',d') (o,d) hij hj hi ?_
   cases hb:((Region.before ops).getD i 0).testBit j with
   |false=>rfl
   |true=>
    have:=before_closed hclD' i j hD'i hb
    rw[hD' j (by omega),hDj]at this;cases this
  have hdiff:∀j o' d',recs[j]?=some (o',d')→decide (j<i)≠D j→(∀x,o'.dst=some x→x∉looks ops.toList o)∧∀e∈d'.es,∀f∈d.fs,e.foot.meets f=false:=fun j o' d' hj hne=>by
   by_cases hji:j<i
   ·have hDj:D j=false:=by
     cases e:D j with
     |false=>rfl
     |true=>rw[e]at hne;simp[hji]at hne
    obtain⟨q1,q2⟩:=earlier j o' d' hj hji hDj
    exact⟨fun x hx=>((apartO_spec q1).1 x hx).1,fun e he f hf=>(clash_spec q2).2.1 e he f hf⟩
   ·have hDj:D j=true:=by
     cases e:D j with
     |true=>rfl
     |false=>rw[e]at hne;simp[hji]at hne
    have hij:i<j:=by
     rcases Nat.lt_trichotomy i j with q|q|q
     ·exact q
     ·subst q;rw[hDi]at hDj;cases hDj
     ·omega
    obtain⟨q1,q2⟩:=later j o' d' hj hij hDj
    exact⟨fun x hx=>(apartO_spec q1).2 x hx,fun e he f hf=>(clash_spec q2).2.2 e he f hf⟩
  have hta:∀x∈looks ops.toList o,tget (tS (fun n=>decide (n<i)) recs s.tmps) x=tget (tS D recs s.tmps) x:=
   tS_agree (fun j o' d' hj hne=>(hdiff j o' d' hj hne).1) rfl (fun _ _=>rfl)
  have hga:∀f∈d.fs,FAgree (gS (fun n=>decide (n<i)) recs (hf s.h)) (gS D recs (hf s.h)) f:=fun f hf=>
   gS_agree (fun j o' d' hj hne e he=>(hdiff j o' d' hj hne).2 e he f hf) (FAgree.refl _ _)
  have hd:=did1_loc t1 hta hga
  have hfresh:∀b c,HEdit.new b c∈d.es→ρ b=.fresh:=fun b c hb=>by
   have hbl:=esOK_new t3.ok b c hb
   refine(hDI.frs b).2 ⟨FF.dom b (Nat.le_trans t4 hbl),fun⟨j,o',d',hDj,hj,hE⟩=>?_⟩
   rcases Nat.lt_trichotomy i j with q|q|q
   ·obtain⟨e,he,hid⟩:=hE
    have:=(clash_spec (later j o' d' hj q hDj).2).1 _ hb e he
    rw[meets_self hid]at this;cases this
   ·subst q;rw[hDi]at hDj;cases hDj
   ·have:=t7 j o' d' q hj b hE;omega
  have hz:ρ s'.h.length=.fresh:=(hDI.frs _).2 ⟨FF.dom _ (Nat.le_trans t4 t5),fun⟨j,o',d',hDj,hj,hE⟩=>by
   obtain⟨_,_,_,_,_,_,u6,_⟩:=hruns.at j o' d' hj
   have:=u6 _ hE;omega⟩
  have hgf:∀b,gS D recs (hf s.h) b≠none→ρ b≠.fresh:=fun b hb hfr=>by
   obtain⟨f1,f2⟩:=(hDI.frs b).1 hfr
   rcases gS_some hb with q|q
   ·have hlt:b<s.h.length:=by
     cases e:hf s.h b with
     |none=>exact(q e).elim
     |some c=>exact lt_of_hf e
    exact FF.all b hlt f1
   ·exact f2 q
  refine op_sound hF hO (hget i o d hi) (hI.sim (FF.sim.trans hDI.sim)) hDI.hr hDI.tr hz hgf hd ?_ (fun hm b hb=>by
   have e:gS D recs (hf s.h)=gS (fun n=>decide (n<i)) recs (hf s.h):=hga .all hm
   rw[e,t2];exact hf_none hb) hfresh ?_
  ·intro vs vs' cs m hp hblk b hb
   have:=pack_loc (g:=gS D recs (hf s.h)) (g':=gS (fun n=>decide (n<i)) recs (hf s.h)) hp (fun b' hb'=>(hga (.blk b') (hblk b' hb')).symm)
   rw[t2]at this
   exact pack_lt this b hb
  ·intro cv w' S' ρ' hv hHR hsim hloc hfrs
   have ht:tS D' recs s.tmps=put (tS D recs s.tmps) o.dst d.v:=tS_insert hi hDi hD'i hD' (fun j o' d' hj hij hDj c hc=>((apartO_spec (later j o' d' hj hij hDj).1).1 c hc).2)
   have hg:gS D' recs (hf s.h)=fapp (gS D recs (hf s.h)) d.es:=gS_insert hi hDi hD'i hD' (fun j o' d' hj hij hDj=>(clash_spec (later j o' d' hj hij hDj).2).1)
   have hin:∀b,InD D' recs b↔InD D recs b∨Eid d.es b:=fun b=>by
    constructor
    ·rintro⟨j,o',d',q1,q2,q3⟩
     by_cases hji:j=i
     ·subst hji;rw[hi]at q2;cases q2;exact .inr q3
     ·exact .inl ⟨j,o',d',by rw[←hD' j hji];exact q1,q2,q3⟩
    ·rintro(⟨j,o',d',q1,q2,q3⟩|q)
     ·by_cases hji:j=i
      ·subst hji;rw[hDi]at q1;cases q1
      ·exact⟨j,o',d',by rw[hD' j hji];exact q1,q2,q3⟩
     ·exact⟨i,o,d,hD'i,hi,q⟩
   refine hK _ w' S' ρ' ⟨?_,?_,hDI.sim.trans hsim,?_,fun b=>?_,by rw[put_defers];exact hDI.defers⟩
   ·rw[hg];exact hHR
   ·rw[ht];exact put_sound (LR.sim hsim hDI.tr) o.dst hv
   ·exact(hDI.loc.trans hloc).mono (fun b hb=>(hin b).2 hb)
   ·rw[hfrs b,hDI.frs b,hin b]
    constructor
    ·rintro⟨⟨q1,q2⟩,q3⟩;exact⟨q1,fun q=>q.elim q2 q3⟩
    ·rintro⟨q1,q2⟩;exact⟨⟨q1,fun q=>q2 (.inl q)⟩,fun q=>q2 (.inr q)⟩
 -- all operations are done
 have fin:∀(D:Nat→Bool) a w S ρ,(∀i,i<ops.size→D i=true)→DI s recs a0 w0 S0 ρ0 D a w S ρ→OQ B k (fun _ _=>none) r .normal a w:=by
  intro D a w S ρ hall hDI
  obtain⟨l1,l2,l3⟩:=hruns.last
  have hgA:gS D recs (hf s.h)=fapp (hf s.h) (allEs recs):=by
   rw[←gS_all];exact gS_congr (fun i hi=>hall i (by omega))
  have htA:tS D recs s.tmps=s'.tmps:=by rw[l1];exact tS_congr (fun i hi=>hall i (by omega))
  have hinA:∀b,InD D recs b↔Eid (allEs recs) b:=fun b=>by
   rw[mem_allEs]
   constructor
   ·rintro⟨j,o,d,_,h1,h2⟩;exact⟨j,o,d,h1,h2⟩
   ·rintro⟨j,o,d,h1,h2⟩;exact⟨j,o,d,hall j (by rw[←hlen];exact(List.getElem?_eq_some_iff.1 h1).1),h1,h2⟩
  have hFI:=FF.step l3 (by rw[←hgA];exact hDI.hr) hDI.sim (hDI.loc.mono fun b hb=>(hinA b).1 hb) (fun b=>by rw[hDI.frs b,hinA b])
  rw[←l2]at hFI
  refine⟨s',recs.map fun x=>(x.2.es,x.2.fs),S,ρ,hk,hFI,?_,?_,?_⟩
  ·rw[←htA];exact hDI.tr
  ·rw[hDI.defers];exact hs.2.2.1.later hs.1.hr hDI.sim
  ·rw[hDI.defers]
   refine⟨hs.2.2.2.1,fun l hl=>?_⟩
   obtain⟨r,hr⟩:=hs.2.2.2.2 l hl
   obtain⟨st,pe,k⟩:=hDI.sim.loops l r hr
   exact⟨_,k⟩
 -- the drawing
 have main:∀fuel (listed:Array Bool) a w S ρ,listed.size=ops.size→((List.range ops.size).filter fun i=> !listed.getD i false).length≤fuel→
  (∀(j:Nat) (o:Oper),ops[j]?=some o→listed.getD j false=true→∀e∈o.after.toList,Region.binds .any e=true→listed.getD e.on false=true)→
  DI s recs a0 w0 S0 ρ0 (fun i=>listed.getD i false) a w S ρ→wpAnyIn F nn P .any ops (OQ B k (fun _ _=>none) r) fuel listed a w:=by
  intro fuel
  induction fuel with
  |zero=>
   intro listed a w S ρ hsz hcnt hcl hDI
   have hall:∀i,i<ops.size→listed.getD i false=true:=fun i hi=>by
    cases e:listed.getD i false with
    |true=>rfl
    |false=>
     have:i∈(List.range ops.size).filter fun i=> !listed.getD i false:=List.mem_filter.2 ⟨List.mem_range.2 hi,by simp only[e];rfl⟩
     rw[List.length_eq_zero_iff.1 (Nat.le_zero.1 hcnt)]at this;simp at this
   refine⟨?_,fin _ a w S ρ hall hDI⟩
   unfold Region.ready
   rw[List.filter_eq_nil_iff]
   intro i hi hr
   rw[Bool.and_eq_true]at hr
   have h1:=(getD_true (l:=listed) (i:=i) (by simpa using hr.1)).2
   rw[hall i (List.mem_range.1 hi)]at h1;cases h1
  |succ fuel ih=>
   intro listed a w S ρ hsz hcnt hcl hDI
   refine⟨fun hnil=>fin _ a w S ρ (fun i hi=>?_) hDI,fun i hi=>?_⟩
   · -- the least that is not done would be ready
     induction i using Nat.strongRecOn with
     |_ i ihi=>
      cases e:listed.getD i false with
      |true=>rfl
      |false=>
       have hmem:i∈Region.ready .any ops listed:=by
        unfold Region.ready
        refine List.mem_filter.2 ⟨List.mem_range.2 hi,?_⟩
        rw[Bool.and_eq_true]
        refine⟨?_,?_⟩
        ·have hlt:i<listed.size:=by omega
         rw[Array.getD_eq_getD_getElem?,Array.getElem?_eq_getElem hlt]at e ⊢
         simp at e ⊢;exact e
        ·have ho:ops[i]?=some ops[i]:=Array.getElem?_eq_getElem hi
         rw[ho]
         simp only[Option.map_some,Option.getD_some,Array.all_eq_true']
         intro ed hed
         have hE:=List.all_eq_true.1 hedge i (List.mem_range.2 (by simpa using hi))
         simp only[Array.getElem?_toList,ho,Array.all_eq_true']at hE
         have:=hE ed hed
         cases hb:Region.binds .any ed with
         |false=>rfl
         |true=>
          rw[hb]at this
          simp at this
          simp only[Bool.not_true,Bool.false_or]
          exact ihi ed.on this (by omega)
       rw[hnil]at hmem;simp at hmem
   ·have hi':=hi
    unfold Region.ready at hi'
    obtain⟨hir,hrd⟩:=List.mem_filter.1 hi'
    rw[Bool.and_eq_true]at hrd
    have hir:=List.mem_range.1 hir
    obtain⟨g1,g2⟩:=getD_true (l:=listed) (i:=i) (by simpa using hrd.1)
    have hrec:∃o d,recs[i]?=some (o,d):=⟨_,_,List.getElem?_eq_getElem (by omega:i<recs.length)⟩
    obtain⟨o,d,hrec⟩:=hrec
    have ho:=hget i o d hrec
    have hafter:∀e∈o.after.toList,Region.binds .any e=true→listed.getD e.on false=true:=fun e he hb=>by
     have:=hrd.2
     rw[ho]at this
     simp only[Option.map_some,Option.getD_some,Array.all_eq_true']at this
     have:=this e (by simpa using he)
     rw[hb]at this
     simpa using this
    have hset:∀j,j≠i→(listed.setIfInBounds i true).getD j false=listed.getD j false:=fun j hj=>getD_set_ne false (Ne.symm hj)
    have hseti:(listed.setIfInBounds i true).getD i false=true:=by
     rw[Array.getD_eq_getD_getElem?,Array.getElem?_setIfInBounds_self_of_lt g1];rfl
    refine step (fun i=>listed.getD i false) i o d hrec g2 ?_ a w S ρ hDI _ _ (fun j=>(listed.setIfInBounds i true).getD j false) hseti hset ?_
    ·intro j o' hj hor e he hb
     rcases hor with hor|rfl
     ·exact hcl j o' hj hor e he hb
     ·rw[ho]at hj;cases hj;exact hafter e he hb
    ·intro a' w' S' ρ' hDI'
     refine ih (listed.setIfInBounds i true) a' w' S' ρ' (by simpa using hsz) ?_ ?_ hDI'
     ·have:=count_lt (l:=List.range ops.size) (p:=fun i=> !listed.getD i false) (q:=fun j=> !(listed.setIfInBounds i true).getD j false) (fun x hx=>by
       by_cases hxi:x=i
       ·subst hxi;rw[hseti]at hx;simp at hx
       ·rw[hset x hxi]at hx;exact hx) (List.mem_range.2 hir) (by rw[g2];rfl) (by rw[hseti];rfl)
      omega
     ·intro j o' hj hor e he hb
      have hD:listed.getD e.on false=true:=by
       by_cases hji:j=i
       ·subst hji;rw[ho]at hj;cases hj;exact hafter e he hb
       ·exact hcl j o' hj (by rw[←hset j hji];exact hor) e he hb
      exact getD_set_true hD
 refine wpIn_region_any hm (main ops.size (Array.replicate ops.size false) a0 w0.drew S0 ρ0 (by simp) ?_ ?_ ?_)
 ·exact Nat.le_trans (List.length_filter_le _ _) (by simp)
 ·intro j o _ hj
  rw[Array.getD_eq_getD_getElem?,Array.getElem?_replicate]at hj
  split at hj<;>simp at hj
 ·have hno:∀i,(Array.replicate ops.size false).getD i false=false:=fun i=>by
   rw[Array.getD_eq_getD_getElem?,Array.getElem?_replicate]
   split<;>rfl
  have hnoD:∀b,¬InD (fun i=>(Array.replicate ops.size false).getD i false) recs b:=fun b ⟨j,_,_,q,_⟩=>by have h0:=hno j;simp only[h0]at q;cases q
  refine⟨?_,?_,Sim.drew _ _ _,fun b cb co st sz h _=>⟨h,rfl⟩,fun b=>⟨fun h=>⟨h,hnoD b⟩,fun h=>h.1⟩,rfl⟩
  ·rw[gS_none hno];exact FF.hr.drew
  ·rw[tS_none hno];exact LR.sim (Sim.drew _ _ _) hs.2.1
end
section
variable {P:Program} {G:Nat→Option Obj} {O:Orc}
theorem setPs_sound{w:World}{S:Nat→Prop}{ρ:Rho}:∀{ps:List Nat} {vs:List AV} {cs:List Value} {tmps:List AV} {ct:Array Value},LR w S ρ vs cs→ps.length=vs.length→LR w S ρ tmps ct.toList→
 LR w S ρ (setPs tmps ps vs) ((ps.zip cs).foldl (fun t (p:Nat × Value)=>t.setIfInBounds p.1 p.2) ct).toList
 | [],vs,cs,tmps,ct,_,_,h=>by simpa [setPs]using h
 |p::ps,[],cs,tmps,ct,_,hl,_=>by simp at hl
 |p::ps,v::vs,cs,tmps,ct,hv,hl,h=>by
  obtain⟨c,cs',rfl,h1,h2⟩:=hv.cons_inv
  simp only[setPs,List.zip_cons_cons,List.foldl_cons]
  exact setPs_sound h2 (by simpa using hl) (by rw[Array.toList_setIfInBounds];exact h.set p h1)
/-- The state of a record is set. -/
theorem Sim.loop{w:World}{S:Nat→Prop}{ρ:Rho}{b l:Nat}(hb:ρ b=.lp l)(hS:¬S l){r:Loop}(hr:w.heap[l]?=some (.loop r))(st:LoopState)(pe:Option Code):
 Sim w (Ev.setB w l (.loop { r with state:=st,pending:=pe })) S S ρ ρ where
 size:=by simp[Ev.setB]
 os:=rfl
 tape:=rfl
 output:=rfl
 keep:=fun b hb=>setB_other (fun e=>hS (e▸hb))
 sub:=fun _ h=>h
 le:=ρ.le_refl
 other:=fun b' _ _ hn=>setB_other (fun e=>hn b (by rw[e];exact hb))
 rng:=fun id _ co st sz h=>.inr ⟨id,co,st,sz,h⟩
 grow:=fun _ h=>.inl h
 objs:=fun b o' hb ho=>by rw[setB_other (fun e=>by rw[e,hr]at hb;cases hb;simp[isCellsO]at ho)];exact hb
 loops:=fun b' r' hb'=>by
  by_cases e:b'=l
  ·subst e;rw[hr]at hb';cases hb'
   exact⟨st,pe,setB_same hr⟩
  ·exact⟨r'.state,r'.pending,by rw[setB_other e];exact hb'⟩
 lrng:=fun id _ h=>.inr ⟨id,h⟩
theorem HR.loop{w:World}{S:Nat→Prop}{ρ:Rho}{g:HF}(H:HR w S ρ g){b l:Nat}(hb:ρ b=.lp l){r:Loop}(hr:w.heap[l]?=some (.loop r)){ps:List Nat}{asg body:Code}{tmps:List AV}{st:LSt}
 (hg:g b=some (.lp ps asg body tmps st)) {st':LSt} {x:LoopState} {y:Option Code} (hh:st'.holds x y):HR (Ev.setB w l (.loop { r with state:=x,pending:=y })) S ρ (upd g b (.lp ps asg body tmps st')):=by
 have hs:=Sim.loop hb (H.lnS b l hb) hr x y
 refine⟨fun b' cb co st sz h=>?_,fun b' h=>?_,H.inj,fun b' h=>by have:=H.old b' h;simpa [Ev.setB]using this,fun b' l' h=>?_,H.linj,H.lnS⟩
 ·obtain⟨c,e,fz,fl,rows,h1,h2,h3,h4⟩:=H.at_ b' cb co st sz h
  have hne:b'≠b:=fun e=>by rw[e,hb]at h;cases h
  refine⟨c,e,fz,fl,rows,by rw[setB_other (fun e=>by rw[e,hr]at h1;cases h1)];exact h1,h2,h3.sim hs,by simpa [upd,hne]using h4⟩
 ·have hne:b'≠b:=fun e=>by rw[e,hb]at h;cases h
  simpa [upd,hne]using H.dead b' h
 ·by_cases e:b'=b
  ·subst e
   rw[hb]at h;cases h
   obtain⟨r1,ps1,asg1,body1,tmps1,st1,h1,h2,h3⟩:=H.lps _ _ hb
   rw[hr]at h1;cases h1
   rw[hg]at h2;cases h2
   exact⟨_,ps,asg,body,tmps,st',setB_same hr,by simp[upd],h3.params,h3.assign,h3.body,LR.sim hs h3.tmps,hh⟩
  ·obtain⟨r1,ps1,asg1,body1,tmps1,st1,h1,h2,h3⟩:=H.lps _ _ h
   have hne:l'≠l:=fun q=>e (H.linj _ _ _ h (q▸hb))
   exact⟨r1,ps1,asg1,body1,tmps1,st1,by rw[setB_other hne];exact h1,by simpa [upd,e]using h2,h3.sim hs⟩
theorem FI.loop{h0:Heap}{w0:World}{S0:Nat→Prop}{ρ0:Rho}{h:Heap}{w:World}{S:Nat→Prop}{ρ:Rho}(F:FI h0 w0 S0 ρ0 h w S ρ){b l:Nat}(hb:ρ b=.lp l){r:Loop}(hr:w.heap[l]?=some (.loop r)){ps:List Nat}{asg body:Code}{tmps:List AV}{st:LSt}
 (hg:h[b]?=some (.lp ps asg body tmps st)) {st':LSt} {x:LoopState} {y:Option Code} (hh:st'.holds x y):
 FI h0 w0 S0 ρ0 (h.set b (.lp ps asg body tmps st')) (Ev.setB w l (.loop { r with state:=x,pending:=y })) S ρ:=by
 have hlt:b<h.length:=(List.getElem?_eq_some_iff.1 hg).1
 have hg':hf h b=some (.lp ps asg body tmps st):=hg
 have hes:EsGood h [.put b (.lp ps asg body tmps st')]:=by
  refine⟨⟨hlt,trivial⟩,fun b' ⟨e,he,hid⟩ _=>?_,fun b' hn=>?_⟩
  ·simp at he;subst he;simp[HEdit.id]at hid;subst hid
   refine⟨⟨_,hg',rfl⟩,fun c hc=>?_⟩
   simp[fapp,fapp1,upd]at hc;subst hc;rfl
  ·simp only[fapp,fapp1,upd]
   rw[if_neg (fun e=>hn ⟨_,List.mem_singleton.2 rfl,e.symm⟩)]
 have:=F.step hes (w':=Ev.setB w l (.loop { r with state:=x,pending:=y })) (S':=S) (ρ':=ρ) (F.hr.loop hb hr hg' hh) (Sim.loop hb (F.hr.lnS b l hb) hr x y)
  (fun b' cb co st sz h' _=>⟨h',setB_other (fun e=>by
    obtain⟨_,_,_,_,_,q,_⟩:=F.hr.at_ _ _ _ _ _ h'
    rw[e,hr]at q;cases q)⟩)
  (fun b'=>⟨fun h'=>⟨h',fun⟨e,he,hid⟩=>by
    simp at he;subst he;simp[HEdit.id]at hid;subst hid;rw[hb]at h';cases h'⟩,fun h'=>h'.1⟩)
 exact this
theorem WF.inRound{F:Fence}(h:WF F)(l:Nat):WF (F.inRound l):=by
 rcases h with rfl|⟨l',rfl⟩
 ·exact .inr ⟨l,rfl⟩
 ·exact .inr ⟨l,rfl⟩
theorem setLp_spec{h h':Heap}{b:Nat}{ok:LSt→Bool}{st:LSt}(hs:setLp h b ok st=some h'):∃ps asg body tmps st',h[b]?=some (.lp ps asg body tmps st')∧ok st'=true∧h'=h.set b (.lp ps asg body tmps st):=by
 unfold setLp at hs
 split at hs
 ·rename_i ps asg body tmps st' hb
  split at hs
  ·rename_i hok;simp at hs;exact⟨ps,asg,body,tmps,st',hb,hok,hs.symm⟩
  ·simp at hs
 ·simp at hs
/-- A record that is there for the frame is where it was. -/
theorem FI.lpAt{h0:Heap}{w0:World}{S0:Nat→Prop}{ρ0:Rho}{h:Heap}{w:World}{S:Nat→Prop}{ρ:Rho}(F:FI h0 w0 S0 ρ0 h w S ρ){b l:Nat}(hb:ρ0 b=.lp l){ps:List Nat}{asg body:Code}{tmps:List AV}{st:LSt}
 (hg:h[b]?=some (.lp ps asg body tmps st)):ρ b=.lp l∧∃r,w.heap[l]?=some (.loop r)∧st.holds r.state r.pending:=by
 have hρ:ρ b=.lp l:=by
  rcases F.sim.le b with q|q|q
  ·rw[hb]at q;cases q
  ·rw[q,hb]
  ·have:=F.hr.dead b q
   rw[show hf h b=some _ from hg]at this;cases this
 obtain⟨r,_,_,_,_,_,h1,h2,h3⟩:=F.hr.lps b l hρ
 rw[show hf h b=some _ from hg]at h2;cases h2
 exact⟨hρ,r,h1,h3.state⟩
theorem evRound_sound(hO:CallsOK P G O)(hL:LoopsOK P G O)(hD:DrawsOK P G O)(hR:RangesOK P G O){args:List AV}{h h':Heap}{out:Out}(he:evRound O P args h=some (out,h')){w:World}{S:Nat→Prop}{ρ:Rho}{cargs:Array Value}{l:Nat}
 (hI:Inv G w S) (H:HR w S ρ (hf h)) (dom:∀b,h.length≤b→ρ b=.fresh) (all:∀b,b<h.length→ρ b≠.fresh) (hargs:LR w S ρ args (cargs.toList++[.func (.yield l) #[] #[]])):
 ∃fn tmps asg body,(Instr.yield l cargs).run P w=.ok (.round l fn tmps asg body) w∧∀F nn,WF F→RoundIn F nn P l fn tmps asg body w (CPost h w S ρ out h'):=by
 unfold evRound at he
 split at he
 ·rename_i b vs hrev
  have ha:args=vs.reverse++[.yl b]:=by have:=congrArg List.reverse hrev;simpa using this
  subst ha
  have hlen:vs.reverse.length=cargs.toList.length:=by have:=hargs.1;simpa using this
  have hvs:LR w S ρ vs.reverse cargs.toList:=by have:=hargs.take vs.reverse.length;rw[List.take_left',hlen,List.take_left']at this<;>first|exact this|rfl
  have hyl:VR w S ρ (.yl b) (.func (.yield l) #[] #[]):=hargs.2 vs.reverse.length _ _ (by simp) (by rw[hlen];simp)
  split at he
  ·rename_i ps asg body tmps st0 hb
   have hρ:ρ b=.lp l:=by
    cases hyl with
    |yl q=>exact q
    |ylD q=>have:=H.dead b q;rw[show hf h b=some _ from hb]at this;cases this
   obtain⟨r,ps1,asg1,body1,tmps1,st1,h1,h2,h3⟩:=H.lps b l hρ
   rw[show hf h b=some _ from hb]at h2;cases h2
   split at he
   ·rename_i hps
    have hsz:cargs.size=r.params.size:=by
     have e1:=congrArg List.length h3.params
     simp at e1 hlen;omega
    refine⟨_,_,_,_,run_yield h1 hsz,fun F nn hF=>roundIn_of_wpIn (hF.fn _) ?_⟩
    rw[h3.assign,h3.body]
    obtain⟨⟨e1,s1⟩,hm1,he⟩:=Option.bind_eq_some_iff.1 he
    simp only at he
    have hT:TR w S ρ (setPs tmps ps vs.reverse) ((r.params.zip cargs).foldl (fun tmps (t,a)=>tmps.setIfInBounds t a) r.tmps):=by
     have:=setPs_sound (ps:=ps) hvs (by simpa using hps) h3.tmps
     rw[←Array.foldl_toList,Array.toList_zip,h3.params]
     exact this
    have hs:SRel ⟨h,w,S,ρ,some l⟩ ⟨setPs tmps ps vs.reverse,h⟩ { tmps:=(r.params.zip cargs).foldl (fun tmps (t,a)=>tmps.setIfInBounds t a) r.tmps,defers:=[] } w S ρ:=
     ⟨FI.start H dom all,hT,fun d hd=>by simp at hd,List.Pairwise.nil,fun l' hl'=>by cases hl';exact⟨r,h1⟩⟩
    refine wpIn_mono (evM_sound (hF.inRound l) hO hL hD hR rfl hI fuelM hm1 hs) (fun ex a1 w1 hk=>?_)
    obtain⟨m,_,e',s',hp,S1,ρ1,hs1,hex⟩:=hk
    simp only[popK,Option.some.injEq,Prod.mk.injEq]at hp
    obtain⟨rfl,rfl⟩:=hp
    cases e' with
    |normal=>
     cases ex<;>simp[ExR]at hex
     obtain⟨hb1,hset1,he⟩:=Option.bind_eq_some_iff.1 he
     obtain⟨⟨e2,s2⟩,hm2,he⟩:=Option.bind_eq_some_iff.1 he
     obtain⟨⟨rb,st2⟩,hre,he⟩:=Option.bind_eq_some_iff.1 he
     obtain⟨hb2,hset2,he⟩:=Option.bind_eq_some_iff.1 he
     simp only[Option.some.injEq,Prod.mk.injEq]at he
     obtain⟨rfl,rfl⟩:=he
     obtain⟨qs,qa,qb,qt,qst,g1,g2,rfl⟩:=setLp_spec hset1
     obtain⟨hρ1,r1,hr1,hst1⟩:=hs1.1.lpAt (show(⟨h,w,S,ρ,some l⟩:Beg).ρ0 b=.lp l from hρ) g1
     have hready:qst=.ready:=by cases qst<;>simp[LSt.isReady]at g2;rfl
     subst hready
     refine⟨_,run_beginRound hr1 hst1.1,?_⟩
     have hFI1:=hs1.1.loop (st':=.busy) (x:=.busy) (y:=r1.pending) hρ1 hr1 g1 ⟨rfl,hst1.2⟩
     have hs2:SRel ⟨h,w,S,ρ,some l⟩ ⟨s'.tmps,s'.h.set b (.lp qs qa qb qt .busy)⟩ a1 (Ev.setB w1 l (.loop { r1 with state:=.busy,pending:=r1.pending })) S1 ρ1:=
      hs1.later hFI1 (Sim.loop hρ1 (hs1.1.hr.lnS b l hρ1) hr1 .busy r1.pending)
     refine wpIn_mono (evM_sound (hF.inRound l) hO hL hD hR rfl hI fuelM hm2 hs2) (fun ex2 a2 w2 hk2=>?_)
     obtain⟨m',_,e3,s3,hp2,S2,ρ2,hs3,hex2⟩:=hk2
     simp only[popK,Option.some.injEq,Prod.mk.injEq]at hp2
     obtain⟨rfl,rfl⟩:=hp2
     obtain⟨us,ua,ub,ut,ust,j1,j2,rfl⟩:=setLp_spec hset2
     obtain⟨hρ2,r2,hr2,hst2⟩:=hs3.1.lpAt (show(⟨h,w,S,ρ,some l⟩:Beg).ρ0 b=.lp l from hρ) j1
     have last:∀(jump:Option Code),st2.holds (if jump.isNone then .ready else .done) jump→rb=jump.isNone→
      ∃v w',(Instr.endRound l jump).run P w2=.ok v w'∧CPost h w S ρ (.ret (.bool rb)) (s3.h.set b (.lp us ua ub ut st2)) (.returned v) w':=fun jump hh hrb=>by
      refine⟨_,_,run_endRound jump hr2,?_⟩
      have hFI2:=hs3.1.loop hρ2 hr2 j1 hh
      subst hrb
      exact⟨_,S2,ρ2,⟨⟨_,rfl⟩,rfl⟩,hFI2.post (VR.bool _)⟩
     cases e3 with
     |normal=>
      cases ex2<;>simp[ExR]at hex2
      simp[roundEnd]at hre
      obtain⟨rfl,rfl⟩:=hre
      exact last none ⟨rfl,rfl⟩ rfl
     |ret=>
      cases ex2<;>simp[ExR]at hex2
      simp[roundEnd]at hre
      obtain⟨rfl,rfl⟩:=hre
      exact last (some .ret) ⟨rfl,rfl⟩ rfl
     |exit i=>
      cases ex2<;>simp[ExR]at hex2
      subst hex2
      simp[roundEnd]at hre
      obtain⟨rfl,rfl⟩:=hre
      exact last (some (.exit i)) ⟨rfl,rfl⟩ rfl
     |pan v=>simp[roundEnd]at hre
    |_=>simp at he
   ·simp at he
  ·simp at he
 ·simp at he
end
section
variable {P:Program} {G:Nat→Option Obj} {O:Orc}
/-- The record of a loop that has ended. -/
theorem HR.endLoop{w:World}{S:Nat→Prop}{ρ:Rho}{g:HF}(H:HR w S ρ g){b l:Nat}(hb:ρ b=.lp l){r:Loop}(hr:w.heap[l]?=some (.loop r))(x:LoopState)(y:Option Code):
 HR (Ev.setB w l (.loop { r with state:=x,pending:=y })) S (ρ.put b .dead) (upd g b .dead):=by
 have hs:=(Sim.loop hb (H.lnS b l hb) hr x y).trans (Sim.kill _ S ρ b)
 have off:∀b',∀z,z≠.dead→ρ.put b .dead b'=z→b'≠b∧ρ b'=z:=fun b' z hz h=>by
  by_cases e:b'=b
  ·subst e;rw[Rho.put_same]at h;exact(hz h.symm).elim
  ·rw[Rho.put_other _ _ e]at h;exact⟨e,h⟩
 refine⟨fun b' cb co st sz h=>?_,fun b' h=>?_,fun b1 b2 cb co st sz co' st' sz' h1 h2=>?_,fun b' h=>by have:=H.old b' h;simpa [Ev.setB]using this,fun b' l' h=>?_,fun b1 b2 l' h1 h2=>?_,fun b' l' h=>?_⟩
 ·obtain⟨hne,h⟩:=off b' _ (by simp) h
  obtain⟨c,e,fz,fl,rows,h1,h2,h3,h4⟩:=H.at_ b' cb co st sz h
  exact⟨c,e,fz,fl,rows,by rw[setB_other (fun e=>by rw[e,hr]at h1;cases h1)];exact h1,h2,h3.sim hs,by simpa [upd,hne]using h4⟩
 ·by_cases e:b'=b
  ·subst e;simp[upd]
  ·rw[Rho.put_other _ _ e]at h;simpa [upd,e]using H.dead b' h
 ·exact H.inj _ _ _ _ _ _ _ _ _ (off b1 _ (by simp) h1).2 (off b2 _ (by simp) h2).2
 ·obtain⟨hne,h⟩:=off b' _ (by simp) h
  obtain⟨r1,ps1,asg1,body1,tmps1,st1,h1,h2,h3⟩:=H.lps _ _ h
  have hnl:l'≠l:=fun q=>hne (H.linj _ _ _ h (q▸hb))
  exact⟨r1,ps1,asg1,body1,tmps1,st1,by rw[setB_other hnl];exact h1,by simpa [upd,hne]using h2,h3.sim hs⟩
 ·exact H.linj _ _ _ (off b1 _ (by simp) h1).2 (off b2 _ (by simp) h2).2
 ·exact H.lnS _ _ (off b' _ (by simp) h).2
theorem FI.endLoop{h0:Heap}{w0:World}{S0:Nat→Prop}{ρ0:Rho}{h:Heap}{w:World}{S:Nat→Prop}{ρ:Rho}(F:FI h0 w0 S0 ρ0 h w S ρ){b l:Nat}(hb:ρ b=.lp l){r:Loop}(hr:w.heap[l]?=some (.loop r)){ps:List Nat}{asg body:Code}{tmps:List AV}{st:LSt}
 (hg:h[b]?=some (.lp ps asg body tmps st)) (x:LoopState) (y:Option Code):
 FI h0 w0 S0 ρ0 (h.set b .dead) (Ev.setB w l (.loop { r with state:=x,pending:=y })) S (ρ.put b .dead)∧Sim w (Ev.setB w l (.loop { r with state:=x,pending:=y })) S S ρ (ρ.put b .dead):=by
 have hlt:b<h.length:=(List.getElem?_eq_some_iff.1 hg).1
 have hg':hf h b=some (.lp ps asg body tmps st):=hg
 have hs:=(Sim.loop hb (F.hr.lnS b l hb) hr x y).trans (Sim.kill _ S ρ b)
 have hes:EsGood h [.put b .dead]:=by
  refine⟨⟨hlt,trivial⟩,fun b' ⟨e,he,hid⟩ _=>?_,fun b' hn=>?_⟩
  ·simp at he;subst he;simp[HEdit.id]at hid;subst hid
   refine⟨⟨_,hg',rfl⟩,fun c hc=>?_⟩
   simp[fapp,fapp1,upd]at hc;subst hc;rfl
  ·simp only[fapp,fapp1,upd]
   rw[if_neg (fun e=>hn ⟨_,List.mem_singleton.2 rfl,e.symm⟩)]
 refine⟨F.step hes (w':=Ev.setB w l (.loop { r with state:=x,pending:=y })) (S':=S) (ρ':=ρ.put b .dead) (F.hr.endLoop hb hr x y) hs (fun b' cb co st sz h' _=>⟨?_,setB_other (fun e=>?_)⟩) (fun b'=>⟨fun h'=>?_,fun h'=>?_⟩),hs⟩
 ·rw[Rho.put_other _ _ (fun e=>by rw[e,hb]at h';cases h')];exact h'
 ·obtain⟨_,_,_,_,_,q,_⟩:=F.hr.at_ _ _ _ _ _ h'
  rw[e,hr]at q;cases q
 ·by_cases e:b'=b
  ·subst e;rw[Rho.put_same]at h';cases h'
  ·rw[Rho.put_other _ _ e]at h'
   exact⟨h',fun⟨x,hx,hid⟩=>by simp at hx;subst hx;exact e hid.symm⟩
 ·rw[Rho.put_other _ _ (fun e=>by rw[e,hb]at h';cases h'.1)];exact h'.1
/-- An object that no value speaks of. -/
theorem Sim.extra{w:World}{S:Nat→Prop}{ρ:Rho}(hS:∀b,S b→b<w.heap.size)(o:Obj):Sim w (w.alloc o) S S ρ ρ where
 size:=by simp
 os:=rfl
 tape:=rfl
 output:=rfl
 keep:=fun b hb=>alloc_old (hS b hb)
 sub:=fun _ h=>h
 le:=ρ.le_refl
 other:=fun b h _ _=>alloc_old h
 rng:=fun id _ co st sz h=>.inr ⟨id,co,st,sz,h⟩
 grow:=fun _ h=>.inl h
 objs:=fun b o' hb _=>by rw[alloc_old (Array.getElem?_eq_some_iff.1 hb).1];exact hb
 loops:=fun b r hb=>⟨r.state,r.pending,by rw[alloc_old (Array.getElem?_eq_some_iff.1 hb).1];exact hb⟩
 lrng:=fun id _ h=>.inr ⟨id,h⟩
theorem HR.extra{w:World}{S:Nat→Prop}{ρ:Rho}{g:HF}(H:HR w S ρ g)(o:Obj):HR (w.alloc o) S ρ g where
 at_:=fun b cb co st sz h=>by
  obtain⟨c,e,fz,fl,rows,h1,h2,h3,h4⟩:=H.at_ b cb co st sz h
  exact⟨c,e,fz,fl,rows,by rw[alloc_old (Array.getElem?_eq_some_iff.1 h1).1];exact h1,h2,h3.sim (Sim.extra H.old o),h4⟩
 dead:=H.dead
 inj:=H.inj
 old:=fun b h=>by have:=H.old b h;simp;omega
 lps:=fun b l h=>by
  obtain⟨r,ps,asg,body,tmps,st,h1,h2,h3⟩:=H.lps b l h
  exact⟨r,ps,asg,body,tmps,st,by rw[alloc_old (Array.getElem?_eq_some_iff.1 h1).1];exact h1,h2,h3.sim (Sim.extra H.old o)⟩
 linj:=H.linj
 lnS:=H.lnS
theorem FI.extra{h0:Heap}{w0:World}{S0:Nat→Prop}{ρ0:Rho}{h:Heap}{w:World}{S:Nat→Prop}{ρ:Rho}(F:FI h0 w0 S0 ρ0 h w S ρ)(o:Obj):FI h0 w0 S0 ρ0 h (w.alloc o) S ρ:=
 F.step (EsGood.nil h) (F.hr.extra o) (Sim.extra F.hr.old o) (fun b cb co st sz hb _=>⟨hb,alloc_old (F.hr.lt hb)⟩) (fun b=>⟨fun h=>⟨h,fun⟨e,he,_⟩=>by simp at he⟩,fun h=>h.1⟩)
theorem FI.newLoop{h0:Heap}{w0:World}{S0:Nat→Prop}{ρ0:Rho}{h:Heap}{w:World}{S:Nat→Prop}{ρ:Rho}(F:FI h0 w0 S0 ρ0 h w S ρ){tmps:List AV}{ct:Array Value}(T:TR w S ρ tmps ct)(fn:FuncId)(ps:Array Tmp)(asg body:Code)(D:Nat):
 FI h0 w0 S0 ρ0 (h++[.lp ps.toList asg body tmps .ready]) (w.alloc (.loop { state:=.ready,pending:=none,fn,tmps:=ct,params:=ps,assign:=asg,body,defers:=D })) S (ρ.put h.length (.lp w.heap.size))∧
 Sim w (w.alloc (.loop { state:=.ready,pending:=none,fn,tmps:=ct,params:=ps,assign:=asg,body,defers:=D })) S S ρ (ρ.put h.length (.lp w.heap.size)):=by
 have hfr:ρ h.length=.fresh:=F.dom _ (Nat.le_refl _)
 generalize ho:Obj.loop { state:=.ready,pending:=none,fn,tmps:=ct,params:=ps,assign:=asg,body,defers:=D }=o
 have hs:Sim w (w.alloc o) S S ρ (ρ.put h.length (.lp w.heap.size)):=by
  have s:=Sim.extra (w:=w) (ρ:=ρ) F.hr.old o
  refine⟨s.size,s.os,s.tape,s.output,s.keep,s.sub,Rho.le_put_fresh hfr _,s.other,fun id cb co st sz hi=>?_,s.grow,s.objs,s.loops,fun id l hi=>?_⟩
  ·by_cases e:id=h.length
   ·rw[e,Rho.put_same]at hi;cases hi
   ·rw[Rho.put_other _ _ e]at hi;exact .inr ⟨id,co,st,sz,hi⟩
  ·by_cases e:id=h.length
   ·rw[e,Rho.put_same]at hi;cases hi;exact .inl (Nat.le_refl _)
   ·rw[Rho.put_other _ _ e]at hi;exact .inr ⟨id,hi⟩
 have H:=F.hr
 have lplt:∀b l,ρ b=.lp l→l<w.heap.size:=fun b l hb=>by
  obtain⟨_,_,_,_,_,_,h1,_⟩:=H.lps b l hb;exact(Array.getElem?_eq_some_iff.1 h1).1
 have hH:HR (w.alloc o) S (ρ.put h.length (.lp w.heap.size)) (upd (hf h) h.length (.lp ps.toList asg body tmps .ready)):=by
  refine⟨fun b cb co st sz hb=>?_,fun b hb=>?_,fun b1 b2 cb co st sz co' st' sz' h1 h2=>?_,fun b hb=>by have:=H.old b hb;simp;omega,fun b l hb=>?_,fun b1 b2 l h1 h2=>?_,fun b l hb hS=>?_⟩
  ·by_cases e:b=h.length
   ·rw[e,Rho.put_same]at hb;cases hb
   ·rw[Rho.put_other _ _ e]at hb
    obtain⟨c,e',fz,fl,rows,h1,h2,h3,h4⟩:=H.at_ b cb co st sz hb
    exact⟨c,e',fz,fl,rows,by rw[alloc_old (Array.getElem?_eq_some_iff.1 h1).1];exact h1,h2,h3.sim hs,by simpa [upd,e]using h4⟩
  ·by_cases e:b=h.length
   ·rw[e,Rho.put_same]at hb;cases hb
   ·rw[Rho.put_other _ _ e]at hb;simpa [upd,e]using H.dead b hb
  ·have off:∀x c1 s1 z1,ρ.put h.length (.lp w.heap.size) x=.pl cb c1 s1 z1→ρ x=.pl cb c1 s1 z1:=fun x c1 s1 z1 hx=>by
    by_cases e:x=h.length
    ·rw[e,Rho.put_same]at hx;cases hx
    ·rw[Rho.put_other _ _ e]at hx;exact hx
   exact H.inj _ _ _ _ _ _ _ _ _ (off _ _ _ _ h1) (off _ _ _ _ h2)
  ·by_cases e:b=h.length
   ·subst e;rw[Rho.put_same]at hb;cases hb
    rw[←ho]at hs ⊢
    exact⟨_,ps.toList,asg,body,tmps,.ready,alloc_new,by simp[upd],rfl,rfl,rfl,LR.sim hs T,rfl,rfl⟩
   ·rw[Rho.put_other _ _ e]at hb
    obtain⟨r,ps',asg',body',tmps',st,h1,h2,h3⟩:=H.lps b l hb
    exact⟨r,ps',asg',body',tmps',st,by rw[alloc_old (Array.getElem?_eq_some_iff.1 h1).1];exact h1,by simpa [upd,e]using h2,h3.sim hs⟩
  ·by_cases e1:b1=h.length<;>by_cases e2:b2=h.length
   ·rw[e1,e2]
   ·rw[e1,Rho.put_same]at h1;cases h1;rw[Rho.put_other _ _ e2]at h2;have:=lplt _ _ h2;omega
   ·rw[e2,Rho.put_same]at h2;cases h2;rw[Rho.put_other _ _ e1]at h1;have:=lplt _ _ h1;omega
   ·rw[Rho.put_other _ _ e1]at h1;rw[Rho.put_other _ _ e2]at h2;exact H.linj _ _ _ h1 h2
  ·by_cases e:b=h.length
   ·rw[e,Rho.put_same]at hb;cases hb;have:=H.old _ hS;omega
   ·rw[Rho.put_other _ _ e]at hb;exact H.lnS _ _ hb hS
 refine⟨?_,hs⟩
 exact F.step (EsGood.new h (.lp ps.toList asg body tmps .ready)) hH hs (fun b cb co st sz hb _=>⟨by rw[Rho.put_other _ _ (fun e=>by rw[e,hfr]at hb;cases hb)];exact hb,alloc_old (H.lt hb)⟩)
  (fun b=>⟨fun hb=>by
    by_cases e:b=h.length
    ·rw[e,Rho.put_same]at hb;cases hb
    ·rw[Rho.put_other _ _ e]at hb;exact⟨hb,fun⟨x,hx,hid⟩=>by simp at hx;subst hx;exact e hid.symm⟩,fun⟨h1,h2⟩=>by
    rw[Rho.put_other _ _ (show b≠h.length from fun e=>h2 ⟨_,List.mem_singleton.2 rfl,e.symm⟩)];exact h1⟩)
/-- The record laid, the iterator called, the loop's end. -/
theorem range_core(hO:CallsOK P G O){F:Fence}{nn:Nat}(hF:WF F){f:Operand}{ps:Array Nat}{asg body:Code}{s:St}{g:Nat}{fa fb:List AV}{d:DidC}{v:AV}{ps':List Nat}{asg' body':Code}{tm':List AV}{st:LSt}{e:Ex}
 (hf:evalO s.tmps f=some (.func (.func g) fa fb))
 (hc:aCall O (Ev.hf (s.h++[.lp ps.toList asg body s.tmps .ready])) (s.h.length+1) (calOf g (fa++[.yl s.h.length]++fb)) (fa++[.yl s.h.length]++fb)=some d) (hout:d.out=.ret v)
 (hlp:(happ (s.h++[.lp ps.toList asg body s.tmps .ready]) d.es)[s.h.length]?=some (.lp ps' asg' body' tm' st)) (hex:rangeEx st=some e)
 {B:Beg} {a:Act} {w:World} {S:Nat→Prop} {ρ:Rho} (hI:Inv G B.w0 B.S0) (hs:SRel B s a w S ρ) (fn:FuncId) (D:Nat):
 ∃dd args,(resolve a.eval (rangeCall f w.heap.size) 0).run P (w.alloc (.loop { state:=.ready,pending:=none,fn,tmps:=a.tmps,params:=ps,assign:=asg,body,defers:=D }))=.ok dd (w.alloc (.loop { state:=.ready,pending:=none,fn,tmps:=a.tmps,params:=ps,assign:=asg,body,defers:=D }))∧
  (invoke dd.target dd.args).run P (w.alloc (.loop { state:=.ready,pending:=none,fn,tmps:=a.tmps,params:=ps,assign:=asg,body,defers:=D }))=.ok (.enter g args) (w.alloc (.loop { state:=.ready,pending:=none,fn,tmps:=a.tmps,params:=ps,assign:=asg,body,defers:=D }))∧
  CallsIn F (nn-1) P g args (w.alloc (.loop { state:=.ready,pending:=none,fn,tmps:=a.tmps,params:=ps,assign:=asg,body,defers:=D }))
   (rangePost F nn P w.heap.size (EPost B e ⟨s.tmps,(happ (s.h++[.lp ps.toList asg body s.tmps .ready]) d.es).set s.h.length .dead⟩) a):=by
 obtain⟨hFI,hsim⟩:=hs.1.newLoop hs.2.1 fn ps asg body D
 generalize hw1:w.alloc (.loop { state:=.ready,pending:=none,fn,tmps:=a.tmps,params:=ps,assign:=asg,body,defers:=D })=w1 at *
 have hs1:=hs.later hFI hsim
 have hfr:=evalO_sound hs1.2.1 hf
 generalize hfe:a.eval f=cf at hfr
 cases hfr with
 | @func _ _ _ _ va vc q1 q2 q3 q4=>
   have hlr:LR w1 S (ρ.put s.h.length (.lp w.heap.size)) (fa++[.yl s.h.length]++fb) (va++#[Value.func (.yield w.heap.size) #[] #[]]++vc).toList:=by
    have e1:(va++#[Value.func (.yield w.heap.size) #[] #[]]++vc).toList=va.toList++[Value.func (.yield w.heap.size) #[] #[]]++vc.toList:=by simp
    rw[e1]
    exact(LR.append (LR.append ⟨by simpa using q1,fun i x v hx hv=>q3 i x v hx (by simpa using hv)⟩ (.cons (.yl (Rho.put_same _ _ _)) .nil)) ⟨by simpa using q2,fun i x v hx hv=>q4 i x v hx (by simpa using hv)⟩)
   obtain⟨henter,hcalls⟩:=aCall_sound hO hI hFI (calOf_is _ _) hlr (by simpa using hc)
   refine⟨{ target:=.fn (.func g) vc,args:=va++#[Value.func (.yield w.heap.size) #[] #[]] },va++#[Value.func (.yield w.heap.size) #[] #[]]++vc,?_,?_,?_⟩
   ·simp only[resolve,rangeCall,hfe]
    try simp[go_sem]
   ·simp[invoke,go_sem,henter]
   ·refine hF.calls (hcalls.mono fun en w' ⟨cv,S',ρ',he,hv,hFI2,hsim2⟩=>?_)
    cases en with
    |panicked ch=>obtain⟨⟨x,hx⟩,_⟩:=he;rw[hout]at hx;cases hx
    |outgrown=>exact he.elim
    |returned rv=>
     have hρ':ρ' s.h.length=.lp w.heap.size:=by
      rcases hsim2.le s.h.length with q|q|q
      ·rw[Rho.put_same]at q;cases q
      ·rw[q,Rho.put_same]
      ·have:=hFI2.hr.dead _ q
       rw[show Ev.hf _ s.h.length=some _ from hlp]at this;cases this
     obtain⟨r,_,_,_,_,_,hr,h2,h3⟩:=hFI2.hr.lps _ _ hρ'
     rw[show Ev.hf _ s.h.length=some _ from hlp]at h2;cases h2
     have hnb:r.state≠.busy:=by
      cases st with
      |ready=>rw[h3.state.1];simp
      |busy=>simp[rangeEx]at hex
      |done c=>rw[h3.state.1];simp
     refine⟨r.pending,_,run_endLoop hr hnb,?_⟩
     obtain⟨hFI3,hsim3⟩:=hFI2.endLoop hρ' hr hlp .exhausted r.pending
     have hs3:=(hs1.later hFI2 hsim2).later hFI3 hsim3
     cases st with
     |ready=>
      rw[h3.state.2]at hs3 ⊢
      simp[rangeEx]at hex;subst hex
      exact⟨_,_,hs3,trivial⟩
     |busy=>simp[rangeEx]at hex
     |done c=>
      rw[h3.state.2]at hs3 ⊢
      cases c<;>simp[rangeEx]at hex<;>subst hex
      ·exact wpIn_exit ⟨_,_,hs3,rfl⟩
      ·exact wpIn_ret ⟨_,_,hs3,trivial⟩
theorem ranges_ok(hO:CallsOK P G O):RangesOK P G O:=by
 intro f ps asg body s g fa fb d v ps' asg' body' tm' st e hf hc hout hlp hex F nn hF B a w S ρ hB hI hs
 refine wpIn_rangeFunc (fun fn _=>?_)
 rcases hF with rfl|⟨l,rfl⟩
 ·have hs':SRel B s { a with defers:={ target:=.collected w.heap.size,args:=#[] }::a.defers } (w.alloc (.deferred (some []))) S ρ:=by
   have hm:=hs.later (hs.1.extra (.deferred (some []))) (Sim.extra hs.1.hr.old _)
   refine⟨hm.1,hm.2.1,fun d hd=>?_,?_,hm.2.2.2.2⟩
   ·rcases List.mem_cons.1 hd with rfl|hd
    ·exact⟨w.heap.size,rfl,alloc_new,fun h=>Nat.lt_irrefl _ (hs.1.hr.old _ h),hs.1.sim.size⟩
    ·exact hm.2.2.1 d hd
   ·refine List.pairwise_cons.2 ⟨fun d hd=>?_,hs.2.2.2.1⟩
    obtain⟨r,rfl,k2,_⟩:=hs.2.2.1 d hd
    have:=(Array.getElem?_eq_some_iff.1 k2).1
    simp[tmark];omega
  obtain⟨dd,args,k1,k2,k3⟩:=range_core (nn:=nn) hO (.inl rfl) hf hc hout hlp hex hI hs' fn w.heap.size
  have hsz:(w.alloc (.deferred (some []))).heap.size=w.heap.size+1:=by simp
  rw[hsz]at k1 k3
  exact⟨_,_,_,dd,_,g,args,_,run_enterLoop_outer _ _ _ _ _,k1,fun _ _=>trivial,k2,fun h=>by simp[Fence.wide]at h,k3⟩
 ·obtain⟨r₀,hr₀⟩:=hs.2.2.2.2 l hB
  obtain⟨dd,args,k1,k2,k3⟩:=range_core (nn:=nn) hO (F:=Fence.wide.inRound l) (.inr ⟨l,rfl⟩) hf hc hout hlp hex hI hs fn r₀.defers
  exact⟨_,_,_,dd,_,g,args,_,run_enterLoop_inner hr₀ _ _ _ _ _,k1,fun _ _=>trivial,k2,fun h=>by simp[Fence.wide,Fence.inRound]at h,k3⟩
end
section
variable {P:Program} {G:Nat→Option Obj}
/-- Functions whose contracts are given: each is as its Lean function says. -/
def PrimsOK(P:Program)(G:Nat→Option Obj)(pr:Prims):Prop:=∀f p,pr f=some p→∀args h out h',p args h=some (out,h')→
 (∀args w,(callFunc f args).run P w=.ok (.enter f args) w)∧
 ∀w S ρ (cargs:Array Value),Inv G w S→HR w S ρ (hf h)→(∀b,h.length≤b→ρ b=.fresh)→(∀b,b<h.length→ρ b≠.fresh)→LR w S ρ args cargs.toList→Calls P f cargs w (CPost h w S ρ out h')
theorem orc_ok(hN:NoNG P){pr:Prims}(hP:PrimsOK P G pr)(hM:P.follows .mixedOrders=true):∀n,CallsOK P G (orc P pr n)∧LoopsOK P G (orc P pr n):=by
 intro n
 induction n using Nat.strongRecOn with
 |_ n IH=>
  constructor
  ·cases n with
   |zero=>exact⟨fun f args h out h' hc=>by simp[orc]at hc,fun args h out h' hc=>by simp[orc]at hc,fun f args h out h' hc=>by simp[orc]at hc⟩
   |succ n=>
    obtain⟨i1,i2⟩:=IH n (by omega)
    have i3:=draws_ok hM i1
    have i4:=ranges_ok i1
    refine⟨fun f args h out h' hc=>?_,fun args h out h' hc w S ρ cargs l hI H dom all hargs=>?_,fun f args h out h' hc=>?_⟩
    ·simp only[orc]at hc
     split at hc
     ·rename_i p hp;exact hP f p hp args h out h' hc
     ·exact evF_sound hN i1 i2 i3 i4 hc
    ·simp only[orc]at hc
     exact evRound_sound i1 i2 i3 i4 hc hI H dom all hargs
    ·simp only[orc]at hc
     split at hc
     ·simp at hc
     ·exact evS_sound hN i1 i2 i3 i4 hc
  ·intro c s e s' hl F nn hF B a w S ρ hB hG hs
   let I:Act→World→Prop:=fun a w=>∃m,m≤n∧∃s S ρ,(orc P pr m).loop c s=some (e,s')∧SRel B s a w S ρ
   let Q:Act→World→Nat→Prop:=fun a w m=>m≤n∧∃s S ρ,(orc P pr m).loop c s=some (e,s')∧SRel B s a w S ρ
   have least:∀p:Act × World,∃m,(∃k,Q p.1 p.2 k)→Q p.1 p.2 m∧∀k,Q p.1 p.2 k→m≤k:=fun p=>by
    by_cases hex:∃k,Q p.1 p.2 k
    ·obtain⟨k,hk⟩:=hex
     induction k using Nat.strongRecOn with
     |_ k ih=>
      by_cases hlt:∃j,j<k∧Q p.1 p.2 j
      ·obtain⟨j,hj,hq⟩:=hlt;exact ih j hj hq
      ·exact⟨k,fun _=>⟨hk,fun j hq=>Nat.le_of_not_lt (fun h=>hlt ⟨j,h,hq⟩)⟩⟩
    ·exact⟨0,fun h=>(hex h).elim⟩
   obtain⟨f,hf⟩:=Classical.axiomOfChoice least
   have μle:∀a w m,Q a w m→f (a,w)≤m:=fun a w m hq=>(hf (a,w) ⟨m,hq⟩).2 m hq
   have μq:∀a w,(∃m,Q a w m)→Q a w (f (a,w)):=fun a w hex=>(hf (a,w) hex).1
   refine wpIn_loop I (fun a w=>f (a,w)) ⟨n,Nat.le_refl _,s,S,ρ,hl,hs⟩ (fun a w hI=>?_)
   obtain⟨hm,s1,S1,ρ1,hl1,hs1⟩:=μq a w (by obtain⟨m,hm,rest⟩:=hI;exact⟨m,hm,rest⟩)
   generalize hmu:f (a,w)=m at hm hl1
   cases m with
   |zero=>simp[orc]at hl1
   |succ m=>
    obtain⟨i1,i2⟩:=IH m (by omega)
    have i3:=draws_ok hM i1
    have i4:=ranges_ok i1
    simp only[orc,bindL]at hl1
    split at hl1
    ·rename_i e1 s2 hm1
     refine wpIn_mono (evM_sound hF i1 i2 i3 i4 hB hG fuelM hm1 hs1) (fun ex a' w' hk=>?_)
     obtain⟨m',_,e2,s3,hp,S2,ρ2,hs2,hex⟩:=hk
     simp only[popK,Option.some.injEq,Prod.mk.injEq]at hp
     obtain⟨rfl,rfl⟩:=hp
     cases e2 with
     |normal=>
      cases ex<;>simp[ExR]at hex
      have hq:Q a' w' m:=⟨by omega,s3,S2,ρ2,hl1,hs2⟩
      refine⟨⟨m,hq⟩,?_⟩
      have:=μle a' w' m hq
      omega
     |exit i=>
      cases ex<;>simp[ExR]at hex
      simp only[Option.some.injEq,Prod.mk.injEq]at hl1
      obtain⟨rfl,rfl⟩:=hl1
      exact⟨S2,ρ2,hs2,hex⟩
     |ret=>
      cases ex<;>simp[ExR]at hex
      simp only[Option.some.injEq,Prod.mk.injEq]at hl1
      obtain⟨rfl,rfl⟩:=hl1
      exact⟨S2,ρ2,hs2,trivial⟩
     |pan v=>
      cases ex with
      |panic ch=>
       simp only[Option.some.injEq,Prod.mk.injEq]at hl1
       obtain⟨rfl,rfl⟩:=hl1
       exact⟨S2,ρ2,hs2,hex⟩
      |_=>simp[ExR]at hex
    ·simp at hl1
end
/-- From some number on. -/
def Evt(p:Nat→Prop):Prop:=∃N,∀m,N≤m→p m
theorem Evt.mono{p q:Nat→Prop}(h:Evt p)(k:∀m,p m→q m):Evt q:=by
 obtain⟨N,h⟩:=h;exact⟨N,fun m hm=>k m (h m hm)⟩
theorem Evt.and{p q:Nat→Prop}(h:Evt p)(k:Evt q):Evt fun m=>p m∧q m:=by
 obtain⟨N,h⟩:=h;obtain⟨M,k⟩:=k
 exact⟨max N M,fun m hm=>⟨h m (by omega),k m (by omega)⟩⟩
theorem Evt.of{p:Nat→Prop}(h:∀m,p m):Evt p:=⟨0,fun m _=>h m⟩
/-- Each answer of O is one of F's from some number on. -/
structure Cov(O:Orc)(F:Nat→Orc):Prop where
 call:∀{f a h r},O.call f a h=some r→Evt fun m=>(F m).call f a h=some r
 loop:∀{c s r},O.loop c s=some r→Evt fun m=>(F m).loop c s=some r
 md:∀m,(F m).md=O.md
section
variable {P:Program} {G:Nat→Option Obj} {O:Orc} {F:Nat→Orc}
theorem aCallP_cov(hC:Cov O F){g:HF}{base:Nat}{f:Cal}{args:List AV}{d:DidC}(h:aCallP O g base f args=some d):Evt fun m=>aCallP (F m) g base f args=some d:=by
 unfold aCallP at h
 simp only[Option.bind_eq_some_iff]at h
 obtain⟨vs,h1,⟨vs',cs,m⟩,h2,h⟩:=h
 simp only at h
 split at h
 ·simp at h
 ·rename_i hn
  simp only[Option.bind_eq_some_iff]at h
  obtain⟨⟨out,h'⟩,h3,h4⟩:=h
  refine(hC.call h3).mono fun n hn'=>?_
  unfold aCallP
  simp only[h1,h2,Option.bind_some,hn,hn']
  simpa using h4
theorem aCallS_cov(hC:Cov O F){g:HF}{base:Nat}{f:Cal}{args:List AV}{d:DidC}(h:aCallS O g base f args=some d):Evt fun m=>aCallS (F m) g base f args=some d:=by
 unfold aCallS at h
 obtain⟨h0,h1,h⟩:=Option.bind_eq_some_iff.1 h
 obtain⟨⟨out,h'⟩,h2,h⟩:=Option.bind_eq_some_iff.1 h
 refine(hC.call h2).mono fun n hn=>?_
 unfold aCallS
 rw[h1,Option.bind_some,hn]
 exact h
theorem aCall_cov(hC:Cov O F){g:HF}{base:Nat}{f:Cal}{args:List AV}{d:DidC}(h:aCall O g base f args=some d):Evt fun m=>aCall (F m) g base f args=some d:=by
 cases f with
 |fn f=>exact aCallP_cov hC h
 |round=>exact aCallS_cov hC h
 |sh f=>
  cases hq:(ylHd args||O.md f)with
  |true=>
   simp only[aCall,hq,cond_true]at h
   refine(aCallS_cov hC h).mono fun m hm=>?_
   simp only[aCall,hC.md m,hq,cond_true];exact hm
  |false=>
   simp only[aCall,hq,cond_false]at h
   refine(aCallP_cov hC h).mono fun m hm=>?_
   simp only[aCall,hC.md m,hq,cond_false];exact hm
theorem evOps_cov(hC:Cov O F){ops:List Oper}{gs:List Nat}{r:Ex × St}{k:St→Log→R}{k':Nat→St→Log→R}{kp:AV→St→R}{kp':Nat→AV→St→R}
 (hk:∀s log,k s log=some r→Evt fun m=>k' m s log=some r) (hkp:∀v s,kp v s=some r→Evt fun m=>kp' m v s=some r):
 ∀{rest:List Oper} {i:Nat} {s:St} {log:Log},evOps O P ops gs rest i s log k kp=some r→Evt fun m=>evOps (F m) P ops gs rest i s log (k' m) (kp' m)=some r
 | [],i,s,log,h=>hk s log h
 |o::rest,i,s,log,h=>by
  unfold evOps at h
  split at h
  ·simp at h
  ·rename_i hw
   unfold evOps
   simp only[hw]
   exact evOps_cov hC hk hkp h
  ·rename_i hw
   unfold evOps
   simp only[hw]
   cases hkd:kindOf o.op with
   |call c=>
    rw[hkd]at h
    simp only[Option.bind_eq_some_iff,bindV_eq]at h ⊢
    obtain⟨⟨f,args⟩,h1,d,h2,h⟩:=h
    simp only at h2
    cases hout:d.out with
    |ret v=>
     rw[hout]at h
     exact((aCall_cov hC h2).and (evOps_cov hC hk hkp h)).mono fun m hm=>⟨_,h1,d,hm.1,by rw[hout];exact hm.2⟩
    |pan v=>
     rw[hout]at h
     exact((aCall_cov hC h2).and (hkp _ _ h)).mono fun m hm=>⟨_,h1,d,hm.1,by rw[hout];exact hm.2⟩
   |panic x=>
    rw[hkd]at h
    simp only[Option.bind_eq_some_iff]at h ⊢
    obtain⟨v,h1,h⟩:=h
    split at h
    ·exact(hkp _ _ h).mono fun m hm=>⟨_,h1,hm⟩
    ·simp at h
   |other=>
    rw[hkd]at h
    simp only[Option.bind_eq_some_iff,bindV_eq]at h ⊢
    obtain⟨d,h1,h⟩:=h
    exact(evOps_cov hC hk hkp h).mono fun m hm=>⟨_,h1,hm⟩
theorem popK_cov{ev:Code→List KItem→St→R}{ev':Nat→Code→List KItem→St→R}{r:Ex × St}(he:∀c k s,ev c k s=some r→Evt fun m=>ev' m c k s=some r):
 ∀{k:List KItem} {e:Ex} {s:St},popK ev k e s=some r→Evt fun m=>popK (ev' m) k e s=some r
 | [],e,s,h=>.of fun _=>h
 | .code c::k,.normal,s,h=>he c k s h
 | .code c::k,.exit i,s,h=>popK_cov he (k:=k) h
 | .code c::k,.ret,s,h=>popK_cov he (k:=k) h
 | .code c::k,.pan v,s,h=>popK_cov he (k:=k) h
 | .blk id::k,.normal,s,h=>popK_cov he (k:=k) h
 | .blk id::k,.ret,s,h=>popK_cov he (k:=k) h
 | .blk id::k,.pan v,s,h=>popK_cov he (k:=k) h
 | .blk id::k,.exit i,s,h=>by
   simp only[popK]at h ⊢
   cases hi:(i==id)with
   |true=>rw[hi]at h;exact popK_cov he (k:=k) h
   |false=>rw[hi]at h;exact popK_cov he (k:=k) h
theorem evM_cov(hC:Cov O F){r:Ex × St}:∀(n:Nat) {c:Code} {k:List KItem} {s:St},evM O P n c k s=some r→Evt fun m=>evM (F m) P n c k s=some r
 |0,c,k,s,h=>by simp[evM]at h
 |n+1,c,k,s,h=>by
  have IH:∀c k s,evM O P n c k s=some r→Evt fun m=>evM (F m) P n c k s=some r:=fun c k s h=>evM_cov hC n h
  have pop:∀{k:List KItem} {e:Ex} {s:St},popK (evM O P n) k e s=some r→Evt fun m=>popK (evM (F m) P n) k e s=some r:=fun h=>popK_cov IH h
  cases c with
  |skip=>exact pop h
  |label l=>exact pop h
  |region id ops draw=>
   cases draw with
   |false=>exact evOps_cov hC (fun s log h=>pop h) (fun v s h=>pop h) h
   |true=>
    simp only[evM,guardB]at h ⊢
    cases hd:drawSt ops.toList with
    |false=>rw[hd]at h;simp at h
    |true=>
     rw[hd]at h
     refine evOps_cov hC (fun s log h=>?_) (fun v s h=>by simp at h) h
     cases hdd:drawDyn ops.toList log with
     |false=>rw[hdd]at h;simp at h
     |true=>rw[hdd]at h;exact pop h
  |seq a b=>exact IH a _ s h
  |cond oc a b=>
   simp only[evM,condK]at h ⊢
   cases he:evalO s.tmps oc with
   |none=>rw[he]at h;simp at h
   |some v=>
    rw[he]at h
    cases v with
    |bool b=>
     cases b with
     |true=>exact IH a k s h
     |false=>exact IH _ k s h
    |_=>simp at h
  |block id c=>exact IH c _ s h
  |loop c=>
   simp only[evM,bindL]at h ⊢
   cases hl:O.loop c s with
   |none=>rw[hl]at h;simp at h
   |some x=>
    obtain⟨e,s'⟩:=x
    rw[hl]at h
    exact((hC.loop hl).and (pop h)).mono fun m hm=>by rw[hm.1];exact hm.2
  |exit id=>exact pop h
  |ret=>exact pop h
  |rangeFunc f ps asg body=>
   simp only[evM,Option.bind_eq_some_iff]at h ⊢
   obtain⟨fv,h1,h⟩:=h
   split at h
   ·obtain⟨d,h2,h⟩:=Option.bind_eq_some_iff.1 h
    have fin:∀{e:Ex} {s':St},popK (evM O P n) k e s'=some r→Evt fun m=>popK (evM (F m) P n) k e s'=some r:=fun h=>pop h
    cases hout:d.out with
    |pan v=>rw[hout]at h;simp at h
    |ret v=>
     rw[hout]at h
     simp only at h
     split at h
     ·rename_i hb
      exact((aCall_cov hC h2).and (fin h)).mono fun m hm=>⟨_,h1,by simp only[hm.1,Option.bind_some,hout,hb];exact hm.2⟩
     ·rename_i hb
      exact((aCall_cov hC h2).and (fin h)).mono fun m hm=>⟨_,h1,by simp only[hm.1,Option.bind_some,hout,hb];exact hm.2⟩
     ·rename_i hb
      exact((aCall_cov hC h2).and (fin h)).mono fun m hm=>⟨_,h1,by simp only[hm.1,Option.bind_some,hout,hb];exact hm.2⟩
     ·simp at h
   ·simp at h
  |scope b=>exact IH b _ s h
  |goto l=>simp[evM]at h
  |refuse s=>simp[evM]at h
theorem evF_cov(hC:Cov O F){f:Nat}{args:List AV}{h:Heap}{r:Out × Heap}(he:evF O P f args h=some r):Evt fun m=>evF (F m) P f args h=some r:=by
 unfold evF at he ⊢
 cases hfn:P.funcs[f]? with
 |none=>rw[hfn]at he;simp at he
 |some fn=>
  rw[hfn]at he
  simp only at he ⊢
  cases hb:fn.body with
  |none=>rw[hb]at he;simp at he
  |some c=>
   rw[hb]at he
   simp only at he ⊢
   obtain⟨x,h1,h2⟩:=Option.bind_eq_some_iff.1 he
   exact(evM_cov hC _ h1).mono fun m hm=>by rw[hm];exact h2
theorem evS_cov(hC:Cov O F){f:Nat}{args:List AV}{h:Heap}{r:Out × Heap}(he:evS O P f args h=some r):Evt fun m=>evS (F m) P f args h=some r:=by
 unfold evS at he ⊢
 cases hfn:P.funcs[f]? with
 |none=>rw[hfn]at he;simp at he
 |some fn=>
  rw[hfn]at he
  simp only at he ⊢
  cases hb:fn.body with
  |none=>rw[hb]at he;simp at he
  |some c=>
   rw[hb]at he
   simp only at he ⊢
   obtain⟨x,h1,h2⟩:=Option.bind_eq_some_iff.1 he
   exact(evM_cov hC _ h1).mono fun m hm=>by rw[hm];exact h2
theorem evRound_cov(hC:Cov O F){args:List AV}{h:Heap}{r:Out × Heap}(he:evRound O P args h=some r):Evt fun m=>evRound (F m) P args h=some r:=by
 unfold evRound at he
 split at he
 ·rename_i b vs hrev
  unfold evRound
  simp only[hrev]
  split at he
  ·rename_i ps asg body tmps st hb
   split at he
   ·rename_i hl
    obtain⟨⟨e,s⟩,h1,h2⟩:=Option.bind_eq_some_iff.1 he
    cases e with
    |normal=>
     simp only at h2
     obtain⟨x,h3,h4⟩:=Option.bind_eq_some_iff.1 h2
     obtain⟨y,h5,h6⟩:=Option.bind_eq_some_iff.1 h4
     exact((evM_cov hC _ h1).and (evM_cov hC _ h5)).mono fun m hm=>by
      rw[if_pos hl,hm.1];simp only[Option.bind_some,h3];rw[hm.2];exact h6
    |_=>simp at h2
   ·simp at he
  ·simp at he
 ·simp at he
/-- One more round of the oracles. -/
def stepO(P:Program)(pr:Prims)(O:Orc):Orc where
 call:=fun f args h=>match f with
  | .round=>evRound O P args h
  | .sh f=>match pr f with
    |some _=>none
    |none=>evS O P f args h
  | .fn f=>match pr f with
    |some p=>p args h
    |none=>evF O P f args h
 loop:=fun c s=>bindL (evM O P fuelM c [] s) fun e s=>match e with
  | .normal=>O.loop c s
  |e=>some (e,s)
 md:=pr.md
variable {pr:Prims}
theorem orc_succ(n:Nat):orc P pr (n+1)=stepO P pr (orc P pr n):=rfl
theorem stepO_cov(hC:Cov O F):Cov (stepO P pr O) (fun m=>stepO P pr (F m)) where
 call:=fun {f a h r} hc=>by
  cases f with
  |round=>exact evRound_cov hC hc
  |fn f=>
   simp only[stepO]at hc ⊢
   cases hp:pr f with
   |some p=>rw[hp]at hc;exact .of fun _=>hc
   |none=>rw[hp]at hc;exact evF_cov hC hc
  |sh f=>
   simp only[stepO]at hc ⊢
   cases hp:pr f with
   |some p=>rw[hp]at hc;simp at hc
   |none=>rw[hp]at hc;exact evS_cov hC hc
 loop:=fun {c s r} hl=>by
  simp only[stepO,bindL]at hl ⊢
  cases hm:evM O P fuelM c [] s with
  |none=>rw[hm]at hl;simp at hl
  |some x=>
   obtain⟨e,s'⟩:=x
   rw[hm]at hl
   cases e with
   |normal=>exact((evM_cov hC _ hm).and (hC.loop hl)).mono fun m hm=>by rw[hm.1];exact hm.2
   |exit i=>exact(evM_cov hC _ hm).mono fun m hm=>by rw[hm];exact hl
   |ret=>exact(evM_cov hC _ hm).mono fun m hm=>by rw[hm];exact hl
   |pan v=>exact(evM_cov hC _ hm).mono fun m hm=>by rw[hm];exact hl
 md:=fun _=>rfl
theorem Evt.const{p:Prop}(h:Evt fun _=>p):p:=by
 obtain⟨N,h⟩:=h;exact h N (Nat.le_refl _)
/-- What an oracle answers, the next one answers. -/
theorem orc_mono:∀(n:Nat),Cov (orc P pr n) (fun _=>orc P pr (n+1))
 |0=>⟨fun h=>by simp[orc]at h,fun h=>by simp[orc]at h,fun _=>rfl⟩
 |n+1=>stepO_cov (orc_mono n)
theorem orc_call_le{n m:Nat}(hnm:n≤m){f:Cal}{a:List AV}{h:Heap}{r:Out × Heap}(hc:(orc P pr n).call f a h=some r):(orc P pr m).call f a h=some r:=by
 induction hnm with
 |refl=>exact hc
 |step _ ih=>exact((orc_mono _).call ih).const
theorem orc_loop_le{n m:Nat}(hnm:n≤m){c:Code}{s:St}{r:Ex × St}(hc:(orc P pr n).loop c s=some r):(orc P pr m).loop c s=some r:=by
 induction hnm with
 |refl=>exact hc
 |step _ ih=>exact((orc_mono _).loop ih).const
open Classical in
/-- The limit. -/
noncomputable def lim{α:Type}(x:Nat→Option α):Option α:=if h:∃n r,x n=some r then x h.choose else none
theorem lim_some{α:Type}{x:Nat→Option α}(hm:∀n m r,n≤m→x n=some r→x m=some r){r:α}:lim x=some r↔∃n,x n=some r:=by
 unfold lim
 constructor
 ·intro h
  split at h
  ·exact⟨_,h⟩
  ·simp at h
 ·rintro⟨n,hn⟩
  have hex:∃n r,x n=some r:=⟨n,r,hn⟩
  rw[dif_pos hex]
  obtain⟨r',hr'⟩:=hex.choose_spec
  rcases Nat.le_total n hex.choose with h|h
  ·exact hm _ _ _ h hn
  ·have:=hm _ _ _ h hr'
   rw[hn]at this;cases this;exact hr'
noncomputable def om(P:Program)(pr:Prims):Orc where
 call:=fun f a h=>lim fun n=>(orc P pr n).call f a h
 loop:=fun c s=>lim fun n=>(orc P pr n).loop c s
 md:=pr.md
theorem om_call{f:Cal}{a:List AV}{h:Heap}{r:Out × Heap}:(om P pr).call f a h=some r↔∃n,(orc P pr n).call f a h=some r:=lim_some fun _ _ _ h k=>orc_call_le h k
theorem om_loop{c:Code}{s:St}{r:Ex × St}:(om P pr).loop c s=some r↔∃n,(orc P pr n).loop c s=some r:=lim_some fun _ _ _ h k=>orc_loop_le h k
theorem om_cov:Cov (om P pr) (orc P pr) where
 call:=fun h=>by obtain⟨n,hn⟩:=om_call.1 h;exact⟨n,fun m hm=>orc_call_le hm hn⟩
 loop:=fun h=>by obtain⟨n,hn⟩:=om_loop.1 h;exact⟨n,fun m hm=>orc_loop_le hm hn⟩
 md:=fun m=>by cases m<;>rfl
/-- The limit's calls. -/
theorem om_fn{f:Nat}(hp:pr f=none){a:List AV}{h:Heap}{r:Out × Heap}(he:evF (om P pr) P f a h=some r):(om P pr).call (.fn f) a h=some r:=by
 obtain⟨N,hN⟩:=evF_cov om_cov he
 refine om_call.2 ⟨N+1,?_⟩
 have:=hN N (Nat.le_refl _)
 simp only[orc,hp];exact this
theorem om_sh{f:Nat}(hp:pr f=none){a:List AV}{h:Heap}{r:Out × Heap}(he:evS (om P pr) P f a h=some r):(om P pr).call (.sh f) a h=some r:=by
 obtain⟨N,hN⟩:=evS_cov om_cov he
 refine om_call.2 ⟨N+1,?_⟩
 have:=hN N (Nat.le_refl _)
 simp only[orc,hp];exact this
theorem om_prim{f:Nat}{p:List AV→Heap→Option (Out × Heap)}(hp:pr f=some p){a:List AV}{h:Heap}{r:Out × Heap}(he:p a h=some r):(om P pr).call (.fn f) a h=some r:=
 om_call.2 ⟨1,by simp only[orc,hp];exact he⟩
theorem om_round{a:List AV}{h:Heap}{r:Out × Heap}(he:evRound (om P pr) P a h=some r):(om P pr).call .round a h=some r:=by
 obtain⟨N,hN⟩:=evRound_cov om_cov he
 exact om_call.2 ⟨N+1,hN N (Nat.le_refl _)⟩
/-- The limit's loops: one round, then the rest. -/
theorem om_loop_step{c:Code}{s s':St}{r:Ex × St}(hb:evM (om P pr) P fuelM c [] s=some (.normal,s'))(hr:(om P pr).loop c s'=some r):(om P pr).loop c s=some r:=by
 obtain⟨N,hN⟩:=evM_cov om_cov _ hb
 obtain⟨M,hM⟩:=om_cov.loop hr
 refine om_loop.2 ⟨max N M+1,?_⟩
 simp only[orc,bindL,hN _ (Nat.le_max_left ..)]
 exact hM _ (Nat.le_max_right ..)
theorem om_loop_end{c:Code}{s s':St}{e:Ex}(hb:evM (om P pr) P fuelM c [] s=some (e,s'))(he:e≠.normal):(om P pr).loop c s=some (e,s'):=by
 obtain⟨N,hN⟩:=evM_cov om_cov _ hb
 refine om_loop.2 ⟨N+1,?_⟩
 have h1:=hN N (Nat.le_refl _)
 simp only[orc,bindL]
 rw[h1]
 cases e<;>first|rfl|exact(he rfl).elim
theorem om_ok(hN:NoNG P)(hP:PrimsOK P G pr)(hM:P.follows .mixedOrders=true):CallsOK P G (om P pr):=by
 refine⟨fun f args h out h' hc=>?_,fun args h out h' hc=>?_,fun f args h out h' hc=>?_⟩
 ·obtain⟨n,hn⟩:=om_call.1 hc
  exact(orc_ok hN hP hM n).1.1 f args h out h' hn
 ·obtain⟨n,hn⟩:=om_call.1 hc
  exact(orc_ok hN hP hM n).1.2.1 args h out h' hn
 ·obtain⟨n,hn⟩:=om_call.1 hc
  exact(orc_ok hN hP hM n).1.2.2 f args h out h' hn
end
/-- Temporaries. -/
abbrev Tm:=Nat→AV
def mk(n:Nat)(t:Tm):List AV:=(List.range n).map t
def up(t:Tm)(d:Nat)(v:AV):Tm:=fun i=>if i=d then v else t i
def ent(args:List AV):Tm:=fun i=>(args[i]?).getD (.tup [])
theorem up_at(t:Tm)(d:Nat)(v:AV)(i:Nat):up t d v i=if i=d then v else t i:=Eq.trans rfl rfl
theorem ent_zero(a:AV)(l:List AV):ent (a::l) 0=a:=Eq.trans rfl rfl
theorem ent_succ(a:AV)(l:List AV)(i:Nat):ent (a::l) (i+1)=ent l i:=by simp[ent]
theorem tget_mk(n:Nat)(t:Tm)(i:Nat):tget (mk n t) i=if i<n then t i else .tup []:=by
 unfold tget mk
 rw[List.getElem?_map]
 split
 ·rename_i h;rw[List.getElem?_range h];rfl
 ·rename_i h;rw[List.getElem?_eq_none (by simpa using h)];rfl
theorem set_mk(n:Nat)(t:Tm)(d:Nat)(v:AV):(mk n t).set d v=mk n (up t d v):=by
 refine List.ext_getElem? fun i=>?_
 unfold mk up
 rw[List.getElem?_set]
 simp only[List.length_map,List.length_range,List.getElem?_map]
 by_cases hi:i<n
 ·rw[List.getElem?_range hi]
  by_cases hd:d=i
  ·subst hd;simp[hi]
  ·have:¬i=d:=fun e=>hd e.symm
   simp[hd,this]
 ·rw[List.getElem?_eq_none (by simpa using hi)]
  by_cases hd:d=i
  ·subst hd;simp[hi]
  ·simp[hd]
theorem put_mk(n:Nat)(t:Tm)(d:Nat)(v:AV):put (mk n t) (some d) v=mk n (up t d v):=set_mk n t d v
theorem put_none(l:List AV)(v:AV):put l none v=l:=Eq.trans rfl rfl
theorem ent_mk(n:Nat)(args:List AV)(h:args.length≤n):args++List.replicate (n-args.length) (.tup [])=mk n (ent args):=by
 refine List.ext_getElem? fun i=>?_
 unfold mk ent
 rw[List.getElem?_map]
 by_cases hi:i<n
 ·rw[List.getElem?_range hi]
  by_cases hj:i<args.length
  ·rw[List.getElem?_append_left hj];simp[hj]
  ·rw[List.getElem?_append_right (by omega),List.getElem?_replicate,if_pos (by omega),Option.map_some,List.getElem?_eq_none (by omega:args.length≤i)];rfl
 ·rw[List.getElem?_eq_none (by simp;omega),List.getElem?_eq_none (by simpa using hi)];rfl
section
variable {P:Program} {O:Orc}
/-- One operation, whatever its kind. -/
def exOp(O:Orc)(P:Program)(t:List AV)(h:Heap)(op:Op):Option (Out × List HEdit):=
 match kindOf op with
 | .call c=>(callee t c).bind fun(f,args)=>(aCall O (hf h) h.length f args).map fun d=>(d.out,d.es)
 | .panic x=>(evalO t x).bind fun v=>match v with
   | .iface _ _=>some (.pan v,[])
   |_=>none
 | .other=>(exec P (hf h) h.length t op).map fun d=>(.ret d.v,d.es)
/-- A region in the text's order, from an operation on; what is still to do behind it. -/
def rg(O:Orc)(P:Program)(n:Nat)(k:List KItem)(ops rest:List Oper)(i:Nat)(t:List AV)(h:Heap):R:=
 evOps O P ops (guards ops) rest i ⟨t,h⟩ [] (fun s _=>popK (evM O P n) k .normal s) (fun v s=>popK (evM O P n) k (.pan v) s)
def rgD(O:Orc)(P:Program)(n:Nat)(k:List KItem)(ops rest:List Oper)(i:Nat)(d:Option Nat)(x:Option (Out × List HEdit))(t:List AV)(h:Heap):R:=
 match x with
 |some (.ret v,es)=>rg O P n k ops rest i (put t d v) (happ h es)
 |some (.pan v,es)=>popK (evM O P n) k (.pan v) ⟨t,happ h es⟩
 |none=>none
theorem evOps_log{ops:List Oper}{gs:List Nat}{k:St→R}{kp:AV→St→R}:∀{rest:List Oper} {i:Nat} {s:St} (log log':Log),evOps O P ops gs rest i s log (fun s _=>k s) kp=evOps O P ops gs rest i s log' (fun s _=>k s) kp
 | [],i,s,log,log'=>rfl
 |o::rest,i,s,log,log'=>by
  unfold evOps
  split
  ·rfl
  ·exact evOps_log _ _
  ·split
   ·congr 1;funext x
    obtain⟨f,args⟩:=x
    simp only
    congr 1;funext d
    split
    ·simp only[bindV_eq];exact evOps_log _ _
    ·rfl
   ·rfl
   ·congr 1;funext d
    simp only[bindV_eq];exact evOps_log _ _
theorem rg_do(n:Nat)(k:List KItem)(ops rest:List Oper)(i:Nat)(t:List AV)(h:Heap)(o:Oper)(hw:wantedA ops t o=some true):
 rg O P n k ops (o::rest) i t h=rgD O P n k ops rest (i+1) o.dst (exOp O P t h o.op) t h:=by
 unfold rg evOps
 simp only[hw]
 unfold exOp
 cases hk:kindOf o.op with
 |call c=>
  simp only
  cases hc:callee t c with
  |none=>rfl
  |some x=>
   obtain⟨f,args⟩:=x
   cases ha:aCall O (hf h) h.length f args with
   |none=>simp[rgD,ha]
   |some d=>
    simp only[Option.bind_some,ha,Option.map_some,rgD]
    cases ho:d.out with
    |ret v=>simp only[bindV_eq];exact evOps_log _ _
    |pan v=>rfl
 |panic x=>
  simp only
  cases he:evalO t x with
  |none=>rfl
  |some v=>cases v<;>simp[rgD,happ]
 |other=>
  simp only
  cases he:exec P (hf h) h.length t o.op with
  |none=>simp[rgD]
  |some d=>simp only[Option.bind_some,Option.map_some,rgD,bindV_eq];exact evOps_log _ _
theorem rg_skip(n:Nat)(k:List KItem)(ops rest:List Oper)(i:Nat)(t:List AV)(h:Heap)(o:Oper)(hw:wantedA ops t o=some false):
 rg O P n k ops (o::rest) i t h=rg O P n k ops rest (i+1) (put t o.dst (.tup [])) h:=by
 unfold rg
 conv=>lhs;unfold evOps
 simp only[hw]
 exact evOps_log _ _
/-- A test. -/
def cdK(O:Orc)(P:Program)(n:Nat)(a b:Code)(k:List KItem)(v:Option AV)(s:St):R:=
 match v with
 |some (.bool true)=>evM O P n a k s
 |some (.bool false)=>evM O P n b k s
 |_=>none
theorem cdK_true(n:Nat)(a b:Code)(k:List KItem)(s:St):cdK O P n a b k (some (.bool true)) s=evM O P n a k s:=Eq.trans rfl rfl
theorem cdK_false(n:Nat)(a b:Code)(k:List KItem)(s:St):cdK O P n a b k (some (.bool false)) s=evM O P n b k s:=Eq.trans rfl rfl
/-- A loop. -/
def lpK(O:Orc)(P:Program)(n:Nat)(k:List KItem)(x:R):R:=
 match x with
 |some (e,s)=>popK (evM O P n) k e s
 |none=>none
theorem evM_skip(n:Nat)(k:List KItem)(s:St):evM O P (n+1) .skip k s=popK (evM O P n) k .normal s:=Eq.trans rfl rfl
theorem evM_seq(n:Nat)(a b:Code)(k:List KItem)(s:St):evM O P (n+1) (.seq a b) k s=evM O P n a (.code b::k) s:=Eq.trans rfl rfl
theorem evM_cond(n:Nat)(c:Operand)(a b:Code)(k:List KItem)(t:List AV)(h:Heap):evM O P (n+1) (.cond c a b) k ⟨t,h⟩=cdK O P n a b k (evalO t c) ⟨t,h⟩:=by
 simp only[evM,condK,cdK]
 cases evalO t c with
 |none=>rfl
 |some v=>
  cases v with
  |bool g=>cases g<;>rfl
  |_=>rfl
theorem evM_block(n:Nat)(id:Nat)(c:Code)(k:List KItem)(s:St):evM O P (n+1) (.block id c) k s=evM O P n c (.blk id::k) s:=Eq.trans rfl rfl
theorem evM_loop(n:Nat)(c:Code)(k:List KItem)(s:St):evM O P (n+1) (.loop c) k s=lpK O P n k (O.loop c s):=by
 simp only[evM,bindL,lpK]
 cases O.loop c s<;>rfl
theorem evM_exit(n:Nat)(id:Nat)(k:List KItem)(s:St):evM O P (n+1) (.exit id) k s=popK (evM O P n) k (.exit id) s:=Eq.trans rfl rfl
theorem evM_ret(n:Nat)(k:List KItem)(s:St):evM O P (n+1) .ret k s=popK (evM O P n) k .ret s:=Eq.trans rfl rfl
theorem popK_nil(ev:Code→List KItem→St→R)(e:Ex)(s:St):popK ev [] e s=some (e,s):=Eq.trans rfl rfl
theorem popK_code(n:Nat)(c:Code)(k:List KItem)(s:St):popK (evM O P n) (.code c::k) .normal s=evM O P n c k s:=Eq.trans rfl rfl
theorem popK_code_exit(ev:Code→List KItem→St→R)(c:Code)(k:List KItem)(i:Nat)(s:St):popK ev (.code c::k) (.exit i) s=popK ev k (.exit i) s:=Eq.trans rfl rfl
theorem popK_code_ret(ev:Code→List KItem→St→R)(c:Code)(k:List KItem)(s:St):popK ev (.code c::k) .ret s=popK ev k .ret s:=Eq.trans rfl rfl
theorem popK_blk(ev:Code→List KItem→St→R)(id:Nat)(k:List KItem)(s:St):popK ev (.blk id::k) .normal s=popK ev k .normal s:=Eq.trans rfl rfl
theorem popK_blk_ret(ev:Code→List KItem→St→R)(id:Nat)(k:List KItem)(s:St):popK ev (.blk id::k) .ret s=popK ev k .ret s:=Eq.trans rfl rfl
theorem popK_blk_exit(ev:Code→List KItem→St→R)(id i:Nat)(k:List KItem)(s:St):popK ev (.blk id::k) (.exit i) s=if i=id then popK ev k .normal s else popK ev k (.exit i) s:=by
 simp only[popK]
 by_cases h:i=id
 ·subst h;simp
 ·have:(i==id)=false:=by simpa using h
  rw[this];simp[h]
/-- A function's body. -/
def fnK(P:Program)(k:Nat)(rs:List ResultVar)(x:R):Option (Out × Heap):=
 match x with
 |some (.normal,s)|some (.ret,s)=>(resA P s rs).bind fun vs=>(finish k (oneA vs) s.h).map fun(v,h)=>(.ret v,h)
 |some (.pan v,s)=>(finish k v s.h).map fun(v,h)=>(.pan v,h)
 |_=>none
def retK(k:Nat)(vs:Option (List AV))(h:Heap):Option (Out × Heap):=vs.bind fun vs=>(finish k (oneA vs) h).map fun(v,h)=>(.ret v,h)
theorem evF_eq{f:Nat}{fn:Func}(hf:P.funcs[f]?=some fn){c:Code}(hb:fn.body=some c){args:List AV}(hl:args.length≤fn.ntmps)(h:Heap):
 evF O P f args h=fnK P h.length fn.results.toList (evM O P fuelM c [] ⟨mk fn.ntmps (ent args),h⟩):=by
 unfold evF
 simp only[hf,hb]
 rw[ent_mk _ _ hl]
 cases evM O P fuelM c [] ⟨mk fn.ntmps (ent args),h⟩with
 |none=>rfl
 |some x=>
  obtain⟨e,s⟩:=x
  cases e<;>rfl
/-- An operation, its guard told by the temporary that it hangs on. -/
structure CO where
 dst:Option Nat
 op:Op
 g:Option (Option Nat × Bool)
def compO(ops:List Oper)(o:Oper):CO:=⟨o.dst,o.op,o.guard.map fun(j,w)=>((ops[j]?).bind (·.dst),w)⟩
/-- A region of such operations. -/
def rc(O:Orc)(P:Program)(n:Nat)(k:List KItem):List CO→List AV→Heap→R
 | [],t,h=>popK (evM O P n) k .normal ⟨t,h⟩
 |c::cs,t,h=>
  match(match c.g with
   |none=>some true
   |some (none,_)=>none
   |some (some q,w)=>match tget t q with
    | .bool b=>some (b==w)
    | .tup []=>some false
    |_=>none)with
  |none=>none
  |some false=>rc O P n k cs (put t c.dst (.tup [])) h
  |some true=>match exOp O P t h c.op with
   |some (.ret v,es)=>rc O P n k cs (put t c.dst v) (happ h es)
   |some (.pan v,es)=>popK (evM O P n) k (.pan v) ⟨t,happ h es⟩
   |none=>none
def rcD(O:Orc)(P:Program)(n:Nat)(k:List KItem)(d:Option Nat)(cs:List CO)(x:Option (Out × List HEdit))(t:List AV)(h:Heap):R:=
 match x with
 |some (.ret v,es)=>rc O P n k cs (put t d v) (happ h es)
 |some (.pan v,es)=>popK (evM O P n) k (.pan v) ⟨t,happ h es⟩
 |none=>none
def rcG(O:Orc)(P:Program)(n:Nat)(k:List KItem)(d:Option Nat)(op:Op)(cs:List CO)(v:AV)(w:Bool)(t:List AV)(h:Heap):R:=
 match v with
 | .bool b=>match b==w with
   |true=>rcD O P n k d cs (exOp O P t h op) t h
   |false=>rc O P n k cs (put t d (.tup [])) h
 | .tup []=>rc O P n k cs (put t d (.tup [])) h
 |_=>none
theorem rg_rc{n:Nat}{k:List KItem}{ops:List Oper}:∀{rest:List Oper} {i:Nat} {t:List AV} {h:Heap},rg O P n k ops rest i t h=rc O P n k (rest.map (compO ops)) t h
 | [],i,t,h=>rfl
 |o::rest,i,t,h=>by
  simp only[List.map_cons]
  have hw:(match(compO ops o).g with
   |none=>some true
   |some (none,_)=>none
   |some (some q,w)=>match tget t q with
    | .bool b=>some (b==w)
    | .tup []=>some false
    |_=>none)=wantedA ops t o:=by
   unfold compO wantedA
   cases o.guard with
   |none=>rfl
   |some x=>
    obtain⟨j,w⟩:=x
    simp only[Option.map_some]
    cases(ops[j]?).bind (·.dst)with
    |none=>rfl
    |some q=>
     simp only
     cases tget t q<;>first|rfl|(rename_i l;cases l<;>rfl)
  unfold rc
  rw[hw]
  cases hwa:wantedA ops t o with
  |none=>unfold rg evOps;simp only[hwa]
  |some b=>
   cases b with
   |false=>rw[rg_skip n k ops rest i t h o hwa];exact rg_rc
   |true=>
    rw[rg_do n k ops rest i t h o hwa]
    show rgD O P n k ops rest (i+1) o.dst (exOp O P t h o.op) t h=match exOp O P t h o.op with
     |some (.ret v,es)=>rc O P n k (rest.map (compO ops)) (put t o.dst v) (happ h es)
     |some (.pan v,es)=>popK (evM O P n) k (.pan v) ⟨t,happ h es⟩
     |none=>none
    cases exOp O P t h o.op with
    |none=>rfl
    |some x=>
     obtain⟨out,es⟩:=x
     cases out with
     |ret v=>exact rg_rc
     |pan v=>rfl
theorem rc_nil(n:Nat)(k:List KItem)(t:List AV)(h:Heap):rc O P n k [] t h=popK (evM O P n) k .normal ⟨t,h⟩:=Eq.trans rfl rfl
theorem rc_op(n:Nat)(k:List KItem)(d:Option Nat)(op:Op)(cs:List CO)(t:List AV)(h:Heap):rc O P n k (⟨d,op,none⟩::cs) t h=rcD O P n k d cs (exOp O P t h op) t h:=Eq.trans rfl rfl
theorem rc_if(n:Nat)(k:List KItem)(d:Option Nat)(op:Op)(cs:List CO)(q:Nat)(w:Bool)(t:List AV)(h:Heap):rc O P n k (⟨d,op,some (some q,w)⟩::cs) t h=rcG O P n k d op cs (tget t q) w t h:=by
 unfold rc rcG
 simp only
 cases tget t q with
 |bool b=>simp only;cases(b==w)<;>rfl
 |tup l=>cases l<;>rfl
 |_=>rfl
theorem rcD_ret(n:Nat)(k:List KItem)(d:Option Nat)(cs:List CO)(v:AV)(es:List HEdit)(t:List AV)(h:Heap):rcD O P n k d cs (some (.ret v,es)) t h=rc O P n k cs (put t d v) (happ h es):=Eq.trans rfl rfl
theorem rcG_tt(n:Nat)(k:List KItem)(d:Option Nat)(op:Op)(cs:List CO)(t:List AV)(h:Heap):rcG O P n k d op cs (.bool true) true t h=rcD O P n k d cs (exOp O P t h op) t h:=Eq.trans rfl rfl
theorem rcG_ff(n:Nat)(k:List KItem)(d:Option Nat)(op:Op)(cs:List CO)(t:List AV)(h:Heap):rcG O P n k d op cs (.bool false) false t h=rcD O P n k d cs (exOp O P t h op) t h:=Eq.trans rfl rfl
theorem rcG_tf(n:Nat)(k:List KItem)(d:Option Nat)(op:Op)(cs:List CO)(t:List AV)(h:Heap):rcG O P n k d op cs (.bool true) false t h=rc O P n k cs (put t d (.tup [])) h:=Eq.trans rfl rfl
theorem rcG_ft(n:Nat)(k:List KItem)(d:Option Nat)(op:Op)(cs:List CO)(t:List AV)(h:Heap):rcG O P n k d op cs (.bool false) true t h=rc O P n k cs (put t d (.tup [])) h:=Eq.trans rfl rfl
theorem rcG_no(n:Nat)(k:List KItem)(d:Option Nat)(op:Op)(cs:List CO)(w:Bool)(t:List AV)(h:Heap):rcG O P n k d op cs (.tup []) w t h=rc O P n k cs (put t d (.tup [])) h:=Eq.trans rfl rfl
theorem evM_rc(n:Nat)(id:Nat)(ops:Array Oper)(k:List KItem)(t:List AV)(h:Heap):evM O P (n+1) (.region id ops false) k ⟨t,h⟩=rc O P n k (ops.toList.map (compO ops.toList)) t h:=rg_rc
end
section
variable {P:Program} {O:Orc}
abbrev OE:=Option (Out × List HEdit)
def r1(x:Option AV):OE:=x.map fun v=>(.ret v,[])
theorem r1_some(v:AV):r1 (some v)=some (.ret v,[]):=Eq.trans rfl rfl
def rD(x:Option Did):OE:=x.map fun d=>(.ret d.v,d.es)
theorem rD_some(v:AV)(es:List HEdit)(fs:List Foot):rD (some ⟨v,es,fs⟩)=some (.ret v,es):=Eq.trans rfl rfl
theorem rD_purely(x:Option AV):rD (purely x)=r1 x:=by cases x<;>rfl
theorem ex_other(t:List AV)(h:Heap)(op:Op)(hk:kindOf op=.other):exOp O P t h op=rD (exec P (hf h) h.length t op):=by unfold exOp;rw[hk];rfl
theorem ex_move(t:List AV)(h:Heap)(x:Operand):exOp O P t h (.move x)=r1 (evalO t x):=by rw[ex_other _ _ _ rfl];exact rD_purely _
theorem ex_assign(t:List AV)(h:Heap)(x:Operand):exOp O P t h (.assign x)=r1 (evalO t x):=by rw[ex_other _ _ _ rfl];exact rD_purely _
def pk(c a b:Option AV):OE:=
 match c,a,b with
 |some (.bool true),some a,some _=>some (.ret a,[])
 |some (.bool false),some _,some b=>some (.ret b,[])
 |_,_,_=>none
theorem pk_true(a b:AV):pk (some (.bool true)) (some a) (some b)=some (.ret a,[]):=Eq.trans rfl rfl
theorem pk_false(a b:AV):pk (some (.bool false)) (some a) (some b)=some (.ret b,[]):=Eq.trans rfl rfl
theorem ex_pick(t:List AV)(h:Heap)(c a b:Operand):exOp O P t h (.pick c a b)=pk (evalO t c) (evalO t a) (evalO t b):=by
 rw[ex_other _ _ _ rfl]
 simp only[exec]
 cases evalO t c with
 |none=>rfl
 |some v=>
  cases evalO t a with
  |none=>cases v<;>first|rfl|(rename_i q;cases q<;>rfl)
  |some x=>
   cases evalO t b with
   |none=>cases v<;>first|rfl|(rename_i q;cases q<;>rfl)
   |some y=>cases v<;>first|rfl|(rename_i q;cases q<;>rfl)
def bn(P:Program)(op:BinOp)(ty:TypeId)(a b:Option AV):Option AV:=a.bind fun a=>b.bind fun b=>aBin P op ty a b
theorem bn_some(op:BinOp)(ty:TypeId)(a b:AV):bn P op ty (some a) (some b)=aBin P op ty a b:=Eq.trans rfl rfl
theorem ex_bin(t:List AV)(h:Heap)(op:BinOp)(ty:TypeId)(x y:Operand)(u:TypeId):exOp O P t h (.binOp op ty x y u)=r1 (bn P op ty (evalO t x) (evalO t y)):=by
 rw[ex_other _ _ _ rfl]
 simp only[exec,bn]
 cases evalO t x with
 |none=>rfl
 |some a=>
  cases evalO t y with
  |none=>rfl
  |some b=>exact rD_purely _
section bins
variable (P:Program) (ty:TypeId) (k:IntKind) (a b:Int)
theorem b_add:aBin P .add ty (.int k a) (.int k b)=some (.int k (k.wrap (a+b))):=by simp[aBin,aIntBin]
theorem b_sub:aBin P .sub ty (.int k a) (.int k b)=some (.int k (k.wrap (a-b))):=by simp[aBin,aIntBin]
theorem b_mul:aBin P .mul ty (.int k a) (.int k b)=some (.int k (k.wrap (a*b))):=by simp[aBin,aIntBin]
theorem b_quo:aBin P .quo ty (.int k a) (.int k b)=if b=0 then none else some (.int k (k.wrap (a.tdiv b))):=by simp[aBin,aIntBin]
theorem b_eql:aBin P .eql ty (.int k a) (.int k b)=some (.bool (a==b)):=by simp[aBin,aIntBin]
theorem b_neq:aBin P .neq ty (.int k a) (.int k b)=some (.bool !(a==b)):=by simp[aBin,aIntBin,bne]
theorem b_lss:aBin P .lss ty (.int k a) (.int k b)=some (.bool (decide (a<b))):=by simp[aBin,aIntBin]
theorem b_leq:aBin P .leq ty (.int k a) (.int k b)=some (.bool (decide (a≤b))):=by simp[aBin,aIntBin]
theorem b_gtr:aBin P .gtr ty (.int k a) (.int k b)=some (.bool (decide (b<a))):=by simp[aBin,aIntBin]
theorem b_geq:aBin P .geq ty (.int k a) (.int k b)=some (.bool (decide (b≤a))):=by simp[aBin,aIntBin]
end bins
theorem ex_un(t:List AV)(h:Heap)(op:UnOp)(ty:TypeId)(x:Operand):exOp O P t h (.unOp op ty x)=r1 ((evalO t x).bind (aUn op)):=by
 rw[ex_other _ _ _ rfl]
 simp only[exec]
 cases evalO t x with
 |none=>rfl
 |some a=>exact rD_purely _
/-- A block's row. -/
def rowB(c:Option CB)(r:Nat):Option (List AV):=
 match c with
 |some (.live _ _ _ rows)=>rows[r]?
 |some (.frz _ _ rows)=>rows[r]?
 |_=>none
theorem rowB_live(st:Nat)(fl w:Bool)(rows:List (List AV))(r:Nat):rowB (some (.live st fl w rows)) r=rows[r]?:=Eq.trans rfl rfl
theorem rowOf_hf(h:Heap)(b r:Nat):rowOf (hf h) b r=rowB (h[b]?) r:=by
 unfold rowOf rowB hf
 cases h[b]? with
 |none=>rfl
 |some c=>cases c<;>rfl
/-- Loads of scalars and of aggregates. -/
def ldC(cs:Option (List AV))(o:Nat):OE:=cs.bind fun cs=>r1 (cs[o]?)
def ldR(cs:Option (List AV))(o n:Nat):OE:=cs.bind fun cs=>if o+n≤cs.length then some (.ret (.agg ((cs.drop o).take n)),[])else none
theorem ldC_some(cs:List AV)(o:Nat):ldC (some cs) o=r1 (cs[o]?):=Eq.trans rfl rfl
theorem ldR_some(cs:List AV)(o n:Nat):ldR (some cs) o n=if o+n≤cs.length then some (.ret (.agg ((cs.drop o).take n)),[])else none:=Eq.trans rfl rfl
def ld(P:Program)(ty:TypeId)(h:Heap)(p:Option AV):OE:=p.bind fun p=>rD (aLoad P (hf h) ty p)
theorem ex_load(t:List AV)(h:Heap)(ty:TypeId)(a:Operand):exOp O P t h (.load ty a)=ld P ty h (evalO t a):=by
 rw[ex_other _ _ _ rfl]
 simp only[exec,ld]
 cases evalO t a<;>rfl
/-- What a type's loads are. -/
def Scal(P:Program)(ty:TypeId):Prop:=aggT P ty=some false∧∃n,szT P ty=some n
def Aggr(P:Program)(ty:TypeId)(n:Nat):Prop:=aggT P ty=some true∧szT P ty=some n
theorem ld_sp{ty:TypeId}(hs:Scal P ty)(h:Heap)(b r o:Nat):ld P ty h (some (.ptr b r o))=ldC (rowB (h[b]?) r) o:=by
 obtain⟨h1,n,h2⟩:=hs
 simp only[ld,Option.bind_some,aLoad,h1,h2,rowOf_hf]
 cases rowB (h[b]?) r with
 |none=>rfl
 |some cs=>simp only[Option.bind_some,ldC];cases cs[o]?<;>rfl
theorem ld_si{ty:TypeId}(hs:Scal P ty)(h:Heap)(c:AV)(cs:List AV):ld P ty h (some (.iptr (c::cs)))=some (.ret c,[]):=by
 obtain⟨h1,n,h2⟩:=hs
 simp only[ld,Option.bind_some,aLoad,h1,h2,rD_some]
theorem ld_ap{ty:TypeId}{n:Nat}(hs:Aggr P ty n)(h:Heap)(b r o:Nat):ld P ty h (some (.ptr b r o))=ldR (rowB (h[b]?) r) o n:=by
 obtain⟨h1,h2⟩:=hs
 simp only[ld,Option.bind_some,aLoad,h1,h2,rowOf_hf]
 cases rowB (h[b]?) r with
 |none=>rfl
 |some cs=>simp only[Option.bind_some,ldR];split<;>rfl
theorem ld_ai{ty:TypeId}{n:Nat}(hs:Aggr P ty n)(h:Heap)(cs:List AV):ld P ty h (some (.iptr cs))=if n≤cs.length then some (.ret (.agg (cs.take n)),[])else none:=by
 obtain⟨h1,h2⟩:=hs
 simp only[ld,Option.bind_some,aLoad,h1,h2]
 split<;>rfl
/-- Stores. -/
def sv(n:Nat)(c:Option CB)(b r o:Nat)(v:List AV):OE:=
 match c with
 |some (.live _ _ _ rows)=>(rows[r]?).bind fun cs=>if v.length=n∧o+n≤cs.length∧v.all AV.isCell=true then some (.ret (.tup []),[.cells b r o v])else none
 |_=>none
theorem sv_live(n:Nat)(st:Nat)(fl w:Bool)(rows:List (List AV))(b r o:Nat)(v:List AV):sv n (some (.live st fl w rows)) b r o v=(rows[r]?).bind fun cs=>if v.length=n∧o+n≤cs.length∧v.all AV.isCell=true then some (.ret (.tup []),[.cells b r o v])else none:=Eq.trans rfl rfl
def st_(P:Program)(ty:TypeId)(h:Heap)(p v:Option AV):OE:=p.bind fun p=>v.bind fun v=>rD (aStore P (hf h) ty p v)
theorem ex_store(t:List AV)(h:Heap)(ty:TypeId)(a x:Operand):exOp O P t h (.store ty a x)=st_ P ty h (evalO t a) (evalO t x):=by
 rw[ex_other _ _ _ rfl]
 simp only[exec,st_]
 cases evalO t a with
 |none=>rfl
 |some p=>cases evalO t x<;>rfl
theorem st_ptr{ty:TypeId}{n:Nat}(hs:szT P ty=some n)(h:Heap)(b r o:Nat)(v:AV):st_ P ty h (some (.ptr b r o)) (some v)=sv n (h[b]?) b r o (acells v):=by
 simp only[st_,Option.bind_some,aStore,hs,hf,sv]
 cases h[b]? with
 |none=>rfl
 |some c=>
  cases c with
  |live st fl w rows=>
   simp only
   cases rows[r]? with
   |none=>rfl
   |some cs=>simp only[Option.bind_some];split<;>rfl
  |_=>rfl
/-- New blocks. -/
def nw(h:Heap)(v:Option AV):OE:=v.bind fun v=>if(acells v).all AV.isCell=true then some (.ret (.ptr h.length 0 0),[.new h.length (.live (acells v).length ((acells v).all AV.flat) false [acells v])])else none
theorem nw_some(h:Heap)(v:AV):nw h (some v)=if(acells v).all AV.isCell=true then some (.ret (.ptr h.length 0 0),[.new h.length (.live (acells v).length ((acells v).all AV.flat) false [acells v])])else none:=Eq.trans rfl rfl
theorem ex_alloc(t:List AV)(h:Heap)(ty:TypeId):exOp O P t h (.alloc ty)=nw h (zeroT P ty):=by
 rw[ex_other _ _ _ rfl]
 simp only[exec,nw]
 cases zeroT P ty with
 |none=>rfl
 |some z=>simp only[Option.bind_some,aNew];split<;>rfl
theorem ex_box(t:List AV)(h:Heap)(ty:TypeId)(x:Operand):exOp O P t h (.box ty x)=nw h (evalO t x):=by
 rw[ex_other _ _ _ rfl]
 simp only[exec,nw]
 cases evalO t x with
 |none=>rfl
 |some z=>simp only[Option.bind_some,aNew];split<;>rfl
theorem ex_build(t:List AV)(h:Heap)(ty:TypeId)(ps:Array (Nat × Operand)):exOp O P t h (.build ty ps)=r1 ((evalOs t (ps.toList.map (·.2))).bind fun vs=>aBuild P ty (pairs ps.toList vs)):=by
 rw[ex_other _ _ _ rfl]
 simp only[exec]
 cases evalOs t (ps.toList.map (·.2))with
 |none=>rfl
 |some vs=>exact rD_purely _
theorem ex_buildSlice(t:List AV)(h:Heap)(ty:TypeId)(len:Nat)(ps:Array (Nat × Operand)):exOp O P t h (.buildSlice ty len ps)=rD ((evalOs t (ps.toList.map (·.2))).bind fun vs=>aBuildSlice P h.length ty len (pairs ps.toList vs)):=ex_other _ _ _ rfl
def fa(P:Program)(ty:TypeId)(x:Option AV)(f:Nat):OE:=r1 (x.bind fun x=>aFieldAddr P ty x f)
theorem ex_fa(t:List AV)(h:Heap)(ty:TypeId)(x:Operand)(f:Nat):exOp O P t h (.fieldAddr ty x f)=fa P ty (evalO t x) f:=by
 rw[ex_other _ _ _ rfl]
 simp only[exec,fa]
 cases evalO t x with
 |none=>rfl
 |some a=>exact rD_purely _
/-- A field's place. -/
def FldAt(P:Program)(ty:TypeId)(f off n:Nat):Prop:=∃fs fd,P.underlying ty=some (.struct fs)∧fs[f]?=some fd∧fd.offset=off∧szT P fd.type=some n∧n≠0
theorem fa_ptr{ty:TypeId}{f off n:Nat}(hf:FldAt P ty f off n)(b r o:Nat):fa P ty (some (.ptr b r o)) f=some (.ret (.ptr b r (o+off)),[]):=by
 obtain⟨fs,fd,h1,h2,h3,h4,h5⟩:=hf
 simp only[fa,Option.bind_some,aFieldAddr,h1,h2,h4,h5,if_false,h3,r1_some]
theorem fa_iptr{ty:TypeId}{f off n:Nat}(hf:FldAt P ty f off n)(cs:List AV):fa P ty (some (.iptr cs)) f=if off+n≤cs.length then some (.ret (.iptr (cs.drop off)),[])else none:=by
 obtain⟨fs,fd,h1,h2,h3,h4,h5⟩:=hf
 simp only[fa,Option.bind_some,aFieldAddr,h1,h2,h4,h5,if_false,h3]
 split<;>rfl
def ia(P:Program)(ty:TypeId)(x i:Option AV):OE:=r1 (x.bind fun x=>i.bind fun i=>aIndexAddr P ty x i)
theorem ex_ia(t:List AV)(h:Heap)(ty:TypeId)(x i:Operand):exOp O P t h (.indexAddr ty x i)=ia P ty (evalO t x) (evalO t i):=by
 rw[ex_other _ _ _ rfl]
 simp only[exec,ia]
 cases evalO t x with
 |none=>rfl
 |some a=>
  cases evalO t i with
  |none=>rfl
  |some b=>exact rD_purely _
def SlT(P:Program)(ty:TypeId)(n:Nat):Prop:=∃e,P.underlying ty=some (.slice e)∧szT P e=some n
theorem ia_imm{ty:TypeId}{n:Nat}(hs:SlT P ty n)(fl:Bool)(rows:List (List AV))(k:IntKind)(i:Int):ia P ty (some (.imm n fl rows)) (some (.int k i))=if 0≤i then r1 ((rows[i.toNat]?).map .iptr)else none:=by
 obtain⟨e,h1,h2⟩:=hs
 simp only[ia,Option.bind_some,aIndexAddr,h1,h2,true_and]
 split<;>rfl
theorem ia_slr{ty:TypeId}{n:Nat}(hs:SlT P ty n)(b r len:Nat)(k:IntKind)(i:Int):ia P ty (some (.slr n b r len)) (some (.int k i))=if 0≤i∧i<len then some (.ret (.ptr b (r+i.toNat) 0),[])else none:=by
 obtain⟨e,h1,h2⟩:=hs
 simp only[ia,Option.bind_some,aIndexAddr,h1,h2,true_and]
 split<;>rfl
theorem ex_extract(t:List AV)(h:Heap)(x:Operand)(i:Nat):exOp O P t h (.extract x i)=r1 ((evalO t x).bind fun x=>match x with| .tup vs=>vs[i]?|_=>none):=by
 rw[ex_other _ _ _ rfl]
 simp only[exec]
 cases evalO t x with
 |none=>rfl
 |some a=>cases a<;>first|rfl|exact rD_purely _
/-- Lengths. -/
def ln(P:Program)(ty:TypeId)(x:Option AV):OE:=r1 (x.bind (aLen P ty))
theorem ex_len(t:List AV)(h:Heap)(x:Operand)(ty:TypeId):exOp O P t h (.call ⟨.builtin .len,#[x],#[ty]⟩)=ln P ty (evalO t x):=by
 rw[ex_other _ _ _ rfl]
 simp only[exec,evalOs,ln]
 cases evalO t x with
 |none=>rfl
 |some a=>exact rD_purely _
theorem ln_imm{ty:TypeId}{n:Nat}(hs:SlT P ty n)(st:Nat)(fl:Bool)(rows:List (List AV)):ln P ty (some (.imm st fl rows))=some (.ret (.int .i64 rows.length),[]):=by
 obtain⟨e,h1,h2⟩:=hs
 simp only[ln,Option.bind_some,aLen,h1,r1_some]
theorem ln_slr{ty:TypeId}{n:Nat}(hs:SlT P ty n)(st b r len:Nat):ln P ty (some (.slr st b r len))=some (.ret (.int .i64 len),[]):=by
 obtain⟨e,h1,h2⟩:=hs
 simp only[ln,Option.bind_some,aLen,h1,r1_some]
theorem ln_nils{ty:TypeId}{n:Nat}(hs:SlT P ty n):ln P ty (some .nils)=some (.ret (.int .i64 0),[]):=by
 obtain⟨e,h1,h2⟩:=hs
 simp only[ln,Option.bind_some,aLen,h1,r1_some]
/-- Least and greatest. -/
theorem ex_min2(t:List AV)(h:Heap)(x y:Operand)(ts:Array TypeId):exOp O P t h (.call ⟨.builtin .min,#[x,y],ts⟩)=r1 ((evalO t x).bind fun a=>(evalO t y).bind fun b=>aMin2 a b):=by
 rw[ex_other _ _ _ rfl]
 simp only[exec,evalOs]
 cases evalO t x with
 |none=>rfl
 |some a=>
  cases evalO t y with
  |none=>rfl
  |some b=>exact rD_purely _
theorem ex_max2(t:List AV)(h:Heap)(x y:Operand)(ts:Array TypeId):exOp O P t h (.call ⟨.builtin .max,#[x,y],ts⟩)=r1 ((evalO t x).bind fun a=>(evalO t y).bind fun b=>aMax2 a b):=by
 rw[ex_other _ _ _ rfl]
 simp only[exec,evalOs]
 cases evalO t x with
 |none=>rfl
 |some a=>
  cases evalO t y with
  |none=>rfl
  |some b=>exact rD_purely _
/-- Calls. -/
def cr(x:Option DidC):OE:=x.map fun d=>(d.out,d.es)
theorem cr_some(o:Out)(es:List HEdit)(fs:List Foot):cr (some ⟨o,es,fs⟩)=some (o,es):=Eq.trans rfl rfl
/-- Is a reference first? -/
def hdR:List AV→Bool
 | .ptr _ _ _::_=>true
 | .yl _::_=>true
 |_=>false
theorem calOf_hd(f:Nat)(args:List AV):calOf f args=if hdR args=true then .sh f else .fn f:=by
 unfold calOf
 split
 ·rfl
 ·rfl
 ·rename_i h1 h2
  rw[if_neg]
  intro hc
  unfold hdR at hc
  split at hc
  ·exact h1 _ _ _ _ rfl
  ·exact h2 _ _ rfl
  ·cases hc
theorem hd_nil:hdR []=false:=Eq.trans rfl rfl
theorem hd_ptr(b r o:Nat)(l:List AV):hdR (.ptr b r o::l)=true:=Eq.trans rfl rfl
theorem hd_int(k:IntKind)(n:Int)(l:List AV):hdR (.int k n::l)=false:=Eq.trans rfl rfl
theorem hd_nils(l:List AV):hdR (.nils::l)=false:=Eq.trans rfl rfl
theorem hd_imm(n:Nat)(fl:Bool)(rows:List (List AV))(l:List AV):hdR (.imm n fl rows::l)=false:=Eq.trans rfl rfl
theorem hd_slr(a b r n:Nat)(l:List AV):hdR (.slr a b r n::l)=false:=Eq.trans rfl rfl
theorem hd_agg(c:List AV)(l:List AV):hdR (.agg c::l)=false:=Eq.trans rfl rfl
/-- A call on the caller's heap. -/
def shK(h:Heap)(x:Option (Out × Heap)):OE:=x.bind fun(out,h')=>(sharedE 0 h h').map fun es=>(out,es)
/-- No block counts as written. -/
def clH(h:Heap):Heap:=h.map CB.clean
/-- How a call whose first argument is a reference goes. -/
def shC(O:Orc)(h:Heap)(f:Nat)(args:List AV):OE:=if(ylHd args||O.md f)=true then shK h (O.call (.sh f) args (clH h))else cr (aCallP O (hf h) h.length (.fn f) args)
theorem cr_sh(h:Heap)(f:Cal)(args:List AV):cr (aCallS O (hf h) h.length f args)=shK h (O.call f args (clH h)):=by
 unfold aCallS shK cr clH
 rw[hOf_hf,Option.bind_some]
 cases O.call f args (h.map CB.clean)with
 |none=>rfl
 |some x=>
  obtain⟨out,h'⟩:=x
  simp only[Option.bind_some]
  cases sharedE 0 h h'<;>rfl
def cl(O:Orc)(h:Heap)(f:Option AV)(vs:Option (List AV)):OE:=f.bind fun f=>vs.bind fun vs=>
 match f with
 | .func (.func f) a b=>if hdR (a++vs++b)=true then shC O h f (a++vs++b)else cr (aCallP O (hf h) h.length (.fn f) (a++vs++b))
 | .yl b=>shK h (O.call .round (vs++[.yl b]) (clH h))
 |_=>none
theorem cl_fn(h:Heap)(f:Nat)(a b vs:List AV):cl O h (some (.func (.func f) a b)) (some vs)=if hdR (a++vs++b)=true then shC O h f (a++vs++b)else cr (aCallP O (hf h) h.length (.fn f) (a++vs++b)):=Eq.trans rfl rfl
theorem cl_yl(h:Heap)(b:Nat)(vs:List AV):cl O h (some (.yl b)) (some vs)=shK h (O.call .round (vs++[.yl b]) (clH h)):=Eq.trans rfl rfl
theorem cr_cal(h:Heap)(f:Nat)(args:List AV):cr (aCall O (hf h) h.length (calOf f args) args)=if hdR args=true then shC O h f args else cr (aCallP O (hf h) h.length (.fn f) args):=by
 rw[calOf_hd]
 split
 ·unfold shC
  cases hq:(ylHd args||O.md f)with
  |true=>simp only[aCall,hq,cond_true,if_true,cr_sh]
  |false=>simp only[aCall,hq,cond_false,Bool.false_eq_true,if_false]
 ·rfl
theorem ex_call(t:List AV)(h:Heap)(f:Operand)(args:Array Operand)(ts:Array TypeId):exOp O P t h (.call ⟨.value f,args,ts⟩)=cl O h (evalO t f) (evalOs t args.toList):=by
 simp only[exOp,kindOf,callee,cl]
 cases evalO t f with
 |none=>rfl
 |some fv=>
  cases evalOs t args.toList with
  |none=>rfl
  |some vs=>
   simp only[Option.bind_some]
   cases fv with
   |func fn a b=>
    cases fn with
    |func f=>exact cr_cal h f _
    |_=>rfl
   |yl b=>exact cr_sh h .round _
   |_=>rfl
/-- Values without references to blocks. -/
def pureV:Nat→AV→Bool
 |0,_=>false
 |d+1,v=>
  match v with
  | .ptr _ _ _=>false
  | .slr _ _ _ _=>false
  | .yl _=>false
  | .agg cs=>cs.all (pureV d)
  | .tup cs=>cs.all (pureV d)
  | .iface _ x=>pureV d x
  | .func _ a b=>a.all (pureV d)&&b.all (pureV d)
  |_=>true
theorem omap_same{f:AV→Option AV}:∀{l:List AV},(∀x∈l,f x=some x)→omap f l=some l
 | [],_=>rfl
 |a::l,h=>by
  simp only[omap,h a (List.mem_cons_self ..),omap_same (fun x hx=>h x (List.mem_cons_of_mem _ hx)),Option.bind_some,Option.map_some]
theorem argV_pure(g:HF):∀{d e:Nat} {v:AV},d≤e→pureV d v=true→argV e g v=some v
 |0,e,v,_,h=>by simp[pureV]at h
 |d+1,0,v,he,h=>by omega
 |d+1,e+1,v,he,h=>by
  cases v with
  |ptr b r o=>simp[pureV]at h
  |slr a b c d=>simp[pureV]at h
  |agg cs=>
   simp only[pureV,List.all_eq_true]at h
   simp only[argV]
   rw[omap_same fun x hx=>argV_pure g (by omega) (h x hx)];rfl
  |iface t x=>
   simp only[pureV]at h
   simp only[argV]
   rw[argV_pure g (by omega) h];rfl
  |_=>rfl
theorem lentV_pure(g:HF):∀{d e:Nat} {v:AV},d≤e→pureV d v=true→lentV e g v=[]
 |0,e,v,_,h=>by simp[pureV]at h
 |d+1,0,v,he,h=>by omega
 |d+1,e+1,v,he,h=>by
  cases v with
  |ptr b r o=>simp[pureV]at h
  |slr a b c d=>simp[pureV]at h
  |agg cs=>
   simp only[pureV,List.all_eq_true]at h
   simp only[lentV]
   rw[List.flatMap_eq_nil_iff]
   exact fun x hx=>lentV_pure g (by omega) (h x hx)
  |iface t x=>
   simp only[pureV]at h
   simp only[lentV]
   exact lentV_pure g (by omega) h
  |_=>rfl
theorem refL_same{f:List Nat→AV→Option (AV × List Nat)}{m:List Nat}:∀{l:List AV},(∀x∈l,f m x=some (x,m))→refV.refL f m l=some (l,m)
 | [],_=>rfl
 |a::l,h=>by
  simp only[refV.refL,h a (List.mem_cons_self ..),refL_same (fun x hx=>h x (List.mem_cons_of_mem _ hx)),Option.bind_some,Option.map_some]
theorem refV_pure(m:List Nat):∀{d:Nat} {v:AV},pureV d v=true→refV d m v=some (v,m)
 |0,v,h=>by simp[pureV]at h
 |d+1,v,h=>by
  cases v with
  |ptr b r o=>simp[pureV]at h
  |slr a b c d=>simp[pureV]at h
  |yl b=>simp[pureV]at h
  |agg cs=>
   simp only[pureV,List.all_eq_true]at h
   simp only[refV]
   rw[refL_same fun x hx=>refV_pure m (h x hx)];rfl
  |tup cs=>
   simp only[pureV,List.all_eq_true]at h
   simp only[refV]
   rw[refL_same fun x hx=>refV_pure m (h x hx)];rfl
  |iface t x=>
   simp only[pureV]at h
   simp only[refV]
   rw[refV_pure m h];rfl
  |func fn a b=>
   simp only[pureV,Bool.and_eq_true,List.all_eq_true]at h
   simp only[refV]
   rw[refL_same fun x hx=>refV_pure m (h.1 x hx)]
   simp only[Option.bind_some]
   rw[refL_same fun x hx=>refV_pure m (h.2 x hx)];rfl
  |_=>rfl
theorem renV_pure(f:Nat→Nat):∀{d:Nat} {v:AV},pureV d v=true→renV d f v=some v
 |0,v,h=>by simp[pureV]at h
 |d+1,v,h=>by
  cases v with
  |ptr b r o=>simp[pureV]at h
  |slr a b c d=>simp[pureV]at h
  |yl b=>simp[pureV]at h
  |agg cs=>
   simp only[pureV,List.all_eq_true]at h
   simp only[renV]
   rw[omap_same fun x hx=>renV_pure f (h x hx)];rfl
  |tup cs=>
   simp only[pureV,List.all_eq_true]at h
   simp only[renV]
   rw[omap_same fun x hx=>renV_pure f (h x hx)];rfl
  |iface t x=>
   simp only[pureV]at h
   simp only[renV]
   rw[renV_pure f h];rfl
  |func fn a b=>
   simp only[pureV,Bool.and_eq_true,List.all_eq_true]at h
   simp only[renV]
   rw[omap_same fun x hx=>renV_pure f (h.1 x hx)]
   simp only[Option.bind_some]
   rw[omap_same fun x hx=>renV_pure f (h.2 x hx)];rfl
  |_=>rfl
/-- What a call of values without references gives back. -/
def ac0(base:Nat)(x:Option (Out × Heap)):Option DidC:=x.bind fun(out,h')=>
 (renV 8 (fun i=>base+i) out.v).bind fun v=>(newsE (fun i=>base+i) base h').map fun ns=>⟨out.map fun _=>v,ns,[]⟩
theorem aCallP_pure{g:HF}{base:Nat}{f:Cal}{args:List AV}(hp:args.all (pureV 8)=true):aCallP O g base f args=ac0 base (O.call f args []):=by
 rw[List.all_eq_true]at hp
 have h1:omap (argV 12 g) args=some args:=omap_same fun x hx=>argV_pure g (by omega) (hp x hx)
 have h2:pack g [] args=some (args,[],[]):=by
  unfold pack
  rw[refL_same fun x hx=>refV_pure [] (hp x hx)]
  rfl
 have h3:args.flatMap (lentV 12 g)=[]:=by
  rw[List.flatMap_eq_nil_iff]
  exact fun x hx=>lentV_pure g (by omega) (hp x hx)
 have h4:renOf [] base=fun i=>base+i:=by funext i;simp[renOf]
 unfold aCallP
 simp only[h1,h2,h3,Option.bind_some,List.any_nil,Bool.false_eq_true,if_false,List.map_nil]
 unfold ac0
 cases O.call f args []with
 |none=>rfl
 |some x=>
  obtain⟨out,h'⟩:=x
  simp only[Option.bind_some,unpack,h4,List.length_nil,List.take_zero,List.drop_zero,putsE,List.isEmpty_nil,Bool.true_or,if_true,List.nil_append,List.append_nil,List.map_nil]
  cases renV 8 (fun i=>base+i) out.v with
  |none=>rfl
  |some v=>
   simp only[Option.bind_some]
   cases newsE (fun i=>base+i) base h'<;>rfl
theorem ac0_pure{base:Nat}{v:AV}(hv:pureV 8 v=true):ac0 base (some (.ret v,[]))=some ⟨.ret v,[],[]⟩:=by
 simp only[ac0,Option.bind_some,Out.v,renV_pure _ hv,newsE,Option.map_some,Out.map]
/-- A function's end without references. -/
theorem retK_pure{vs:List AV}{h:Heap}(hv:pureV 8 (oneA vs)=true):retK 0 (some vs) h=some (.ret (oneA vs),[]):=by
 simp only[retK,Option.bind_some,finish,List.range_zero]
 unfold pack
 rw[refL_same (l:=[oneA vs]) (fun x hx=>by simp at hx;subst hx;exact refV_pure [] hv)]
 rfl
theorem resA_nil(s:St):resA P s []=some []:=Eq.trans rfl rfl
theorem resA_tmp(t:List AV)(h:Heap)(q:Nat)(rs:List ResultVar):resA P ⟨t,h⟩ (.tmp q::rs)=(resA P ⟨t,h⟩ rs).map fun vs=>tget t q::vs:=Eq.trans rfl rfl
/-- A contract, from the body on. -/
theorem om_start{pr:Prims}{f:Nat}{fn:Func}{c:Code}{args:List AV}{h:Heap}{r:Out × Heap}(hp:pr f=none)(hf:P.funcs[f]?=some fn)(hb:fn.body=some c)(hl:Nat.ble args.length fn.ntmps=true)
 (he:fnK P h.length fn.results.toList (evM (om P pr) P 5000 c [] ⟨mk fn.ntmps (ent args),h⟩)=some r):(om P pr).call (.fn f) args h=some r:=
 om_fn hp ((evF_eq hf hb (Nat.le_of_ble_eq_true hl) h).trans he)
def ac1(base:Nat)(x:Option (Out × Heap)):Option DidC:=ac0 base x
theorem ac0_if(base:Nat)(v:AV):ac0 base (some (.ret v,[]))=if pureV 8 v=true then some ⟨.ret v,[],[]⟩else ac1 base (some (.ret v,[])):=by
 split
 ·rename_i h;exact ac0_pure h
 ·rfl
theorem aun_not(b:Bool):aUn .not (.bool b)=some (.bool !b):=Eq.trans rfl rfl
theorem aun_neg(k:IntKind)(n:Int):aUn .neg (.int k n)=some (.int k (k.wrap (0-n))):=Eq.trans rfl rfl
theorem amin_int(k k':IntKind)(x y:Int):aMin2 (.int k x) (.int k' y)=some (.int k (if y<x then y else x)):=Eq.trans rfl rfl
theorem amax_int(k k':IntKind)(x y:Int):aMax2 (.int k x) (.int k' y)=some (.int k (if y>x then y else x)):=Eq.trans rfl rfl
/-- A slice as it comes in: nil where nothing is in it and it is so told. -/
def slv(n:Nat)(fl nn:Bool):List (List AV)→AV
 | []=>bif nn then .imm n fl []else .nils
 |r::rs=>.imm n fl (r::rs)
theorem slv_cons(n:Nat)(fl nn:Bool)(r:List AV)(rs:List (List AV)):slv n fl nn (r::rs)=.imm n fl (r::rs):=Eq.trans rfl rfl
theorem slv_pure(d n:Nat)(fl nn:Bool)(rows:List (List AV)):pureV (d+1) (slv n fl nn rows)=true:=by
 cases rows with
 |nil=>cases nn<;>rfl
 |cons r rs=>rfl
theorem hd_slv(n:Nat)(fl nn:Bool)(rows:List (List AV))(l:List AV):hdR (slv n fl nn rows::l)=false:=by
 cases rows with
 |nil=>cases nn<;>rfl
 |cons r rs=>rfl
theorem slv_cell(n:Nat)(fl nn:Bool)(rows:List (List AV)):AV.isCell (slv n fl nn rows)=true:=by
 cases rows with
 |nil=>cases nn<;>rfl
 |cons r rs=>rfl
theorem slv_flat(n:Nat)(fl nn:Bool)(rows:List (List AV)):AV.flat (slv n fl nn rows)=false:=by
 cases rows with
 |nil=>cases nn<;>rfl
 |cons r rs=>rfl
theorem slv_acells(n:Nat)(fl nn:Bool)(rows:List (List AV)):acells (slv n fl nn rows)=[slv n fl nn rows]:=by
 cases rows with
 |nil=>cases nn<;>rfl
 |cons r rs=>rfl
theorem ln_slv{ty:TypeId}{n:Nat}(hs:SlT P ty n)(fl nn:Bool)(rows:List (List AV)):ln P ty (some (slv n fl nn rows))=some (.ret (.int .i64 rows.length),[]):=by
 cases rows with
 |nil=>cases nn
       ·exact ln_nils hs
       ·exact ln_imm hs _ _ _
 |cons r rs=>exact ln_imm hs _ _ _
theorem ia_slv{ty:TypeId}{n:Nat}(hs:SlT P ty n)(fl nn:Bool)(rows:List (List AV))(k:IntKind)(i:Int):ia P ty (some (slv n fl nn rows)) (some (.int k i))=if 0≤i then r1 ((rows[i.toNat]?).map .iptr)else none:=by
 cases rows with
 |nil=>
  cases nn
  ·obtain⟨e,h1,h2⟩:=hs
   simp[ia,slv,aIndexAddr,h1,r1]
  ·exact ia_imm hs _ _ _ _
 |cons r rs=>exact ia_imm hs _ _ _ _
theorem wrap_of{n:Int}(h1: -9223372036854775808≤n)(h2:n<9223372036854775808):IntKind.i64.wrap n=n:=by
 simp only[IntKind.wrap,IntKind.bits,IntKind.signed]
 simp
 omega
end
section
variable {P:Program} {O:Orc} {pr:Prims}
theorem fw_rc{C:R→Prop}{n:Nat}{k:List KItem}{d:Option Nat}{op:Op}{cs:List CO}{b w:Bool}{t:List AV}{h:Heap}
 (h1:b=true→C (rcG O P n k d op cs (.bool true) w t h)) (h2:b=false→C (rcG O P n k d op cs (.bool false) w t h)):C (rcG O P n k d op cs (.bool b) w t h):=by
 cases b with
 |true=>exact h1 rfl
 |false=>exact h2 rfl
theorem fw_cd{C:R→Prop}{n:Nat}{x y:Code}{k:List KItem}{g:Bool}{s:St}
 (h1:g=true→C (evM O P n x k s)) (h2:g=false→C (evM O P n y k s)):C (cdK O P n x y k (some (.bool g)) s):=by
 cases g with
 |true=>exact h1 rfl
 |false=>exact h2 rfl
/-- A loop's ways out. -/
def LpQ(O:Orc)(c:Code)(s:St)(Q:Ex→St→Prop):Prop:=∃e s',O.loop c s=some (e,s')∧Q e s'
/-- Behind one round of a loop. -/
def After(O:Orc)(c:Code)(Q:Ex→St→Prop):R→Prop
 |some (.normal,s)=>LpQ O c s Q
 |some (e,s)=>Q e s
 |none=>False
theorem LpQ.of{c:Code}{s:St}{Q:Ex→St→Prop}(h:After (om P pr) c Q (evM (om P pr) P 5000 c [] s)):LpQ (om P pr) c s Q:=by
 cases hm:evM (om P pr) P 5000 c [] s with
 |none=>rw[hm]at h;exact h.elim
 |some x=>
  obtain⟨e,s'⟩:=x
  rw[hm]at h
  cases e with
  |normal=>
   obtain⟨e,s'',h1,h2⟩:=h
   exact⟨e,s'',om_loop_step hm h1,h2⟩
  |exit i=>exact⟨_,_,om_loop_end hm (by simp),h⟩
  |ret=>exact⟨_,_,om_loop_end hm (by simp),h⟩
  |pan v=>exact⟨_,_,om_loop_end hm (by simp),h⟩
/-- A function's end. -/
def FnE(P:Program)(q:Nat)(rs:List ResultVar)(Q:Out→Heap→Prop)(x:R):Prop:=∃o h,fnK P q rs x=some (o,h)∧Q o h
def Rt(q:Nat)(vs:Option (List AV))(h:Heap)(Q:Out→Heap→Prop):Prop:=∃o h',retK q vs h=some (o,h')∧Q o h'
theorem fn_ret(q:Nat)(rs:List ResultVar)(Q:Out→Heap→Prop)(t:List AV)(h:Heap):FnE P q rs Q (some (.ret,⟨t,h⟩))=Rt q (resA P ⟨t,h⟩ rs) h Q:=Eq.trans rfl rfl
theorem fn_normal(q:Nat)(rs:List ResultVar)(Q:Out→Heap→Prop)(t:List AV)(h:Heap):FnE P q rs Q (some (.normal,⟨t,h⟩))=Rt q (resA P ⟨t,h⟩ rs) h Q:=Eq.trans rfl rfl
def Rt1(q:Nat)(vs:Option (List AV))(h:Heap)(Q:Out→Heap→Prop):Prop:=Rt q vs h Q
theorem rt_if(vs:List AV)(h:Heap)(Q:Out→Heap→Prop):Rt 0 (some vs) h Q=if pureV 8 (oneA vs)=true then Q (.ret (oneA vs)) []else Rt1 0 (some vs) h Q:=by
 split
 ·rename_i hv
  unfold Rt
  rw[retK_pure hv]
  exact propext ⟨fun⟨o,h',e,q⟩=>by cases e;exact q,fun q=>⟨_,_,rfl,q⟩⟩
 ·rfl
/-- A call's outcome. -/
def ClQ(O:Orc)(f:Nat)(args:List AV)(h:Heap)(Q:Out→Heap→Prop):Prop:=∃o h',O.call (.fn f) args h=some (o,h')∧Q o h'
theorem ClQ.start{f:Nat}{fn:Func}{c:Code}{args:List AV}{h:Heap}{Q:Out→Heap→Prop}(hp:pr f=none)(hf:P.funcs[f]?=some fn)(hb:fn.body=some c)(hl:Nat.ble args.length fn.ntmps=true)
 (he:FnE P h.length fn.results.toList Q (evM (om P pr) P 5000 c [] ⟨mk fn.ntmps (ent args),h⟩)):ClQ (om P pr) f args h Q:=by
 obtain⟨o,h',e,q⟩:=he
 exact⟨o,h',om_start hp hf hb hl e,q⟩
/-- One outcome. -/
theorem ClQ.eq{f:Nat}{args:List AV}{h:Heap}{o:Out}{h':Heap}(k:ClQ O f args h fun o1 h1=>(o1,h1)=(o,h')):O.call (.fn f) args h=some (o,h'):=by
 obtain⟨o1,h1,e,q⟩:=k
 rw[e,q]
/-- A call whose values hold references. -/
def aCall1(O:Orc)(g:HF)(base:Nat)(f:Cal)(args:List AV):Option DidC:=aCallP O g base f args
theorem aCall_if(g:HF)(base:Nat)(f:Cal)(args:List AV):aCallP O g base f args=if args.all (pureV 8)=true then ac0 base (O.call f args [])else aCall1 O g base f args:=by
 split
 ·rename_i h;exact aCallP_pure h
 ·rfl
theorem pv_bool(d:Nat)(b:Bool):pureV (d+1) (.bool b)=true:=Eq.trans rfl rfl
theorem pv_int(d:Nat)(k:IntKind)(n:Int):pureV (d+1) (.int k n)=true:=Eq.trans rfl rfl
theorem pv_nils(d:Nat):pureV (d+1) .nils=true:=Eq.trans rfl rfl
theorem pv_imm(d n:Nat)(fl:Bool)(rows:List (List AV)):pureV (d+1) (.imm n fl rows)=true:=Eq.trans rfl rfl
theorem pv_ptr(d b r o:Nat):pureV (d+1) (.ptr b r o)=false:=Eq.trans rfl rfl
theorem pv_slr(d a b r o:Nat):pureV (d+1) (.slr a b r o)=false:=Eq.trans rfl rfl
theorem pv_agg(d:Nat)(cs:List AV):pureV (d+1) (.agg cs)=cs.all (pureV d):=Eq.trans rfl rfl
theorem pv_tup(d:Nat)(cs:List AV):pureV (d+1) (.tup cs)=cs.all (pureV d):=Eq.trans rfl rfl
theorem pv_func(d:Nat)(fn:Fn)(a b:List AV):pureV (d+1) (.func fn a b)=(a.all (pureV d)&&b.all (pureV d)):=Eq.trans rfl rfl
theorem ic_bool(b:Bool):AV.isCell (.bool b)=true:=Eq.trans rfl rfl
theorem ic_int(k:IntKind)(n:Int):AV.isCell (.int k n)=true:=Eq.trans rfl rfl
theorem ic_nils:AV.isCell .nils=true:=Eq.trans rfl rfl
theorem ic_nilf:AV.isCell .nilf=true:=Eq.trans rfl rfl
theorem ic_imm(n:Nat)(fl:Bool)(rows:List (List AV)):AV.isCell (.imm n fl rows)=true:=Eq.trans rfl rfl
theorem ic_slr(a b r o:Nat):AV.isCell (.slr a b r o)=true:=Eq.trans rfl rfl
theorem ic_ptr(b r o:Nat):AV.isCell (.ptr b r o)=true:=Eq.trans rfl rfl
theorem ic_func(f:Fn)(a b:List AV):AV.isCell (.func f a b)=true:=Eq.trans rfl rfl
theorem fl_bool(b:Bool):AV.flat (.bool b)=true:=Eq.trans rfl rfl
theorem fl_int(k:IntKind)(n:Int):AV.flat (.int k n)=true:=Eq.trans rfl rfl
theorem fl_nils:AV.flat .nils=false:=Eq.trans rfl rfl
theorem fl_nilf:AV.flat .nilf=false:=Eq.trans rfl rfl
theorem fl_imm(n:Nat)(fl:Bool)(rows:List (List AV)):AV.flat (.imm n fl rows)=false:=Eq.trans rfl rfl
theorem fl_slr(a b r o:Nat):AV.flat (.slr a b r o)=false:=Eq.trans rfl rfl
theorem fl_ptr(b r o:Nat):AV.flat (.ptr b r o)=false:=Eq.trans rfl rfl
theorem fl_func(f:Fn)(a b:List AV):AV.flat (.func f a b)=false:=Eq.trans rfl rfl
theorem ac_agg(cs:List AV):acells (.agg cs)=cs:=Eq.trans rfl rfl
theorem ac_int(k:IntKind)(n:Int):acells (.int k n)=[.int k n]:=Eq.trans rfl rfl
theorem ac_nils:acells .nils=[.nils]:=Eq.trans rfl rfl
theorem ac_nilf:acells .nilf=[.nilf]:=Eq.trans rfl rfl
theorem ac_slr(a b r o:Nat):acells (.slr a b r o)=[.slr a b r o]:=Eq.trans rfl rfl
theorem ac_ptr(b r o:Nat):acells (.ptr b r o)=[.ptr b r o]:=Eq.trans rfl rfl
theorem ac_func(f:Fn)(a b:List AV):acells (.func f a b)=[.func f a b]:=Eq.trans rfl rfl
end
end Go.Ev
