/- The evaluator and its soundness. -/
import Derived.Test.YtdbiogihimdpcaaGreatDoorLibB
import Derived.OrdersIn
import Derived.RangeFuncNested
open Eq renaming trans→aa9
open Option renaming bind_eq_some_iff→abQ,bind_some→acI,some→adK,map_some→adL,map_eq_some_iff→ajY,getD_some→auH
open List renaming mem_cons_of_mem→acL,mem_cons_self→acQ,mem_singleton→acR,all_eq_true→acV,getElem?_eq_some_iff→adG,mem_flatMap→adM,mem_range→adQ,filter_cons_of_pos→ae4,getElem?_set→ajX,mem_map→ajZ,filter_cons_of_neg→aj1,getElem?_map→ak9,getElem?_eq_none→alO,ext_getElem?→an1,getElem?_eq_getElem→aoB,flatMap_cons→aoC,mem_append_right→aoF,mem_append→aoH,any_eq_false→aoL,length_cons→aoN,range→aoO,mem_append_left→aoP,mem_filter→as9,getElem?_range→atC,getElem?_take→atE,getElem?_drop→atF,mem_of_getElem?→atG,mem_filterMap→atH,getElem?_append_left→atI,nil_append→atK,take_left'→auP,flatMap_eq_nil_iff→avE
open Nat renaming le_refl→adJ,le_trans→aj0,strongRecOn→aoK,lt_of_lt_of_le→arW,lt_trichotomy→asD
open Bool renaming false_eq_true→adN,and_eq_true→aeY,not_eq_true→as8,and_assoc→atD
open Array renaming getD_eq_getD_getElem?→adO,getElem?_eq_some_iff→adP,foldl_toList→as7,all_eq_true'→atA,replicate→atB,getElem?_eq_none→atJ,getElem?_toList→atM,getElem?_eq_getElem→atN,getElem?_replicate→auM
set_option linter.unusedSimpArgs false
set_option linter.unusedVariables false
namespace Go.Ev
open Go.RowKit
theorem mD(cs:List AV){vs us:List AV}{o p:Nat}(hd:o+vs.length≤p∨p+us.length≤o):
 Df (Df cs o vs) p us=Df (Df cs p us) o vs:=by
 apply an1
 intro j
 rw[Il (Df cs o vs),Il (Df cs p us),Il cs vs,Il cs us,Ix,Ix]
 by_cases a1:p≤j∧j<p+us.length∧j<cs.length
 ·rw[if_pos a1,if_neg (by omega),if_pos a1]
 ·rw[if_neg a1]
  by_cases a2:o≤j∧j<o+vs.length∧j<cs.length
  ·rw[if_pos a2,if_pos a2]
  ·rw[if_neg a2,if_neg a2,if_neg a1]
theorem uI(rows:List (List AV)){r q:Nat}{vs us:List AV}{o p:Nat}(hd:o+vs.length≤p∨p+us.length≤o):
 Kw (Kw rows r o vs) q p us=Kw (Kw rows q p us) r o vs:=by
 unfold Kw
 by_cases hrq:r=q
 ·subst hrq
  cases h:rows[r]? with
  |none=>simp[h]
  |some cs=>
   have hr:r<rows.length:=(adG.1 h).1
   simp[hr,mD cs hd]
 ·cases h:rows[r]? with
  |none=>
   cases h2:rows[q]? with
   |none=>simp[h,h2]
   |some cs2=>simp[ajX,Ne.symm hrq,h,h2]
  |some cs=>
   cases h2:rows[q]? with
   |none=>simp[ajX,hrq,h,h2]
   |some cs2=>simp only[ajX,hrq,Ne.symm hrq,if_false,h,h2];rw[List.set_comm _ _ hrq]
def Ad.eff:Ad→Option CB→Option CB
 | .new _ c,_=>some c
 | .put _ c,_=>some c
 | .cells _ r o vs,x=>match x with
   |some (.live st fl _ rows)=>some (.live st (fl&&vs.all AV.flat) true (Kw rows r o vs))
   |x=>x
theorem Jo(g:HF)(e:Ad)(i:Nat):Bm g e i=if i=e.id then e.eff (g i)else g i:=by
 cases e with
 |new b c=>by_cases hi:i=b<;>simp[Bm,Ji,Ad.id,Ad.eff,hi]
 |put b c=>by_cases hi:i=b<;>simp[Bm,Ji,Ad.id,Ad.eff,hi]
 |cells b r o vs=>
  by_cases hi:i=b
  ·subst hi
   simp only[Bm,Ad.id,Ad.eff,if_true]
   cases hg:g i with
   |none=>simp[hg]
   |some c=>cases c<;>simp[hg,Ji]
  ·have e:∀(x:Option CB) (y:HF),(match x with
    |some (.live st fl _ rows)=>Ji y b (.live st (fl&&vs.all AV.flat) true (Kw rows r o vs))
    |_=>y) i=y i:=fun x y=>by
    cases x with
    |none=>rfl
    |some c=>cases c<;>simp[Ji,hi]
   rw[if_neg (show ¬i=(Ad.cells b r o vs).id from hi)]
   exact e (g b) g
theorem ah8{e e':Ad}(Fe:e.id=e'.id)(h:e.foot.meets e'.foot=false)(x:Option CB):e'.eff (e.eff x)=e.eff (e'.eff x):=by
 cases e<;>cases e'<;>simp[Ad.id]at Fe<;>subst Fe<;>simp[Ad.foot,Dp.meets]at h
 rename_i b r o vs r' o' vs'
 cases x with
 |none=>rfl
 |some c=>
  cases c with
  |live st fl w rows=>
   simp only[Ad.eff]
   rw[uI rows (by omega)]
   rw[atD,Bool.and_comm (vs.all AV.flat),←atD]
  |_=>rfl
theorem vQ(g:HF){e e':Ad}(h:e.foot.meets e'.foot=false):Bm (Bm g e) e'=Bm (Bm g e') e:=by
 funext i
 rw[Jo,Jo,Jo,Jo]
 by_cases h1:i=e'.id
 ·by_cases h2:i=e.id
  ·rw[if_pos h1,if_pos h2,if_pos h2,if_pos h1];exact ah8 (h2.symm.trans h1) h _
  ·rw[if_pos h1,if_neg h2,if_neg h2,if_pos h1]
 ·by_cases h2:i=e.id
  ·rw[if_neg h1,if_pos h2,if_pos h2,if_neg h1]
  ·rw[if_neg h1,if_neg h2,if_neg h2,if_neg h1]
theorem jE(g:HF){e:Ad}:∀{es:List Ad},(∀x∈es,e.foot.meets x.foot=false)→Ap (Bm g e) es=Bm (Ap g es) e
 | [],_=>rfl
 |x::es,h=>by
  simp only[Ap]
  rw[vQ g (h x (acQ ..))]
  exact jE (Bm g x) (fun y hy=>h y (acL _ hy))
theorem mP:∀{es es':List Ad} (g:HF),(∀x∈es,∀y∈es',x.foot.meets y.foot=false)→Ap (Ap g es) es'=Ap (Ap g es') es
 | [],es',g,_=>rfl
 |e::es,es',g,h=>by
  simp only[Ap]
  rw[mP (Bm g e) (fun x hx=>h x (acL _ hx)),jE g (h e (acQ ..))]
inductive Iw(o n:Nat):Option CB→Option CB→Prop
 |refl (x:Option CB):Iw o n x x
 |live {st st':Nat} {fl fl' w w':Bool} {rows rows':List (List AV)}:rows.length=rows'.length→
   (∀(r:Nat) cs cs',rows[r]?=some cs→rows'[r]?=some cs'→cs.length=cs'.length∧∀j,o≤j→j<o+n→cs[j]?=cs'[j]?)→Iw o n (some (.live st fl w rows)) (some (.live st' fl' w' rows'))
def Dh(g g':HF):Dp→Prop
 | .blk b=>g' b=g b
 | .cells b o n=>Iw o n (g b) (g' b)
 | .all=>g'=g
theorem Iw.trans{o n:Nat}{x y z:Option CB}(h:Iw o n x y)(k:Iw o n y z):Iw o n x z:=by
 cases h with
 |refl=>exact k
 |live a b=>
  cases k with
  |refl=>exact .live a b
  |live c d=>
   refine .live (a.trans c) (fun r cs cs' h1 h2=>?_)
   have hr:=(adG.1 h1).1
   have h3:=aoB (a▸hr)
   obtain⟨b1,b2⟩:=b r _ _ h1 h3
   obtain⟨d1,d2⟩:=d r _ _ h3 h2
   exact⟨b1.trans d1,fun j q1 q2=>(b2 j q1 q2).trans (d2 j q1 q2)⟩
theorem Dh.refl(g:HF)(f:Dp):Dh g g f:=by
 cases f with
 |blk b=>rfl
 |cells b o n=>exact Iw.refl _
 |all=>rfl
theorem Dh.trans{g g' g'':HF}{f:Dp}(h:Dh g g' f)(k:Dh g' g'' f):Dh g g'' f:=by
 cases f with
 |blk b=>exact aa9 k h
 |cells b o n=>exact Iw.trans h k
 |all=>exact aa9 k h
theorem Uy(rows:List (List AV))(r o:Nat)(vs:List AV):(Kw rows r o vs).length=rows.length:=by
 unfold Kw;split<;>simp
theorem aK{rows:List (List AV)}{r o:Nat}{vs:List AV}{q:Nat}{cs':List AV}(h:(Kw rows r o vs)[q]?=some cs'):∃cs,rows[q]?=some cs∧cs'=if q=r then Df cs o vs else cs:=by
 unfold Kw at h
 split at h
 ·rename_i cs hr
  rw[ajX]at h
  by_cases hq:r=q
  ·subst hq
   have hlt:r<rows.length:=(adG.1 hr).1
   simp[hlt]at h;subst h
   exact⟨cs,hr,by simp⟩
  ·rw[if_neg hq]at h;exact⟨cs',h,by rw[if_neg (Ne.symm hq)]⟩
 ·rename_i hr
  refine⟨cs',h,?_⟩
  rw[if_neg (fun e=>by subst e;rw[hr]at h;cases h)]
theorem Dh.edit(g:HF){e:Ad}{f:Dp}(h:e.foot.meets f=false):Dh g (Bm g e) f:=by
 cases f with
 |all=>cases e<;>simp[Ad.foot,Dp.meets]at h
 |blk b=>
  show Bm g e b=g b
  rw[Jo,if_neg]
  intro hb
  cases e<;>simp[Ad.foot,Dp.meets,Ad.id]at h hb<;>omega
 |cells b o n=>
  show Iw o n (g b) (Bm g e b)
  rw[Jo]
  by_cases hb:b=e.id
  ·rw[if_pos hb]
   cases e with
   |new b' c=>simp[Ad.foot,Dp.meets,Ad.id]at h hb;omega
   |put b' c=>simp[Ad.foot,Dp.meets,Ad.id]at h hb;omega
   |cells b' r o' vs=>
    simp only[Ad.id]at hb
    subst hb
    simp only[Ad.foot,Dp.meets,beq_self_eq_true,Bool.true_and,Bool.and_eq_false_iff,decide_eq_false_iff_not]at h
    cases hg:g b with
    |none=>exact .refl _
    |some c=>
     cases c with
     |live st fl w rows=>
      refine .live (Uy ..).symm (fun q cs cs' h1 h2=>?_)
      obtain⟨cs0,k1,k2⟩:=aK h2
      rw[h1]at k1;cases k1
      subst k2
      by_cases hq:q=r
      ·rw[if_pos hq]
       refine⟨(Ix ..).symm,fun j q1 q2=>?_⟩
       rw[Il,if_neg (by omega)]
      ·rw[if_neg hq];exact⟨rfl,fun _ _ _=>rfl⟩
     |_=>exact .refl _
  ·rw[if_neg hb];exact .refl _
theorem Dh.both{g g':HF}{f:Dp}(h:Dh g g' f)(e:Ad):Dh (Bm g e) (Bm g' e) f:=by
 cases f with
 |all=>show Bm g' e=Bm g e;rw[show g'=g from h]
 |blk b=>
  show Bm g' e b=Bm g e b
  rw[Jo,Jo,show g' b=g b from h]
 |cells b o n=>
  show Iw o n (Bm g e b) (Bm g' e b)
  have h':Iw o n (g b) (g' b):=h
  rw[Jo,Jo]
  by_cases hb:b=e.id
  ·rw[if_pos hb,if_pos hb]
   generalize g b=x at h'
   generalize g' b=y at h'
   cases e with
   |new b' c=>exact .refl _
   |put b' c=>exact .refl _
   |cells b' r o' vs=>
    cases h' with
    |refl=>exact .refl _
    |live a d=>
     refine .live (by rw[Uy,Uy];exact a) (fun q cs cs' h1 h2=>?_)
     obtain⟨c1,k1,k2⟩:=aK h1
     obtain⟨c2,k3,k4⟩:=aK h2
     obtain⟨d1,d2⟩:=d q c1 c2 k1 k3
     subst k2 k4
     by_cases hq:q=r
     ·rw[if_pos hq,if_pos hq]
      refine⟨by rw[Ix,Ix];exact d1,fun j q1 q2=>?_⟩
      rw[Il,Il,d1]
      split
      ·rfl
      ·exact d2 j q1 q2
     ·rw[if_neg hq,if_neg hq];exact⟨d1,d2⟩
  ·rw[if_neg hb,if_neg hb];exact h'
theorem Dh.edits{f:Dp}:∀{es:List Ad} (g:HF),(∀e∈es,e.foot.meets f=false)→Dh g (Ap g es) f
 | [],g,_=>.refl g f
 |e::es,g,h=>(Dh.edit g (h e (acQ ..))).trans (Dh.edits _ (fun x hx=>h x (acL _ hx)))
theorem Dh.boths{f:Dp}:∀{es:List Ad} {g g':HF},Dh g g' f→Dh (Ap g es) (Ap g' es) f
 | [],_,_,h=>h
 |e::es,_,_,h=>Dh.boths (es:=es) (h.both e)
theorem Dh.symm{g g':HF}{f:Dp}(h:Dh g g' f):Dh g' g f:=by
 cases f with
 |all=>exact Eq.symm h
 |blk b=>exact Eq.symm h
 |cells b o n=>
  have h':Iw o n (g b) (g' b):=h
  show Iw o n (g' b) (g b)
  generalize g b=x at h'
  generalize g' b=y at h'
  cases h' with
  |refl=>exact .refl _
  |live a d=>exact .live a.symm (fun r cs cs' h1 h2=>⟨(d r cs' cs h2 h1).1.symm,fun j q1 q2=>((d r cs' cs h2 h1).2 j q1 q2).symm⟩)
section
variable {P:Program}
theorem Iu{t t':List AV}:∀{xs:List Operand},(∀x∈xs,Af t x=Af t' x)→Cb t xs=Cb t' xs
 | [],_=>rfl
 |x::xs,h=>by
  simp only[Cb]
  rw[h x (acQ ..),Iu (fun y hy=>h y (acL _ hy))]
theorem lT{t t':List AV}{x:Option Operand}(h:∀y,x=some y→Af t y=Af t' y):dW t x=dW t' x:=by
 cases x with
 |none=>rfl
 |some y=>simp only[dW];rw[h y rfl]
theorem abU{g:HF}{base:Nat}{t t':List AV}{o:Op}(h:∀x∈o.operands.toList,Af t x=Af t' x):exec P g base t o=exec P g base t' o:=by
 cases o with
 |alloc t=>rfl
 |build ty ps=>simp only[exec];rw[Iu (t:=t) (t':=t') (xs:=ps.toList.map (·.2)) (fun x hx=>h x (by simp only[Op.operands];exact hx))]
 |buildSlice ty n ps=>simp only[exec];rw[Iu (t:=t) (t':=t') (xs:=ps.toList.map (·.2)) (fun x hx=>h x (by simp only[Op.operands];exact hx))]
 |makeFunc fn xs ys=>
  cases fn with
  |func f=>
   simp only[exec]
   rw[Iu (xs:=xs.toList) (fun x hx=>h x (by simp[Op.operands];exact .inl (by simpa using hx))),Iu (xs:=ys.toList) (fun x hx=>h x (by simp[Op.operands];exact .inr (by simpa using hx)))]
  |_=>simp[exec]
 |slice ty x lo hi mx=>
  cases mx with
  |some m=>simp[exec]
  |none=>
   simp only[exec]
   rw[h x (by simp[Op.operands]),lT (x:=lo) (fun y hy=>h y (by subst hy;simp[Op.operands])),lT (x:=hi) (fun y hy=>h y (by subst hy;simp[Op.operands]))]
 |call c=>
  obtain⟨cal,args,ts⟩:=c
  cases cal with
  |builtin b=>simp only[exec];rw[Iu (xs:=args.toList) (fun x hx=>h x (by simpa [Op.operands,Call.operands]using hx))]
  |_=>simp[exec]
 |pick c a b=>simp only[exec];rw[h c (by simp[Op.operands]),h a (by simp[Op.operands]),h b (by simp[Op.operands])]
 |store _ a b=>simp only[exec];rw[h a (by simp[Op.operands]),h b (by simp[Op.operands])]
 |binOp _ _ a b _=>simp only[exec];rw[h a (by simp[Op.operands]),h b (by simp[Op.operands])]
 |makeSlice _ a b=>simp only[exec];rw[h a (by simp[Op.operands]),h b (by simp[Op.operands])]
 |indexAddr _ a b=>simp only[exec];rw[h a (by simp[Op.operands]),h b (by simp[Op.operands])]
 |index _ a b=>simp only[exec];rw[h a (by simp[Op.operands]),h b (by simp[Op.operands])]
 |move a=>simp only[exec];rw[h a (by simp[Op.operands])]
 |assign a=>simp only[exec];rw[h a (by simp[Op.operands])]
 |box _ a=>simp only[exec];rw[h a (by simp[Op.operands])]
 |load _ a=>simp only[exec];rw[h a (by simp[Op.operands])]
 |nilCheck a=>simp only[exec];rw[h a (by simp[Op.operands])]
 |unOp _ _ a=>simp only[exec];rw[h a (by simp[Op.operands])]
 |convert _ _ a=>simp only[exec];rw[h a (by simp[Op.operands])]
 |makeInterface _ a=>simp only[exec];rw[h a (by simp[Op.operands])]
 |fieldAddr _ a _=>simp only[exec];rw[h a (by simp[Op.operands])]
 |field _ a _=>simp only[exec];rw[h a (by simp[Op.operands])]
 |extract a _=>simp only[exec];rw[h a (by simp[Op.operands])]
 |_=>rfl
theorem rF{t t':List AV}{c:Call}(h:∀x∈c.operands.toList,Af t x=Af t' x):callee t c=callee t' c:=by
 obtain⟨cal,args,ts⟩:=c
 cases cal with
 |value f=>simp only[callee];rw[h f (by simp[Call.operands]),Iu (xs:=args.toList) (fun x hx=>h x (by simp[Call.operands];exact .inr (by simpa using hx)))]
 |_=>rfl
theorem Iw.row{o n:Nat}{g g':HF}{b:Nat}(h:Iw o n (g b) (g' b)){r:Nat}{cs:List AV}(hr:Zz g b r=some cs):
 ∃cs',Zz g' b r=some cs'∧cs'.length=cs.length∧∀j,o≤j→j<o+n→cs'[j]?=cs[j]?:=by
 unfold Zz at hr ⊢
 generalize g b=x at h hr
 generalize g' b=y at h
 cases h with
 |refl=>exact⟨cs,hr,rfl,fun _ _ _=>rfl⟩
 | @live st st' fl fl' w w' rows rows' a d=>
   simp only at hr ⊢
   have hlt:=(adG.1 hr).1
   have h3:=aoB (a▸hlt)
   obtain⟨d1,d2⟩:=d r _ _ hr h3
   exact⟨_,h3,d1.symm,fun j q1 q2=>(d2 j q1 q2).symm⟩
theorem mB{cs cs':List AV}{o n:Nat}(h1:cs'.length=cs.length)(h2:∀j,o≤j→j<o+n→cs'[j]?=cs[j]?):(cs'.drop o).take n=(cs.drop o).take n:=by
 apply an1
 intro j
 rw[atE,atE]
 split
 ·rw[atF,atF];exact h2 _ (by omega) (by omega)
 ·rfl
theorem ab8{g g':HF}{t:TypeId}{p:AV}{d:Jl}(h:Pm P g t p=some d)(ha:∀f∈d.fs,Dh g g' f):Pm P g' t p=some d:=by
 unfold Pm at h ⊢
 simp only[abQ]at h ⊢
 obtain⟨isA,h1,n,h2,h⟩:=h
 refine⟨isA,h1,n,h2,?_⟩
 cases p with
 |iptr cs=>cases isA<;>cases cs<;>exact h
 |ptr b r o=>
  cases isA with
  |true=>
   simp only[abQ]at h ⊢
   obtain⟨cs,h3,h⟩:=h
   split at h<;>simp at h
   rename_i hle
   subst h
   obtain⟨cs',k1,k2,k3⟩:=Iw.row (ha (.cells b o n) (acR.2 rfl)) h3
   exact⟨cs',k1,by rw[if_pos (by omega),mB k2 k3]⟩
  |false=>
   simp only[abQ,ajY]at h ⊢
   obtain⟨cs,h3,v,h4,rfl⟩:=h
   obtain⟨cs',k1,k2,k3⟩:=Iw.row (ha (.cells b o 1) (acR.2 rfl)) h3
   exact⟨cs',k1,v,by rw[k3 o (adJ _) (by omega)];exact h4,rfl⟩
 |_=>cases isA<;>simp at h
theorem xC{g g':HF}{t:TypeId}{p v:AV}{d:Jl}(h:Re P g t p v=some d)(ha:∀f∈d.fs,Dh g g' f):Re P g' t p v=some d:=by
 unfold Re at h ⊢
 simp only[abQ]at h ⊢
 obtain⟨n,h2,h⟩:=h
 refine⟨n,h2,?_⟩
 cases p with
 |ptr b r o=>
  simp only at h ⊢
  split at h
  ·rename_i st fl w rows hg
   simp only[abQ]at h
   obtain⟨cs,h3,h⟩:=h
   split at h<;>simp at h
   rename_i hc
   subst h
   have hA:Iw o n (g b) (g' b):=ha (.cells b o n) (acR.2 rfl)
   rw[hg]at hA
   generalize hy:g' b=y at hA
   cases hA with
   |refl=>simp only[abQ];exact⟨cs,h3,by rw[if_pos hc]⟩
   | @live _ _ _ _ _ _ _ rows' a d=>
     have hlt:=(adG.1 h3).1
     have h4:=aoB (a▸hlt)
     obtain⟨d1,d2⟩:=d r _ _ h3 h4
     simp only[abQ]
     exact⟨_,h4,by rw[if_pos (by rw[←d1];exact hc)]⟩
  ·simp at h
 |_=>simp at h
theorem bY{g g':HF}{b r len:Nat}(h:g' b=g b):Gf g' b r len=Gf g b r len:=by unfold Gf;rw[h]
theorem sO{g g':HF}{e:TypeId}{x:AV}{fl:Bool}{rows:List (List AV)}{fs:List Dp}(h:Ny P g e x=some (fl,rows,fs))(ha:∀f∈fs,Dh g g' f):Ny P g' e x=some (fl,rows,fs):=by
 cases x with
 |slr st b r len=>
  simp only[Ny,abQ]at h ⊢
  obtain⟨⟨st',fl',rows'⟩,h1,h⟩:=h
  simp only at h
  split at h<;>simp at h
  rename_i hs
  obtain⟨rfl,rfl,rfl⟩:=h
  refine⟨_,by rw[bY (ha (.blk b) (acR.2 rfl))];exact h1,?_⟩
  simp only;rw[if_pos hs]
 |_=>exact h
theorem gV{g g':HF}{base:Nat}{t:TypeId}{s x:AV}{d:Jl}(h:Hr P g base t s x=some d)(ha:∀f∈d.fs,Dh g g' f):Hr P g' base t s x=some d:=by
 unfold Hr at h ⊢
 simp only[abQ]at h ⊢
 obtain⟨e,h1,n,h2,by_,h3,z,h4,⟨nfl,new,fs⟩,h5,h⟩:=h
 have hfs:(∀f∈fs,f∈d.fs):=by
  simp only at h
  split at h
  ·simp at h
  ·split at h
   ·split at h<;>simp at h<;>subst h<;>exact fun f hf=>hf
   ·split at h<;>simp at h
    subst h;exact fun f hf=>hf
   ·split at h
    ·split at h<;>simp at h
     subst h;exact fun f hf=>acL _ hf
    ·simp at h
   ·simp at h
 refine⟨e,h1,n,h2,by_,h3,z,h4,(nfl,new,fs),sO h5 (fun f hf=>ha f (hfs f hf)),?_⟩
 simp only at h ⊢
 split at h
 ·simp at h
 ·rename_i hn
  rw[if_neg hn]
  cases new with
  |nil=>exact h
  |cons n0 new=>
   cases s with
   |slr st b r len=>
    simp only at h ⊢
    split at h
    ·rename_i st' fl' w' rows' hg
     split at h
     ·rename_i hc
      simp at h
      subst h
      have hb:g' b=g b:=ha (.blk b) (acQ ..)
      rw[hb,hg]
      simp only
      rw[if_pos hc]
      rfl
     ·simp at h
    ·simp at h
   |_=>exact h
theorem agO{g g':HF}{base:Nat}{t:List AV}{o:Op}{d:Jl}(h:exec P g base t o=some d)(ha:∀f∈d.fs,Dh g g' f):exec P g' base t o=some d:=by
 cases o with
 |load ty x=>
  simp only[exec,abQ]at h ⊢
  obtain⟨p,h1,h2⟩:=h
  exact⟨p,h1,ab8 h2 ha⟩
 |store ty x y=>
  simp only[exec,abQ]at h ⊢
  obtain⟨p,h1,v,h2,h3⟩:=h
  exact⟨p,h1,v,h2,xC h3 ha⟩
 |makeFunc fn xs ys=>cases fn<;>exact h
 |slice ty x lo hi mx=>cases mx<;>exact h
 |call c=>
  obtain⟨cal,args,ts⟩:=c
  cases cal with
  |builtin b=>
   simp only[exec,abQ]at h ⊢
   obtain⟨vs,h1,h⟩:=h
   refine⟨vs,h1,?_⟩
   split at h
   ·exact h
   ·simp only[abQ]at h ⊢
    obtain⟨t0,h2,t1,h3,h⟩:=h
    refine⟨t0,h2,t1,h3,?_⟩
    split at h
    ·exact gV h ha
    ·exact gV h ha
    ·simp at h
   ·exact h
   ·exact h
   ·exact h
   ·exact h
   ·simp at h
  |_=>exact h
 |_=>exact h
def Uz(base:Nat)(F:Nat→Option Jl)(d:Jl):Prop:=(∀b c,Ad.new b c∈d.es→b=base)∧((∀b c,Ad.new b c∉d.es)→∀base',F base'=some d)
theorem oK{base:Nat}{v:AV}{d:Jl}(h:eM base v=some d):Uz base (fun b=>eM b v) d:=by
 unfold eM at h
 split at h<;>simp at h
 subst h
 exact⟨fun b c hb=>by simp at hb;exact hb.1,fun hn=>(hn _ _ (acR.2 rfl)).elim⟩
theorem dK{base:Nat}{t:TypeId}{len:Nat}{parts:List (Nat × AV)}{d:Jl}(h:Cm P base t len parts=some d):Uz base (fun b=>Cm P b t len parts) d:=by
 unfold Cm at h
 simp only[abQ]at h
 obtain⟨e,h1,n,h2,z,h3,h⟩:=h
 split at h
 ·simp at h
 ·obtain⟨rows,h4,h⟩:=abQ.1 h
  split at h<;>simp at h
  subst h
  exact⟨fun b c hb=>by simp at hb;exact hb.1,fun hn=>(hn _ _ (acR.2 rfl)).elim⟩
theorem iD{base:Nat}{t:TypeId}{l c:AV}{d:Jl}(h:Ib P base t l c=some d):Uz base (fun b=>Ib P b t l c) d:=by
 unfold Ib at h
 simp only[abQ]at h
 obtain⟨e,h1,n,h2,b,h3,z,h4,h⟩:=h
 split at h
 ·split at h<;>simp at h
  subst h
  exact⟨fun b c hb=>by simp at hb;exact hb.1,fun hn=>(hn _ _ (acR.2 rfl)).elim⟩
 ·simp at h
theorem dF{g:HF}{base:Nat}{t:TypeId}{s x:AV}{d:Jl}(h:Hr P g base t s x=some d):Uz base (fun b=>Hr P g b t s x) d:=by
 have h0:=h
 unfold Hr at h
 simp only[abQ]at h
 obtain⟨e,h1,n,h2,by_,h3,z,h4,⟨nfl,new,fs⟩,h5,h⟩:=h
 simp only at h
 split at h
 ·simp at h
 ·rename_i hn
  cases new with
  |nil=>
   refine⟨fun b c hb=>?_,fun _ base'=>?_⟩
   ·simp only at h
    split at h<;>simp at h<;>subst h<;>simp at hb
   ·unfold Hr
    simp only[abQ]
    refine⟨e,h1,n,h2,by_,h3,z,h4,(nfl,[],fs),h5,?_⟩
    simp only;rw[if_neg hn];exact h
  |cons n0 new=>
   cases s with
   |nils=>
    simp only at h
    split at h<;>simp at h
    subst h
    exact⟨fun b c hb=>by simp at hb;exact hb.1,fun hn=>(hn _ _ (acR.2 rfl)).elim⟩
   |slr st b r len=>
    simp only at h
    split at h
    ·split at h<;>simp at h
     subst h
     exact⟨fun b c hb=>by simp at hb;exact hb.1,fun hn=>(hn _ _ (acL _ (acR.2 rfl))).elim⟩
    ·simp at h
   |_=>simp at h
theorem ac2{g:HF}{base:Nat}{t:List AV}{o:Op}{d:Jl}(h:exec P g base t o=some d):Uz base (fun b=>exec P g b t o) d:=by
 have still:(∀base',exec P g base' t o=exec P g base t o)→d.es=[]→Uz base (fun b=>exec P g b t o) d:=fun h1 h2=>
  ⟨fun b c hb=>by rw[h2]at hb;simp at hb,fun _ base'=>(h1 base').trans h⟩
 have pure':∀{x:Option AV} {d:Jl},Gy x=some d→d.es=[]:=fun hx=>by
  obtain⟨v,_,rfl⟩:=ajY.1 hx;rfl
 have lift:∀{α:Type} {x:Option α} {F:Nat→α→Option Jl} (v:α),x=some v→Uz base (fun b=>F b v) d→Uz base (fun b=>x.bind (F b)) d:=fun v hv k=>by
  subst hv;exact k
 have goodE:(∀(he:exec P g base t o=some d),d.es=[])→(∀base',exec P g base' t o=exec P g base t o)→Uz base (fun b=>exec P g b t o) d:=fun h1 h2=>still h2 (h1 h)
 cases o with
 |alloc ty=>obtain⟨z,h1,h⟩:=abQ.1 h;exact lift z h1 (oK h)
 |box ty x=>obtain⟨z,h1,h⟩:=abQ.1 h;exact lift z h1 (oK h)
 |buildSlice ty n ps=>obtain⟨z,h1,h⟩:=abQ.1 h;exact lift z h1 (dK h)
 |makeSlice ty x y=>
  obtain⟨p,h1,h⟩:=abQ.1 h
  obtain⟨q,h2,h⟩:=abQ.1 h
  exact lift p h1 (lift q h2 (iD h))
 |makeFunc fn xs ys=>
  cases fn with
  |func f=>
   refine still (fun _=>rfl) ?_
   simp only[exec,abQ]at h
   obtain⟨p,_,v,_,h⟩:=h
   simp at h;subst h;rfl
  |_=>simp[exec]at h
 |slice ty x lo hi mx=>
  cases mx with
  |some m=>simp[exec]at h
  |none=>
   refine still (fun _=>rfl) ?_
   simp only[exec,abQ]at h
   obtain⟨p,_,v,_,u,_,h⟩:=h
   exact pure' h
 |call c=>
  obtain⟨cal,args,ts⟩:=c
  cases cal with
  |builtin b=>
   obtain⟨vs,hvs,he⟩:=abQ.1 h
   have hx:Uz base (fun b'=>exec P g b' t (.call ⟨.builtin b,args,ts⟩)) d:=by
    simp only[exec]
    refine lift vs hvs ?_
    split at he
    ·obtain⟨t0,q1,q2⟩:=abQ.1 he
     exact⟨fun b c hb=>by rw[pure' q2]at hb;simp at hb,fun _ _=>he⟩
    ·obtain⟨t0,q1,q2⟩:=abQ.1 he
     obtain⟨t1,q3,q4⟩:=abQ.1 q2
     refine lift t0 q1 (lift t1 q3 ?_)
     split at q4
     ·exact dF q4
     ·exact dF q4
     ·simp at q4
    ·exact⟨fun b c hb=>by rw[pure' he]at hb;simp at hb,fun _ _=>he⟩
    ·exact⟨fun b c hb=>by rw[pure' he]at hb;simp at hb,fun _ _=>he⟩
    ·exact⟨fun b c hb=>by rw[pure' he]at hb;simp at hb,fun _ _=>he⟩
    ·exact⟨fun b c hb=>by rw[pure' he]at hb;simp at hb,fun _ _=>he⟩
    ·simp at he
   exact hx
  |_=>simp[exec]at h
 |load ty x=>
  refine still (fun _=>rfl) ?_
  obtain⟨p,_,he⟩:=abQ.1 h
  unfold Pm at he
  simp only[abQ]at he
  obtain⟨isA,_,n,_,he⟩:=he
  split at he
  ·split at he<;>simp at he;subst he;rfl
  ·obtain⟨cs,_,he⟩:=abQ.1 he
   split at he<;>simp at he;subst he;rfl
  ·simp at he;subst he;rfl
  ·obtain⟨cs,_,he⟩:=abQ.1 he
   obtain⟨v,_,rfl⟩:=ajY.1 he;rfl
  ·simp at he
 |store ty x y=>
  refine⟨fun b c hb=>?_,fun _ _=>h⟩
  simp only[exec,abQ]at h
  obtain⟨p,_,v,_,he⟩:=h
  unfold Re at he
  obtain⟨n,_,he⟩:=abQ.1 he
  cases p with
  |ptr b r o=>
   simp only at he
   split at he
   ·obtain⟨cs,_,he⟩:=abQ.1 he
    split at he<;>simp at he
    subst he;simp at hb
   ·simp at he
  |_=>simp at he
 |move x=>exact still (fun _=>rfl) (pure' h)
 |assign x=>exact still (fun _=>rfl) (pure' h)
 |pick a b c=>
  refine still (fun _=>rfl) ?_
  simp only[exec,abQ]at h
  obtain⟨c,_,x,_,y,_,he⟩:=h
  split at he<;>simp at he
  subst he;rfl
 |build ty ps=>obtain⟨z,_,he⟩:=abQ.1 h;exact still (fun _=>rfl) (pure' he)
 |nilCheck x=>
  refine still (fun _=>rfl) ?_
  obtain⟨p,_,he⟩:=abQ.1 h
  split at he<;>simp at he<;>subst he<;>rfl
 |binOp op ty x y yt=>
  refine still (fun _=>rfl) ?_
  simp only[exec,abQ]at h
  obtain⟨p,_,v,_,he⟩:=h;exact pure' he
 |unOp op ty x=>obtain⟨z,_,he⟩:=abQ.1 h;exact still (fun _=>rfl) (pure' he)
 |convert s ty x=>obtain⟨z,_,he⟩:=abQ.1 h;exact still (fun _=>rfl) (pure' he)
 |makeInterface ty x=>
  refine still (fun _=>rfl) ?_
  obtain⟨z,_,he⟩:=abQ.1 h
  split at he<;>simp at he;subst he;rfl
 |fieldAddr ty x f=>obtain⟨z,_,he⟩:=abQ.1 h;exact still (fun _=>rfl) (pure' he)
 |field ty x f=>obtain⟨z,_,he⟩:=abQ.1 h;exact still (fun _=>rfl) (pure' he)
 |indexAddr ty x y=>
  refine still (fun _=>rfl) ?_
  simp only[exec,abQ]at h
  obtain⟨p,_,v,_,he⟩:=h;exact pure' he
 |index ty x y=>
  refine still (fun _=>rfl) ?_
  simp only[exec,abQ]at h
  obtain⟨p,_,v,_,he⟩:=h;exact pure' he
 |extract x i=>
  refine still (fun _=>rfl) ?_
  obtain⟨z,_,he⟩:=abQ.1 h
  split at he
  ·exact pure' he
  ·simp at he
 |_=>simp[exec]at h
end
section
variable {P:Program} {O:Ez} {g g':HF}
theorem Oo{α β:Type}{f f':α→Option β}:∀{l:List α},(∀a∈l,f a=f' a)→As f l=As f' l
 | [],_=>rfl
 |a::l,h=>by
  simp only[As]
  rw[h a (acQ ..),Oo (fun b hb=>h b (acL _ hb))]
theorem Jk{α β:Type}{f f':α→List β}:∀{l:List α},(∀a∈l,f a=f' a)→l.flatMap f=l.flatMap f'
 | [],_=>rfl
 |a::l,h=>by
  simp only[aoC]
  rw[h a (acQ ..),Jk (fun b hb=>h b (acL _ hb))]
theorem Yx:∀{d:Nat} {v:AV},(∀b∈Aw d g v,g' b=g b)→Gi d g' v=Gi d g v∧Aw d g' v=Aw d g v
 |0,v,_=>⟨rfl,rfl⟩
 |d+1,v,h=>by
  cases v with
  |slr st b r len=>
   have hb:Gf g' b r len=Gf g b r len:=bY (h b (by simp[Aw]))
   simp only[Gi,Aw,hb]
   cases hr:Gf g b r len with
   |none=>exact⟨rfl,rfl⟩
   |some x=>
    obtain⟨st',fl,rows⟩:=x
    cases fl with
    |true=>exact⟨rfl,rfl⟩
    |false=>
     have hin:∀cs∈rows,∀c∈cs,Gi d g' c=Gi d g c∧Aw d g' c=Aw d g c:=fun cs hcs c hc=>Yx fun b' hb'=>h b' (by
      simp only[Aw,hr]
      exact acL _ (adM.2 ⟨cs,hcs,adM.2 ⟨c,hc,hb'⟩⟩))
     refine⟨?_,?_⟩
     ·show(As (As (Gi d g')) rows).map (AV.imm st' false)=(As (As (Gi d g)) rows).map (AV.imm st' false)
      rw[Oo (fun cs hcs=>Oo (fun c hc=>(hin cs hcs c hc).1))]
     ·show b::rows.flatMap (fun cs=>cs.flatMap (Aw d g'))=b::rows.flatMap (fun cs=>cs.flatMap (Aw d g))
      rw[Jk (fun cs hcs=>Jk (fun c hc=>(hin cs hcs c hc).2))]
  |agg cs=>
   have hin:∀c∈cs,Gi d g' c=Gi d g c∧Aw d g' c=Aw d g c:=fun c hc=>Yx fun b' hb'=>h b' (by simp only[Aw];exact adM.2 ⟨c,hc,hb'⟩)
   simp only[Gi,Aw]
   rw[Oo (fun c hc=>(hin c hc).1),Jk (fun c hc=>(hin c hc).2)]
   exact⟨rfl,rfl⟩
  |iface t x=>
   have:=Yx (d:=d) (v:=x) (fun b' hb'=>h b' (by simpa only[Aw]using hb'))
   simp only[Gi,Aw]
   rw[this.1,this.2]
   exact⟨rfl,rfl⟩
  |func fn a b=>cases a<;>cases b<;>exact⟨rfl,rfl⟩
  |_=>exact⟨rfl,rfl⟩
theorem lJ:∀{d:Nat} {v:AV},(∀b∈Aw d g v,g' b=g b)→Hh d g' v=Hh d g v
 |0,v,_=>rfl
 |d+1,v,h=>by
  cases v with
  |slr st b r len=>exact(Yx h).1
  |agg cs=>
   have hin:∀c∈cs,Hh d g' c=Hh d g c:=fun c hc=>lJ fun b' hb'=>h b' (by simp only[Aw];exact adM.2 ⟨c,hc,hb'⟩)
   simp only[Hh]
   rw[Oo hin]
  |iface t x=>
   have:=lJ (d:=d) (v:=x) (fun b' hb'=>h b' (by simpa only[Aw]using hb'))
   simp only[Hh]
   rw[this]
  |_=>rfl
theorem jN:∀{n i:Nat} {m m':List Nat} {cs:List CB},Jq n g i m=some (cs,m')→i≤m.length→(∀b∈m',g' b=g b)→Jq n g' i m=some (cs,m')
 |0,_,_,_,_,h,_,_=>by simp[Jq]at h
 |n+1,i,m,m',cs,h,hi,hm=>by
  have hpre:=(dS h hi).1
  unfold Jq at h ⊢
  cases hb:m[i]? with
  |none=>rw[hb]at h;exact h
  |some b=>
   rw[hb]at h
   simp only[abQ,ajY]at h ⊢
   obtain⟨c,h1,⟨c',m1⟩,h2,⟨cs',m2⟩,h3,h4⟩:=h
   simp at h4
   obtain⟨rfl,rfl⟩:=h4
   have hlt:=(adG.1 hb).1
   have hmem:b∈m2:=(List.IsPrefix.subset hpre) (atG hb)
   refine⟨c,by rw[hm b hmem];exact h1,(c',m1),h2,(cs',m2),?_,rfl⟩
   have hl:i+1≤m1.length:=by have:=((rC h2).1).length_le;omega
   exact jN h3 hl hm
theorem tP{m m':List Nat}{vs vs':List AV}{cs:List CB}(h:Ku g m vs=some (vs',cs,m'))(hm:∀b∈m',g' b=g b):Ku g' m vs=some (vs',cs,m'):=by
 unfold Ku at h ⊢
 simp only[abQ,ajY]at h ⊢
 obtain⟨⟨v1,m1⟩,h1,⟨c1,m2⟩,h2,h3⟩:=h
 simp at h3
 obtain⟨rfl,rfl,rfl⟩:=h3
 exact⟨_,h1,_,jN h2 (Nat.zero_le _) hm,rfl⟩
theorem fD:∀{l:List Nat},(∀b∈l,g' b=g b)→Dt g' l=Dt g l
 | [],_=>rfl
 |b::l,h=>by
  simp only[Dt]
  rw[h b (acQ ..),fD (fun x hx=>h x (acL _ hx))]
theorem oQ{base:Nat}{lent m:List Nat}{cs:List CB}{out:Ea}{h':Aa}{d:Le}(h:Lm g base lent m cs out h'=some d):d.fs=(lent++m).map .blk:=by
 unfold Lm at h
 simp only[abQ]at h
 obtain⟨v,_,ps,_,ns,_,h⟩:=h
 simp at h
 subst h;simp
theorem wB{base:Nat}{f:Uk}{args:List AV}{d:Le}(h:Dy O g base f args=some d)(ha:∀x∈d.fs,Dh g g' x):
 Dy O g' base f args=some d∧As (Hh 12 g') args=As (Hh 12 g) args∧∀vs vs' cs m,As (Hh 12 g) args=some vs→Ku g' [] vs=some (vs',cs,m)→Ku g [] vs=some (vs',cs,m):=by
 unfold Dy at h ⊢
 simp only[abQ]at h
 obtain⟨vs,hvs,⟨vs',cs,m⟩,hp,h⟩:=h
 simp only at h
 split at h
 ·simp at h
 ·rename_i hlm
  simp only[abQ]at h
  obtain⟨⟨out,h'⟩,hc,hu⟩:=h
  simp only at hu
  have hfs:=oQ hu
  have hl:∀b∈args.flatMap (Aw 12 g),g' b=g b:=fun b hb=>ha (.blk b) (by rw[hfs];exact ajZ.2 ⟨b,aoP _ hb,rfl⟩)
  have hm:∀b∈m,g' b=g b:=fun b hb=>ha (.blk b) (by rw[hfs];exact ajZ.2 ⟨b,aoF _ hb,rfl⟩)
  have hin:∀x∈args,Gi 12 g' x=Gi 12 g x∧Aw 12 g' x=Aw 12 g x:=fun x hx=>Yx fun b hb=>hl b (adM.2 ⟨x,hx,hb⟩)
  have hlen:args.flatMap (Aw 12 g')=args.flatMap (Aw 12 g):=Jk fun x hx=>(hin x hx).2
  have harg:As (Hh 12 g') args=As (Hh 12 g) args:=Oo fun x hx=>lJ fun b hb=>hl b (adM.2 ⟨x,hx,hb⟩)
  have hp':=tP hp hm
  refine⟨?_,harg,fun vs1 vs1' cs1 m1 q1 q2=>?_⟩
  ·simp only[abQ]
   refine⟨vs,by rw[harg];exact hvs,(vs',cs,m),hp',?_⟩
   simp only[hlen]
   rw[if_neg hlm]
   simp only[abQ]
   refine⟨(out,h'),hc,?_⟩
   simp only
   unfold Lm at hu ⊢
   rw[fD hl]
   exact hu
  ·rw[hvs]at q1;cases q1
   rw[hp']at q2
   rw[hp];exact q2
theorem dP{base:Nat}{f:Uk}{args:List AV}{d:Le}(h:Jx O g base f args=some d):d.fs=[.all]:=by
 unfold Jx at h
 obtain⟨_,_,h⟩:=abQ.1 h
 obtain⟨_,_,h⟩:=abQ.1 h
 obtain⟨_,_,rfl⟩:=ajY.1 h
 rfl
theorem aa0{base:Nat}{f:Uk}{args:List AV}{d:Le}(h:Fz O g base f args=some d)(ha:∀x∈d.fs,Dh g g' x):
 Fz O g' base f args=some d∧As (Hh 12 g') args=As (Hh 12 g) args∧∀vs vs' cs m,As (Hh 12 g) args=some vs→Ku g' [] vs=some (vs',cs,m)→Ku g [] vs=some (vs',cs,m):=by
 have sh:Jx O g base f args=some d→g'=g:=fun h=>ha .all (by rw[dP h];simp)
 by_cases hp:We O f args
 ·obtain⟨n,_,k2⟩:=hp.eq
  rw[k2]at h ⊢
  exact wB h ha
 ·rw[Ww hp]at h ⊢
  have:=sh h
  subst this
  exact⟨h,rfl,fun _ _ _ _ _ q=>q⟩
end
section
variable {P:Program} {O:Ez}
def jH(O:Ez)(P:Program)(ops:List Oper)(t:List AV)(g:HF)(base:Nat)(o:Oper):Option Jl:=
 match Fb ops t o with
 |none=>none
 |some false=>some ⟨.tup [],[],[]⟩
 |some true=>
  match Gm o.op with
  | .call c=>(callee t c).bind fun(f,args)=>(Fz O g base f args).bind fun d=>match d.out with
    | .ret v=>some ⟨v,d.es,d.fs⟩
    | .pan _=>none
  | .panic _=>none
  | .other=>exec P g base t o.op
inductive kH(O:Ez)(P:Program)(ops:List Oper):List (Oper × Jl)→St→St→Prop
 |nil (s:St):kH O P ops [] s s
 |cons {o:Oper} {d:Jl} {l:List (Oper × Jl)} {s s':St}:jH O P ops s.tmps (hf s.h) s.h.length o=some d→Eg s.h d.es→kH O P ops l ⟨put s.tmps o.dst d.v,Ar s.h d.es⟩ s'→kH O P ops ((o,d)::l) s s'
theorem jU{ops:List Oper}{gs:List Nat}{k:St→Xm→R}{r:Ex × St}:∀{rest:List Oper} {i:Nat} {s:St} {log:Xm},Fv O P ops gs rest i s log k (fun _ _=>none)=some r→
 ∃recs s',kH O P ops recs s s'∧recs.map (·.1)=rest∧k s' (log++recs.map fun x=>(x.2.es,x.2.fs))=some r
 | [],i,s,log,h=>⟨[],s,.nil s,rfl,by simpa [Fv]using h⟩
 |o::rest,i,s,log,h=>by
  have fin:∀(d:Jl),jH O P ops s.tmps (hf s.h) s.h.length o=some d→Eg s.h d.es→Fv O P ops gs rest (i+1) ⟨put s.tmps o.dst d.v,Ar s.h d.es⟩ (log++[(d.es,d.fs)]) k (fun _ _=>none)=some r→
   ∃recs s',kH O P ops recs s s'∧recs.map (·.1)=o::rest∧k s' (log++recs.map fun x=>(x.2.es,x.2.fs))=some r:=fun d h1 h2 h3=>by
   obtain⟨recs,s',k1,k2,k3⟩:=jU h3
   exact⟨(o,d)::recs,s',.cons h1 h2 k1,by simp[k2],by simpa using k3⟩
  unfold Fv at h
  split at h
  ·simp at h
  ·rename_i hw
   exact fin ⟨.tup [],[],[]⟩ (by simp only[jH,hw]) (.nil _) h
  ·rename_i hw
   cases hk:Gm o.op with
   |call c=>
    rw[hk]at h
    simp only[abQ]at h
    obtain⟨⟨fc,args⟩,hcal,d,hd,h⟩:=h
    simp only at hd
    cases ho:d.out with
    |ret v=>
     rw[ho]at h
     simp only[Fp]at h
     refine fin ⟨v,d.es,d.fs⟩ ?_ (aY hd) h
     simp only[jH,hw,hk,abQ]
     exact⟨(fc,args),hcal,d,hd,by simp only[ho]⟩
    |pan v=>rw[ho]at h;simp at h
   |panic x=>
    rw[hk]at h
    simp only[abQ]at h
    obtain⟨v,hv,h⟩:=h
    split at h<;>simp at h
   |other=>
    rw[hk]at h
    simp only[abQ,Fp]at h
    obtain⟨d,hd,h⟩:=h
    exact fin d (by simp only[jH,hw,hk];exact hd) (nH hd) h
def tS:(Nat→Bool)→List (Oper × Jl)→List AV→List AV
 |_,[],t=>t
 |D,x::l,t=>tS (fun n=>D (n+1)) l (if D 0=true then put t x.1.dst x.2.v else t)
def gS:(Nat→Bool)→List (Oper × Jl)→HF→HF
 |_,[],g=>g
 |D,x::l,g=>gS (fun n=>D (n+1)) l (if D 0=true then Ap g x.2.es else g)
theorem rS:∀{l:List (Oper × Jl)} {D D':Nat→Bool} {t:List AV},(∀i,i<l.length→D i=D' i)→tS D l t=tS D' l t
 | [],_,_,_,_=>rfl
 |x::l,D,D',t,h=>by
  simp only[tS]
  rw[h 0 (by simp),rS (fun i hi=>h (i+1) (by simp;omega))]
theorem rX:∀{l:List (Oper × Jl)} {D D':Nat→Bool} {g:HF},(∀i,i<l.length→D i=D' i)→gS D l g=gS D' l g
 | [],_,_,_,_=>rfl
 |x::l,D,D',g,h=>by
  simp only[gS]
  rw[h 0 (by simp),rX (fun i hi=>h (i+1) (by simp;omega))]
theorem pD:∀{l:List (Oper × Jl)} {D:Nat→Bool} {t:List AV},(∀i,D i=false)→tS D l t=t
 | [],_,_,_=>rfl
 |x::l,D,t,h=>by simp only[tS];rw[h 0];exact pD (fun i=>h (i+1))
theorem iU:∀{l:List (Oper × Jl)} {D:Nat→Bool} {g:HF},(∀i,D i=false)→gS D l g=g
 | [],_,_,_=>rfl
 |x::l,D,g,h=>by simp only[gS];rw[h 0];exact iU (fun i=>h (i+1))
theorem qS(i:Nat):(fun n=>decide (n+1<i+1))=fun n=>decide (n<i):=by funext n;simp
theorem kH.at{ops:List Oper}:∀{recs:List (Oper × Jl)} {s s':St},kH O P ops recs s s'→∀i o d,recs[i]?=some (o,d)→
 ∃h:Aa,jH O P ops (tS (fun n=>decide (n<i)) recs s.tmps) (gS (fun n=>decide (n<i)) recs (hf s.h)) h.length o=some d∧gS (fun n=>decide (n<i)) recs (hf s.h)=hf h∧Eg h d.es∧s.h.length≤h.length∧h.length≤s'.h.length∧
  (∀b,Hl d.es b→b<s'.h.length)∧∀j o' d',j<i→recs[j]?=some (o',d')→∀b,Hl d'.es b→b<h.length
 |_,_,_,.nil s,i,o,d,h=>by simp at h
 |_,s,s',.cons (o:=o0) (d:=d0) (l:=l) h1 h2 h3,i,o,d,h=>by
  obtain⟨e1,e2,e3,e4⟩:=Vt h2.ok
  have hlast:(Ar s.h d0.es).length≤s'.h.length:=by
   have aux:∀{recs:List (Oper × Jl)} {s s':St},kH O P ops recs s s'→s.h.length≤s'.h.length:=fun hr=>by
    induction hr with
    |nil=>exact adJ _
    |cons _ k2 _ ih=>exact aj0 (Vt k2.ok).2.1 ih
   exact aux h3
  cases i with
  |zero=>
   simp at h
   obtain⟨rfl,rfl⟩:=h
   refine⟨s.h,?_,?_,h2,adJ _,aj0 e2 hlast,fun b hb=>arW (e3 b hb) hlast,fun j _ _ hj=>by omega⟩
   ·rw[pD (fun i=>by simp),iU (fun i=>by simp)];exact h1
   ·rw[iU (fun i=>by simp)]
  |succ i=>
   simp at h
   obtain⟨hh,k1,k2,k3,k4,k5,k6,k7⟩:=kH.at h3 i o d h
   simp only[tS,gS,qS]
   simp only[Nat.zero_lt_succ,decide_true,if_true]
   rw[←e1]
   refine⟨hh,k1,k2,k3,aj0 e2 k4,k5,k6,fun j o' d' hj hr b hb=>?_⟩
   cases j with
   |zero=>simp at hr;obtain⟨rfl,rfl⟩:=hr;exact arW (e3 b hb) k4
   |succ j=>exact k7 j o' d' (by omega) (by simpa using hr) b hb
theorem Eg.trans{h:Aa}{es es':List Ad}(a:Eg h es)(b:Eg (Ar h es) es'):Eg h (es++es'):=by
 obtain⟨k1,k2,k3,k4⟩:=Vt a.ok
 have ok:∀(es:List Ad) (h:Aa),Yv h.length es→Yv (Ar h es).length es'→Yv h.length (es++es'):=by
  intro es
  induction es with
  |nil=>intro h _ q;exact q
  |cons e es ih=>
   intro h q1 q2
   cases e with
   |new b c=>
    obtain⟨r1,r2⟩:=q1
    exact⟨r1,by have:=ih (h++[c]) (by simpa using r2) q2;simpa using this⟩
   |put b c=>
    obtain⟨r1,r2⟩:=q1
    exact⟨r1,by have:=ih (h.set b c) (by simpa using r2) q2;simpa using this⟩
   |cells b r o vs=>
    obtain⟨r1,r2⟩:=q1
    have hl:(Cc h (.cells b r o vs)).length=h.length:=by
     simp only[Cc];split<;>simp
    exact⟨r1,by have:=ih (Cc h (.cells b r o vs)) (by rw[hl];exact r2) q2;rw[hl]at this;exact this⟩
 have fa:∀(es:List Ad) (g:HF),Ap g (es++es')=Ap (Ap g es) es':=by
  intro es
  induction es with
  |nil=>intro g;rfl
  |cons e es ih=>intro g;exact ih _
 have eid:∀b,Hl (es++es') b↔Hl es b∨Hl es' b:=fun b=>by
  constructor
  ·rintro⟨e,he,Fe⟩
   rcases aoH.1 he with he|he
   ·exact .inl ⟨e,he,Fe⟩
   ·exact .inr ⟨e,he,Fe⟩
  ·rintro(⟨e,he,Fe⟩|⟨e,he,Fe⟩)
   ·exact⟨e,aoP _ he,Fe⟩
   ·exact⟨e,aoF _ he,Fe⟩
 refine⟨ok es h a.ok b.ok,fun x hx hlt=>?_,fun x hx=>?_⟩
 ·rw[fa,←k1]
  by_cases h1:Hl es x
  ·refine⟨(a.touched x h1 hlt).1,fun c hc=>?_⟩
   by_cases h2:Hl es' x
   ·exact(b.touched x h2 (k3 x h1)).2 c hc
   ·rw[b.untouched x h2,k1]at hc
    exact(a.touched x h1 hlt).2 c hc
  ·have h2:Hl es' x:=((eid x).1 hx).resolve_left h1
   obtain⟨q1,q2⟩:=b.touched x h2 (arW hlt k2)
   rw[k1,a.untouched x h1]at q1
   exact⟨q1,q2⟩
 ·have h1:¬Hl es x:=fun e=>hx ((eid x).2 (.inl e))
  have h2:¬Hl es' x:=fun e=>hx ((eid x).2 (.inr e))
  rw[fa,←k1,b.untouched x h2,k1,a.untouched x h1]
def Zy(recs:List (Oper × Jl)):List Ad:=recs.flatMap (·.2.es)
theorem aa3{recs:List (Oper × Jl)}{b:Nat}:Hl (Zy recs) b↔∃(j:Nat) (o:Oper) (d:Jl),recs[j]?=some (o,d)∧Hl d.es b:=by
 unfold Zy
 constructor
 ·rintro⟨e,he,Fe⟩
  obtain⟨x,hx,he⟩:=adM.1 he
  obtain⟨j,hj⟩:=List.mem_iff_getElem?.1 hx
  exact⟨j,x.1,x.2,hj,e,he,Fe⟩
 ·rintro⟨j,o,d,hj,e,he,Fe⟩
  exact⟨e,adM.2 ⟨(o,d),atG hj,he⟩,Fe⟩
theorem Zh:∀{es es':List Ad} {g:Aa},Ar g (es++es')=Ar (Ar g es) es'
 | [],_,_=>rfl
 |e::es,_,_=>Zh (es:=es)
theorem aeC:∀{recs:List (Oper × Jl)} {g:HF},gS (fun _=>true) recs g=Ap g (Zy recs)
 | [],g=>rfl
 |x::l,g=>by
  simp only[gS,if_true,Zy,aoC]
  rw[Pv]
  exact aeC
theorem kH.last{ops:List Oper}{recs:List (Oper × Jl)}{s s':St}(h:kH O P ops recs s s'):s'.tmps=tS (fun _=>true) recs s.tmps∧s'.h=Ar s.h (Zy recs)∧Eg s.h (Zy recs):=by
 induction h with
 |nil s=>exact⟨rfl,rfl,.nil _⟩
 | @cons o d l s s' h1 h2 h3 ih=>
   obtain⟨k1,k2,k3⟩:=ih
   refine⟨?_,?_,?_⟩
   ·simp only[tS,if_true];exact k1
   ·simp only[Zy,aoC];rw[Zh];exact k2
   ·simp only[Zy,aoC];exact h2.trans k3
theorem akH(t:List AV)(d:Option Nat)(v:AV):(put t d v).length=t.length:=by cases d<;>simp[put]
theorem cI(t:List AV)(d:Option Nat)(v:AV)(x:Nat):Hu (put t d v) x=if d=some x∧x<t.length then v else Hu t x:=by
 cases d with
 |none=>simp[put]
 |some d=>
  simp only[put,Hu,ajX,adK.injEq]
  by_cases h:d=x
  ·subst h
   by_cases h2:d<t.length
   ·simp[h2]
   ·simp[h2]
  ·simp[h]
theorem uK{L:List Nat}:∀{l:List (Oper × Jl)} {D D':Nat→Bool} {t t':List AV},(∀j o d,l[j]?=some (o,d)→D j≠D' j→∀x,o.dst=some x→x∉L)→t.length=t'.length→(∀x∈L,Hu t x=Hu t' x)→
 ∀x∈L,Hu (tS D l t) x=Hu (tS D' l t') x
 | [],D,D',t,t',_,_,h=>h
 |y::l,D,D',t,t',hd,hl,h=>by
  simp only[tS]
  refine uK (fun j o d hj hne=>hd (j+1) o d (by simpa using hj) hne) ?_ ?_
  ·split<;>split<;>simp[akH,hl]
  ·intro x hx
   have h0:=hd 0 y.1 y.2 (by simp)
   cases e1:D 0<;>cases e2:D' 0
   ·simpa using h x hx
   ·simp only[adN,if_false,if_true]
    rw[cI,if_neg (fun q=>h0 (by simp[e1,e2]) x q.1 hx)]
    exact h x hx
   ·simp only[adN,if_false,if_true]
    rw[cI,if_neg (fun q=>h0 (by simp[e1,e2]) x q.1 hx)]
    exact h x hx
   ·simp only[if_true]
    rw[cI,cI,hl,h x hx]
theorem tV{f:Dp}:∀{l:List (Oper × Jl)} {D D':Nat→Bool} {g g':HF},(∀j o d,l[j]?=some (o,d)→D j≠D' j→∀e∈d.es,e.foot.meets f=false)→Dh g g' f→Dh (gS D l g) (gS D' l g') f
 | [],D,D',g,g',_,h=>h
 |y::l,D,D',g,g',hd,h=>by
  simp only[gS]
  refine tV (fun j o d hj hne=>hd (j+1) o d (by simpa using hj) hne) ?_
  have h0:=hd 0 y.1 y.2 (by simp)
  cases e1:D 0<;>cases e2:D' 0
  ·simpa using h
  ·simp only[adN,if_false,if_true]
   exact h.trans (Dh.edits _ (h0 (by simp[e1,e2])))
  ·simp only[adN,if_false,if_true]
   exact(Dh.edits _ (h0 (by simp[e1,e2]))).symm.trans h
  ·simp only[if_true]
   exact Dh.boths h
theorem agD(t:List AV){x y:Option Nat}(v u:AV)(h:∀d,x=some d→y≠some d):put (put t x v) y u=put (put t y u) x v:=by
 cases x with
 |none=>rfl
 |some a=>
  cases y with
  |none=>rfl
  |some b=>simp only[put];exact List.set_comm _ _ (fun e=>h a rfl (by rw[e]))
theorem vI{x:Option Nat}{v:AV}:∀{l:List (Oper × Jl)} {D:Nat→Bool} {t:List AV},(∀j o d,l[j]?=some (o,d)→D j=true→∀c,x=some c→o.dst≠some c)→tS D l (put t x v)=put (tS D l t) x v
 | [],D,t,_=>rfl
 |y::l,D,t,h=>by
  simp only[tS]
  cases e:D 0 with
  |true=>
   simp only[if_true]
   rw[agD t v y.2.v (h 0 y.1 y.2 (by simp) e)]
   exact vI (fun j o d hj hD=>h (j+1) o d (by simpa using hj) hD)
  |false=>exact vI (fun j o d hj hD=>h (j+1) o d (by simpa using hj) hD)
theorem afI{es:List Ad}:∀{l:List (Oper × Jl)} {D:Nat→Bool} {g:HF},(∀j o d,l[j]?=some (o,d)→D j=true→∀x∈es,∀y∈d.es,x.foot.meets y.foot=false)→gS D l (Ap g es)=Ap (gS D l g) es
 | [],D,g,_=>rfl
 |y::l,D,g,h=>by
  simp only[gS]
  cases e:D 0 with
  |true=>
   simp only[if_true]
   rw[mP g (h 0 y.1 y.2 (by simp) e)]
   exact afI (fun j o d hj hD=>h (j+1) o d (by simpa using hj) hD)
  |false=>exact afI (fun j o d hj hD=>h (j+1) o d (by simpa using hj) hD)
theorem oR:∀{l:List (Oper × Jl)} {D D':Nat→Bool} {t:List AV} {i:Nat} {o:Oper} {d:Jl},l[i]?=some (o,d)→D i=false→D' i=true→(∀j,j≠i→D' j=D j)→
 (∀j o' d',l[j]?=some (o',d')→i<j→D j=true→∀c,o.dst=some c→o'.dst≠some c)→tS D' l t=put (tS D l t) o.dst d.v
 | [],D,D',t,i,o,d,h,_,_,_,_=>by simp at h
 |y::l,D,D',t,i,o,d,h,h1,h2,h3,h4=>by
  cases i with
  |zero=>
   simp at h
   subst h
   simp only[tS,h1,h2,if_true,adN,if_false]
   rw[show(fun n=>D' (n+1))=fun n=>D (n+1)from funext fun n=>h3 (n+1) (by omega)]
   exact vI (fun j o' d' hj hD=>h4 (j+1) o' d' (by simpa using hj) (by omega) hD)
  |succ i=>
   simp only[tS]
   rw[h3 0 (by omega)]
   exact oR (by simpa using h) h1 h2 (fun j hj=>h3 (j+1) (by omega)) (fun j o' d' hj hi hD=>h4 (j+1) o' d' (by simpa using hj) (by omega) hD)
theorem nV:∀{l:List (Oper × Jl)} {D D':Nat→Bool} {g:HF} {i:Nat} {o:Oper} {d:Jl},l[i]?=some (o,d)→D i=false→D' i=true→(∀j,j≠i→D' j=D j)→
 (∀j o' d',l[j]?=some (o',d')→i<j→D j=true→∀x∈d.es,∀y∈d'.es,x.foot.meets y.foot=false)→gS D' l g=Ap (gS D l g) d.es
 | [],D,D',g,i,o,d,h,_,_,_,_=>by simp at h
 |y::l,D,D',g,i,o,d,h,h1,h2,h3,h4=>by
  cases i with
  |zero=>
   simp at h
   subst h
   simp only[gS,h1,h2,if_true,adN,if_false]
   rw[show(fun n=>D' (n+1))=fun n=>D (n+1)from funext fun n=>h3 (n+1) (by omega)]
   exact afI (fun j o' d' hj hD=>h4 (j+1) o' d' (by simpa using hj) (by omega) hD)
  |succ i=>
   simp only[gS]
   rw[h3 0 (by omega)]
   exact nV (by simpa using h) h1 h2 (fun j hj=>h3 (j+1) (by omega)) (fun j o' d' hj hi hD=>h4 (j+1) o' d' (by simpa using hj) (by omega) hD)
theorem wY{g:HF}{e:Ad}{b:Nat}(h:Bm g e b≠none):g b≠none∨e.id=b:=by
 rw[Jo]at h
 by_cases hb:b=e.id
 ·exact .inr hb.symm
 ·rw[if_neg hb]at h;exact .inl h
theorem nP:∀{es:List Ad} {g:HF} {b:Nat},Ap g es b≠none→g b≠none∨Hl es b
 | [],g,b,h=>.inl h
 |e::es,g,b,h=>by
  rcases nP (es:=es) h with h|⟨x,hx,Fe⟩
  ·rcases wY h with h|h
   ·exact .inl h
   ·exact .inr ⟨e,acQ ..,h⟩
  ·exact .inr ⟨x,acL _ hx,Fe⟩
theorem yB:∀{l:List (Oper × Jl)} {D:Nat→Bool} {g:HF} {b:Nat},gS D l g b≠none→g b≠none∨∃j o d,D j=true∧l[j]?=some (o,d)∧Hl d.es b
 | [],D,g,b,h=>.inl h
 |x::l,D,g,b,h=>by
  simp only[gS]at h
  rcases yB h with h|⟨j,o,d,h1,h2,h3⟩
  ·cases e:D 0 with
   |true=>
    rw[e]at h
    simp only[if_true]at h
    rcases nP h with h|h
    ·exact .inl h
    ·exact .inr ⟨0,x.1,x.2,e,by simp,h⟩
   |false=>rw[e]at h;exact .inl h
  ·exact .inr ⟨j+1,o,d,h1,by simpa using h2,h3⟩
end
section
variable {P:Program} {G:Nat→Option Obj} {O:Ez} {F:Fence} {nn:Nat}
theorem af5(hF:WF F)(hO:Hv P G O){ops:Array Oper}{i:Nat}{o:Oper}(ho:ops[i]?=some o){t:List AV}{g:HF}{base z:Nat}{d:Jl}{a:Act}{w:World}{S:Nat→Prop}(hI:Up G w S){ρ:Am}
 (H:HR w S ρ g) (T:TR w S ρ t a.tmps) (hz:ρ z=.fresh) (hgf:∀b,g b≠none→ρ b≠.fresh) (hd:jH O P ops.toList t g base o=some d)
 (hmb:∀vs vs' cs m,Ku g [] vs=some (vs',cs,m)→(∀b∈m,Dp.blk b∈d.fs)→∀b∈m,b<base) (hall:Dp.all∈d.fs→∀b,base≤b→g b=none) (hnew:∀b c,Ad.new b c∈d.es→ρ b=.fresh)
 {Q:Exit→Act→World→Prop} {K:Act→World→Prop}
 (hK:∀cv w' S' ρ',VR w' S' ρ' d.v cv→HR w' S' ρ' (Ap g d.es)→Gv w w' S S' ρ ρ'→Wb (Hl d.es) w w' ρ ρ'→Xv d.es ρ ρ'→K (a.put o.dst cv) w'):wpOpIn F nn P ops Q i K a w:=by
 have habout:∀f,o.about P w a.eval=some f→F.fn f:=fun f _=>hF.fn f
 unfold wpOpIn
 simp only[ho]
 unfold jH at hd
 split at hd
 ·simp at hd
 ·rename_i hw
  rw[Qi T hw]
  simp only[adN,if_false]
  simp at hd
  subst hd
  exact⟨habout,hK undef w S ρ Vx H (Gv.refl _ _ _) Wb.refl Xv.refl⟩
 ·rename_i hw
  rw[Qi T hw]
  simp only[if_true]
  refine⟨habout,?_⟩
  cases hk:Gm o.op with
  |call c=>
   rw[hk]at hd
   simp only[abQ]at hd
   obtain⟨⟨fc,args⟩,hcal,dc,hdc,hd⟩:=hd
   simp only at hdc
   have hop:o.op=.call c∧∀b,c.callee≠.builtin b:=by
    unfold Gm at hk
    split at hk<;>simp at hk
    rename_i c' hnb hop
    subst hk
    exact⟨hop,fun b e=>by obtain⟨cal,as,ts⟩:=c';simp at e;subst e;exact hnb b as ts rfl⟩
   obtain⟨hop,hnb⟩:=hop
   have hsem:o.semAt F.round a.eval=execOp a.eval o:=Oper.semAt_eq _ _ _ (fun c e=>by rw[hop]at e;cases e)
   rw[hsem]
   cases hout:dc.out with
   |pan v=>rw[hout]at hd;simp at hd
   |ret v0=>
    rw[hout]at hd
    simp at hd
    subst hd
    unfold callee at hcal
    split at hcal
    ·rename_i fo hfo
     simp only[abQ]at hcal
     obtain⟨fv,hfv,vs,hvs,hcal⟩:=hcal
     have hfr:=Ao T hfv
     have hvr:=Kr T hvs
     generalize hfe:a.eval fo=cf at hfr
     split at hcal
     ·rename_i f fa fb
      simp only[adK.injEq,Prod.mk.injEq]at hcal
      obtain⟨rfl,rfl⟩:=hcal
      cases hfr with
      | @func _ _ _ _ va vc q1 q2 q3 q4=>
        have hlr:LR w S ρ (fa++vs++fb) (va++c.args.map a.eval++vc).toList:=by
         have e1:(va++c.args.map a.eval++vc).toList=va.toList++c.args.toList.map a.eval++vc.toList:=by simp
         rw[e1]
         exact(LR.append (LR.append ⟨by simpa using q1,fun i x v hx hv=>q3 i x v hx (by simpa using hv)⟩ hvr) ⟨by simpa using q2,fun i x v hx hv=>q4 i x v hx (by simpa using hv)⟩)
        have hmb':∀vs1 vs' cs m,As (Hh 12 g) (fa++vs++fb)=some vs1→Ku g [] vs1=some (vs',cs,m)→We O (Yj f (fa++vs++fb)) (fa++vs++fb)→∀b∈m,b<base:=fun vs1 vs' cs m h1 h2 h3=>by
         refine hmb vs1 vs' cs m h2 (fun b hb=>?_)
         have hdc':=hdc
         obtain⟨n3,_,h3⟩:=h3.eq
         rw[h3]at hdc'
         unfold Dy at hdc'
         simp only[abQ]at hdc'
         obtain⟨vs2,r1,⟨vs3,cs3,m3⟩,r2,r3⟩:=hdc'
         rw[h1]at r1;cases r1
         rw[h2]at r2;cases r2
         simp only at r3
         split at r3
         ·simp at r3
         ·obtain⟨⟨out,h'⟩,_,r4⟩:=abQ.1 r3
          show Dp.blk b∈dc.fs
          rw[oQ r4]
          exact ajZ.2 ⟨b,aoF _ hb,rfl⟩
        obtain⟨henter,hcalls⟩:=jI hO hI H hz hgf (kE _ _) hlr hmb' hdc hall hnew
        have hrun:(execOp a.eval o).run P w=.ok (.enter f (va++c.args.map a.eval++vc)) w:=by
         simp only[execOp,hop,Sem.run_bind,resolve,hfo,hfe,Deferred.ofValue,Sem.run_pure,Result.andThen_ok,invoke]
         rw[henter]
        rw[hrun]
        refine⟨fun hdp=>by rw[hF.depth]at hdp;simp at hdp,hF.calls (hcalls.mono fun e w' ⟨cv,S',ρ',he,hv,hHR,hsim,hloc,hfrs⟩=>?_)⟩
        cases e with
        |returned v=>
         obtain⟨⟨x,hx⟩,rfl⟩:=he
         rw[hout]at hv
         exact hK _ w' S' ρ' hv hHR hsim hloc hfrs
        |panicked ch=>
         obtain⟨⟨x,hx⟩,rfl⟩:=he
         rw[hout]at hx;cases hx
        |outgrown=>exact he.elim
     ·rename_i b
      simp only[adK.injEq,Prod.mk.injEq]at hcal
      obtain⟨rfl,rfl⟩:=hcal
      have hyl:∃l,cf=.func (.yield l) #[] #[]:=by cases hfr<;>exact⟨_,rfl⟩
      obtain⟨l,rfl⟩:=hyl
      have hlr:LR w S ρ (vs++[.yl b]) ((c.args.map a.eval).toList++[.func (.yield l) #[] #[]]):=LR.append (by simpa using hvr) (.cons hfr .nil)
      obtain⟨fn,tmps,asg,body,hy,hround⟩:=fM hO hI H hz hgf hlr hdc hall hnew
      have hrun:(execOp a.eval o).run P w=.ok (.round l fn tmps asg body) w:=by
       simp only[execOp,hop,Sem.run_bind,resolve,hfo,hfe,Deferred.ofValue,Sem.run_pure,Result.andThen_ok,invoke]
       simpa using hy
      rw[hrun]
      refine⟨fun hdp=>by rw[hF.depth]at hdp;simp at hdp,(hround F _ hF).mono fun e w' ⟨cv,S',ρ',he,hv,hHR,hsim,hloc,hfrs⟩=>?_⟩
      cases e with
      |returned v=>
       obtain⟨⟨x,hx⟩,rfl⟩:=he
       rw[hout]at hv
       exact hK _ w' S' ρ' hv hHR hsim hloc hfrs
      |panicked ch=>
       obtain⟨⟨x,hx⟩,rfl⟩:=he
       rw[hout]at hx;cases hx
      |outgrown=>exact he.elim
     ·simp at hcal
    ·simp at hcal
  |panic x=>rw[hk]at hd;simp at hd
  |other=>
   rw[hk]at hd
   simp only at hd
   have hsem:o.semAt F.round a.eval=execOp a.eval o:=Oper.semAt_eq _ _ _ (bW hd)
   rw[hsem]
   have hex:∃base',ρ base'=.fresh∧exec P g base' t o.op=some d:=by
    obtain⟨b1,b2⟩:=ac2 hd
    by_cases hn:∃b c,Ad.new b c∈d.es
    ·obtain⟨b,c,hbc⟩:=hn
     have:=b1 b c hbc
     subst this
     exact⟨b,hnew b c hbc,hd⟩
    ·exact⟨z,hz,b2 (fun b c hbc=>hn ⟨b,c,hbc⟩) z⟩
   obtain⟨base',hb',hd'⟩:=hex
   obtain⟨cv,w',ρ',hran,hv,hHR,hsim,hloc,hfrs⟩:=jL H hb' T hd'
   rcases hran with hran|⟨hran,rfl⟩
   ·rw[hran];exact hK cv w' S ρ' hv hHR hsim hloc hfrs
   ·rw[hran];exact hK _ w' S ρ' hv hHR hsim hloc hfrs
theorem qX{ops:List Oper}{o:Oper}{t t':List AV}(h:∀x∈looks ops o,Hu t x=Hu t' x):∀x∈o.op.operands.toList,Af t x=Af t' x:=fun x hx=>by
 cases x with
 |tmp y=>
  simp only[Af]
  rw[h y (aoP _ (atH.2 ⟨_,hx,rfl⟩))]
 |_=>rfl
theorem mJ{ops:List Oper}{o:Oper}{t t':List AV}(h:∀x∈looks ops o,Hu t x=Hu t' x):Fb ops t o=Fb ops t' o:=by
 unfold Fb
 cases hg:o.guard with
 |none=>rfl
 |some jw=>
  obtain⟨j,want⟩:=jw
  simp only
  cases hd:(ops[j]?).bind (·.dst)with
  |none=>rfl
  |some y=>
   simp only
   rw[h y (aoF _ (by rw[hg];simp[hd]))]
theorem aiI{ops:List Oper}{o:Oper}{t t':List AV}{g g':HF}{base:Nat}{d:Jl}(h:jH O P ops t g base o=some d)(ht:∀x∈looks ops o,Hu t x=Hu t' x)(ha:∀f∈d.fs,Dh g g' f):jH O P ops t' g' base o=some d:=by
 unfold jH at h ⊢
 rw[←mJ ht]
 split at h
 ·simp at h
 ·exact h
 ·have hev:=qX ht
  cases hk:Gm o.op with
  |call c=>
   rw[hk]at h
   simp only[abQ]at h ⊢
   obtain⟨⟨fc,args⟩,hcal,dc,hdc,hd⟩:=h
   have hop:o.op=.call c:=by
    unfold Gm at hk
    split at hk<;>simp at hk
    rename_i c' hnb hop
    subst hk
    exact hop
   refine⟨(fc,args),?_,dc,?_,hd⟩
   ·rw[←rF (fun x hx=>hev x (by rw[hop];exact hx))];exact hcal
   ·refine(aa0 hdc fun f hf=>ha f ?_).1
    cases hout:dc.out with
    |ret v=>rw[hout]at hd;simp at hd;subst hd;exact hf
    |pan v=>rw[hout]at hd;simp at hd
  |panic x=>rw[hk]at h;simp at h
  |other=>
   rw[hk]at h
   simp only at h ⊢
   rw[←abU hev]
   exact agO h ha
theorem cN{acc:Array Nat}{i:Nat}:∀{l:List Edge} {s:Nat},(l.foldl (fun s e=>if Region.binds .any e then s|||2 ^ e.on|||acc.getD e.on 0 else s) s).testBit i=true→
 s.testBit i=true∨∃e∈l,Region.binds .any e=true∧(e.on=i∨(acc.getD e.on 0).testBit i=true)
 | [],s,h=>.inl h
 |e::l,s,h=>by
  rcases cN (l:=l) h with h|⟨e',he,k1,k2⟩
  ·simp only at h
   by_cases hb:Region.binds .any e=true
   ·rw[if_pos hb,Nat.testBit_or,Nat.testBit_or,Nat.testBit_two_pow]at h
    simp only[Bool.or_eq_true,decide_eq_true_eq]at h
    rcases h with(h|h)|h
    ·exact .inl h
    ·exact .inr ⟨e,acQ ..,hb,.inl h⟩
    ·exact .inr ⟨e,acQ ..,hb,.inr h⟩
   ·rw[if_neg hb]at h;exact .inl h
  ·exact .inr ⟨e',acL _ he,k1,k2⟩
def Ia(acc:Array Nat)(o:Oper):Array Nat:=acc.push (o.after.foldl (fun s e=>if Region.binds .any e then s|||2 ^ e.on|||acc.getD e.on 0 else s) 0)
theorem eI(l:List Oper):∀(A:Array Nat) (pre:List Oper),A.size=pre.length→
 (∀j i,(A.getD j 0).testBit i=true→∃o e,pre[j]?=some o∧e∈o.after.toList∧Region.binds .any e=true∧(e.on=i∨(e.on<j∧(A.getD e.on 0).testBit i=true)))→
 ∀j i,((l.foldl Ia A).getD j 0).testBit i=true→∃o e,(pre++l)[j]?=some o∧e∈o.after.toList∧Region.binds .any e=true∧(e.on=i∨(e.on<j∧((l.foldl Ia A).getD e.on 0).testBit i=true)):=by
 induction l with
 |nil=>intro A pre _ h j i hj;simpa using h j i hj
 |cons o l ih=>
  intro A pre hA h j i hj
  have:=ih (Ia A o) (pre++[o]) (by simp[Ia,hA]) (fun j i hj=>?_) j i hj
  ·simpa using this
  ·have hpush:∀n,n<A.size→(Ia A o).getD n 0=A.getD n 0:=fun n hn=>by
    simp only[Ia,adO,Array.getElem?_push]
    rw[if_neg (by omega)]
   rcases asD j A.size with hlt|heq|hgt
   ·rw[hpush j hlt]at hj
    obtain⟨o',e,k1,k2,k3,k4⟩:=h j i hj
    refine⟨o',e,?_,k2,k3,?_⟩
    ·rw[atI (by omega)];exact k1
    ·rcases k4 with k4|⟨k4,k5⟩
     ·exact .inl k4
     ·exact .inr ⟨k4,by rw[hpush _ (by omega)];exact k5⟩
   ·subst heq
    have hv:(Ia A o).getD A.size 0=o.after.foldl (fun s e=>if Region.binds .any e then s|||2 ^ e.on|||A.getD e.on 0 else s) 0:=by
     simp[Ia,adO]
    rw[hv,←as7]at hj
    rcases cN hj with hz|⟨e,k1,k2,k3⟩
    ·simp at hz
    ·refine⟨o,e,by rw[hA];simp,k1,k2,?_⟩
     rcases k3 with k3|k3
     ·exact .inl k3
     ·have hlt:e.on<A.size:=by
       rcases Nat.lt_or_ge e.on A.size with q|q
       ·exact q
       ·rw[adO,atJ q]at k3;simp at k3
      exact .inr ⟨hlt,by rw[hpush _ hlt];exact k3⟩
   ·rw[adO,atJ (by simp[Ia];omega)]at hj
    simp at hj
theorem uF{ops:Array Oper}{j i:Nat}(h:((Region.before ops).getD j 0).testBit i=true):
 ∃o e,ops[j]?=some o∧e∈o.after.toList∧Region.binds .any e=true∧(e.on=i∨(e.on<j∧((Region.before ops).getD e.on 0).testBit i=true)):=by
 have hb:Region.before ops=ops.toList.foldl Ia #[]:=by unfold Region.before;rw[←as7];rfl
 rw[hb]at h ⊢
 have:=eI ops.toList #[] [] rfl (fun j i hj=>by simp at hj) j i h
 simpa using this
theorem aJ{ops:Array Oper}{D:Nat→Bool}(hc:∀(j:Nat) (o:Oper),ops[j]?=some o→D j=true→∀e∈o.after.toList,Region.binds .any e=true→D e.on=true):∀(j i:Nat),D j=true→((Region.before ops).getD j 0).testBit i=true→D i=true:=by
 intro j
 induction j using aoK with
 |_ j ih=>
  intro i hj h
  obtain⟨o,e,k1,k2,k3,k4⟩:=uF h
  have he:=hc j o k1 hj e k2 k3
  rcases k4 with k4|⟨k4,k5⟩
  ·rw[←k4];exact he
  ·exact ih e.on k4 i he k5
theorem abM{ops:Array Oper}{i j:Nat}(hij:i<j)(hj:j<ops.size)(h:((Region.before ops).getD j 0).testBit i=false):(i,j)∈gK ops.toList:=by
 unfold gK
 simp only[adM,adQ,atH,Array.toArray_toList]
 exact⟨j,by simpa using hj,i,hij,by rw[h];simp⟩
end
section
variable {P:Program} {G:Nat→Option Obj} {O:Ez} {F:Fence} {nn:Nat}
def InD(D:Nat→Bool)(recs:List (Oper × Jl))(b:Nat):Prop:=∃(j:Nat) (o:Oper) (d:Jl),D j=true∧recs[j]?=some (o,d)∧Hl d.es b
structure DI(s:St)(recs:List (Oper × Jl))(a0:Act)(w0:World)(S0:Nat→Prop)(ρ0:Am)(D:Nat→Bool)(a:Act)(w:World)(S:Nat→Prop)(ρ:Am):Prop where
 hr:HR w S ρ (gS D recs (hf s.h))
 tr:TR w S ρ (tS D recs s.tmps) a.tmps
 sim:Gv w0 w S0 S ρ0 ρ
 loc:Wb (InD D recs) w0 w ρ0 ρ
 frs:∀b,ρ b=.fresh↔(ρ0 b=.fresh∧¬InD D recs b)
 defers:a.defers=a0.defers
theorem Xd{x y:List Ad × List Dp}(h:Qe x y=false):(∀e∈x.1,∀e'∈y.1,e.foot.meets e'.foot=false)∧(∀e∈x.1,∀f∈y.2,e.foot.meets f=false)∧(∀e∈y.1,∀f∈x.2,e.foot.meets f=false):=by
 unfold Qe at h
 simp only[Bool.or_eq_false_iff,aoL,ajZ,aoH]at h
 obtain⟨h1,h2⟩:=h
 refine⟨fun e he e' he'=>?_,fun e he f hf=>?_,fun e he f hf=>?_⟩
 ·have:=h1 e.foot ⟨e,he,rfl⟩
  simp only[as8,aoL,aoH,ajZ]at this
  exact this e'.foot (.inl ⟨e',he',rfl⟩)
 ·have:=h1 e.foot ⟨e,he,rfl⟩
  simp only[as8,aoL,aoH,ajZ]at this
  exact this f (.inr hf)
 ·have:=h2 e.foot ⟨e,he,rfl⟩
  simp only[as8,aoL]at this
  exact this f hf
theorem Yp{ops:List Oper}{x y:Oper}(h:dM ops x y=true):(∀d,x.dst=some d→d∉looks ops y∧y.dst≠some d)∧(∀d,y.dst=some d→d∉looks ops x):=by
 unfold dM at h
 rw[aeY]at h
 obtain⟨h1,h2⟩:=h
 refine⟨fun d hd=>?_,fun d hd=>?_⟩
 ·rw[hd]at h1;simpa using h1
 ·rw[hd]at h2;simpa using h2
theorem wK{b:Nat}{c:CB}{e:Ad}(h:e.id=b):(Ad.new b c).foot.meets e.foot=true:=by
 cases e<;>simp[Ad.id]at h<;>subst h<;>simp[Ad.foot,Dp.meets]
theorem mS{l:Array Bool}{i:Nat}(h:l.getD i true=false):i<l.size∧l.getD i false=false:=by
 rw[adO]at h ⊢
 cases e:l[i]? with
 |none=>rw[e]at h;simp at h
 |some b=>rw[e]at h;simp at h;subst h;exact⟨(adP.1 e).1,rfl⟩
theorem aeW{l:List Nat}{p q:Nat→Bool}(hq:∀x,q x=true→p x=true){i:Nat}(hi:i∈l)(h1:p i=true)(h2:q i=false):(l.filter q).length<(l.filter p).length:=by
 induction l with
 |nil=>simp at hi
 |cons x l ih=>
  have hle:(l.filter q).length≤(l.filter p).length:=by
   clear ih hi
   induction l with
   |nil=>simp
   |cons y l ih=>
    cases e1:q y with
    |true=>rw[ae4 e1,ae4 (hq y e1)];simpa using ih
    |false=>
     rw[aj1 (by simp[e1])]
     cases e2:p y with
     |true=>rw[ae4 e2];simp only[aoN];omega
     |false=>rw[aj1 (by simp[e2])];exact ih
  rcases List.mem_cons.1 hi with rfl|hi
  ·rw[ae4 h1,aj1 (by simp[h2])];simp only[aoN];omega
  ·have:=ih hi
   cases e1:q x with
   |true=>rw[ae4 e1,ae4 (hq x e1)];simp only[aoN];omega
   |false=>
    rw[aj1 (by simp[e1])]
    cases e2:p x with
    |true=>rw[ae4 e2];simp only[aoN];omega
    |false=>rw[aj1 (by simp[e2])];exact this
theorem qP(hm:P.follows .mixedOrders=true)(hO:Hv P G O):bX P G O:=by
 intro ops B k r s a0 w0 S0 ρ0 id F nn hF hst hev hI hs
 obtain⟨recs,s',hruns,hmap,hk⟩:=jU hev
 simp only[atK]at hk
 have hdk:Eu ops.toList (recs.map fun x=>(x.2.es,x.2.fs))=true∧k s' (recs.map fun x=>(x.2.es,x.2.fs))=some r:=by
  unfold Ha at hk
  cases e:Eu ops.toList (recs.map fun x=>(x.2.es,x.2.fs))with
  |true=>rw[e]at hk;exact⟨rfl,hk⟩
  |false=>rw[e]at hk;simp at hk
 obtain⟨hdyn,hk⟩:=hdk
 have hlen:recs.length=ops.size:=by have:=congrArg List.length hmap;simpa using this
 have hget:∀(i:Nat) o d,recs[i]?=some (o,d)→ops[i]?=some o:=fun i o d h=>by
  have:(recs.map (·.1))[i]?=some o:=by rw[ak9,h];rfl
  rw[hmap]at this;simpa using this
 unfold Ov at hst
 rw[aeY]at hst
 obtain⟨hedge,hap⟩:=hst
 have pair:∀(i j:Nat) x y,i<j→recs[i]?=some x→recs[j]?=some y→((Region.before ops).getD j 0).testBit i=false→dM ops.toList x.1 y.1=true∧Qe (x.2.es,x.2.fs) (y.2.es,y.2.fs)=false:=fun i j x y hij hi hj hb=>by
  have hjl:j<ops.size:=by rw[←hlen];exact(adG.1 hj).1
  have hmem:=abM hij hjl hb
  refine⟨?_,?_⟩
  ·have:=acV.1 hap _ hmem
   have e1:=hget i x.1 x.2 hi
   have e2:=hget j y.1 y.2 hj
   simp only[atM,e1,e2]at this
   exact this
  ·have:=acV.1 hdyn _ hmem
   simp only[ak9,hi,hj,adL]at this
   simpa using this
 have FF:=hs.1
 have step:∀(D:Nat→Bool) (i:Nat) (o:Oper) (d:Jl),recs[i]?=some (o,d)→D i=false→
  (∀(j:Nat) (o:Oper),ops[j]?=some o→(D j=true∨j=i)→∀e∈o.after.toList,Region.binds .any e=true→D e.on=true)→
  ∀a w S ρ,DI s recs a0 w0 S0 ρ0 D a w S ρ→∀(Q:Exit→Act→World→Prop) (K:Act→World→Prop) (D':Nat→Bool),D' i=true→(∀j,j≠i→D' j=D j)→
  (∀a' w' S' ρ',DI s recs a0 w0 S0 ρ0 D' a' w' S' ρ'→K a' w')→wpOpIn F nn P ops Q i K a w:=by
  intro D i o d hi hDi hcl a w S ρ hDI Q K D' hD'i hD' hK
  obtain⟨h,t1,t2,t3,t4,t5,t6,t7⟩:=hruns.at i o d hi
  have hil:i<ops.size:=by rw[←hlen];exact(adG.1 hi).1
  have hclD:∀(j:Nat) (o:Oper),ops[j]?=some o→D j=true→∀e∈o.after.toList,Region.binds .any e=true→D e.on=true:=fun j o hj hd=>hcl j o hj (.inl hd)
  have hclD':∀(j:Nat) (o:Oper),ops[j]?=some o→D' j=true→∀e∈o.after.toList,Region.binds .any e=true→D' e.on=true:=fun j o hj hd e he hb=>by
   have hD:D e.on=true:=by
    by_cases hji:j=i
    ·exact hcl j o hj (.inr hji) e he hb
    ·exact hcl j o hj (.inl (by rw[←hD' j hji];exact hd)) e he hb
   have hne:e.on≠i:=fun q=>by rw[q,hDi]at hD;cases hD
   rw[hD' _ hne];exact hD
  have later:∀j o' d',recs[j]?=some (o',d')→i<j→D j=true→dM ops.toList o o'=true∧Qe (d.es,d.fs) (d'.es,d'.fs)=false:=fun j o' d' hj hij hDj=>by
   refine pair i j (o,d) (o',d') hij hi hj ?_
   cases hb:((Region.before ops).getD j 0).testBit i with
   |false=>rfl
   |true=>have:=aJ hclD j i hDj hb;rw[hDi]at this;cases this
  have earlier:∀j o' d',recs[j]?=some (o',d')→j<i→D j=false→dM ops.toList o' o=true∧Qe (d'.es,d'.fs) (d.es,d.fs)=false:=fun j o' d' hj hij hDj=>by
   refine pair j i (o',d') (o,d) hij hj hi ?_
   cases hb:((Region.before ops).getD i 0).testBit j with
   |false=>rfl
   |true=>
    have:=aJ hclD' i j hD'i hb
    rw[hD' j (by omega),hDj]at this;cases this
  have hdiff:∀j o' d',recs[j]?=some (o',d')→decide (j<i)≠D j→(∀x,o'.dst=some x→x∉looks ops.toList o)∧∀e∈d'.es,∀f∈d.fs,e.foot.meets f=false:=fun j o' d' hj hne=>by
   by_cases hji:j<i
   ·have hDj:D j=false:=by
     cases e:D j with
     |false=>rfl
     |true=>rw[e]at hne;simp[hji]at hne
    obtain⟨q1,q2⟩:=earlier j o' d' hj hji hDj
    exact⟨fun x hx=>((Yp q1).1 x hx).1,fun e he f hf=>(Xd q2).2.1 e he f hf⟩
   ·have hDj:D j=true:=by
     cases e:D j with
     |true=>rfl
     |false=>rw[e]at hne;simp[hji]at hne
    have hij:i<j:=by
     rcases asD i j with q|q|q
     ·exact q
     ·subst q;rw[hDi]at hDj;cases hDj
     ·omega
    obtain⟨q1,q2⟩:=later j o' d' hj hij hDj
    exact⟨fun x hx=>(Yp q1).2 x hx,fun e he f hf=>(Xd q2).2.2 e he f hf⟩
  have hta:∀x∈looks ops.toList o,Hu (tS (fun n=>decide (n<i)) recs s.tmps) x=Hu (tS D recs s.tmps) x:=
   uK (fun j o' d' hj hne=>(hdiff j o' d' hj hne).1) rfl (fun _ _=>rfl)
  have hga:∀f∈d.fs,Dh (gS (fun n=>decide (n<i)) recs (hf s.h)) (gS D recs (hf s.h)) f:=fun f hf=>
   tV (fun j o' d' hj hne e he=>(hdiff j o' d' hj hne).2 e he f hf) (Dh.refl _ _)
  have hd:=aiI t1 hta hga
  have hfresh:∀b c,Ad.new b c∈d.es→ρ b=.fresh:=fun b c hb=>by
   have hbl:=Vv t3.ok b c hb
   refine(hDI.frs b).2 ⟨FF.dom b (aj0 t4 hbl),fun⟨j,o',d',hDj,hj,hE⟩=>?_⟩
   rcases asD i j with q|q|q
   ·obtain⟨e,he,Fe⟩:=hE
    have:=(Xd (later j o' d' hj q hDj).2).1 _ hb e he
    rw[wK Fe]at this;cases this
   ·subst q;rw[hDi]at hDj;cases hDj
   ·have:=t7 j o' d' q hj b hE;omega
  have hz:ρ s'.h.length=.fresh:=(hDI.frs _).2 ⟨FF.dom _ (aj0 t4 t5),fun⟨j,o',d',hDj,hj,hE⟩=>by
   obtain⟨_,_,_,_,_,_,u6,_⟩:=hruns.at j o' d' hj
   have:=u6 _ hE;omega⟩
  have hgf:∀b,gS D recs (hf s.h) b≠none→ρ b≠.fresh:=fun b hb hfr=>by
   obtain⟨f1,f2⟩:=(hDI.frs b).1 hfr
   rcases yB hb with q|q
   ·have hlt:b<s.h.length:=by
     cases e:hf s.h b with
     |none=>exact(q e).elim
     |some c=>exact Lc e
    exact FF.all b hlt f1
   ·exact f2 q
  refine af5 hF hO (hget i o d hi) (hI.sim (FF.sim.trans hDI.sim)) hDI.hr hDI.tr hz hgf hd ?_ (fun hm b hb=>by
   have e:gS D recs (hf s.h)=gS (fun n=>decide (n<i)) recs (hf s.h):=hga .all hm
   rw[e,t2];exact qD hb) hfresh ?_
  ·intro vs vs' cs m hp hblk b hb
   have:=tP (g:=gS D recs (hf s.h)) (g':=gS (fun n=>decide (n<i)) recs (hf s.h)) hp (fun b' hb'=>(hga (.blk b') (hblk b' hb')).symm)
   rw[t2]at this
   exact zL this b hb
  ·intro cv w' S' ρ' hv hHR hsim hloc hfrs
   have ht:tS D' recs s.tmps=put (tS D recs s.tmps) o.dst d.v:=oR hi hDi hD'i hD' (fun j o' d' hj hij hDj c hc=>((Yp (later j o' d' hj hij hDj).1).1 c hc).2)
   have hg:gS D' recs (hf s.h)=Ap (gS D recs (hf s.h)) d.es:=nV hi hDi hD'i hD' (fun j o' d' hj hij hDj=>(Xd (later j o' d' hj hij hDj).2).1)
   have hin:∀b,InD D' recs b↔InD D recs b∨Hl d.es b:=fun b=>by
    constructor
    ·rintro⟨j,o',d',q1,q2,q3⟩
     by_cases hji:j=i
     ·subst hji;rw[hi]at q2;cases q2;exact .inr q3
     ·exact .inl ⟨j,o',d',by rw[←hD' j hji];exact q1,q2,q3⟩
    ·rintro(⟨j,o',d',q1,q2,q3⟩|q)
     ·by_cases hji:j=i
      ·subst hji;rw[hDi]at q1;cases q1
      ·exact⟨j,o',d',by rw[hD' j hji];exact q1,q2,q3⟩
     ·exact⟨i,o,d,hD'i,hi,q⟩
   refine hK _ w' S' ρ' ⟨?_,?_,hDI.sim.trans hsim,?_,fun b=>?_,by rw[kM];exact hDI.defers⟩
   ·rw[hg];exact hHR
   ·rw[ht];exact mZ (LR.sim hsim hDI.tr) o.dst hv
   ·exact(hDI.loc.trans hloc).mono (fun b hb=>(hin b).2 hb)
   ·rw[hfrs b,hDI.frs b,hin b]
    constructor
    ·rintro⟨⟨q1,q2⟩,q3⟩;exact⟨q1,fun q=>q.elim q2 q3⟩
    ·rintro⟨q1,q2⟩;exact⟨⟨q1,fun q=>q2 (.inl q)⟩,fun q=>q2 (.inr q)⟩
 have fin:∀(D:Nat→Bool) a w S ρ,(∀i,i<ops.size→D i=true)→DI s recs a0 w0 S0 ρ0 D a w S ρ→OQ B k (fun _ _=>none) r .normal a w:=by
  intro D a w S ρ hall hDI
  obtain⟨l1,l2,l3⟩:=hruns.last
  have hgA:gS D recs (hf s.h)=Ap (hf s.h) (Zy recs):=by
   rw[←aeC];exact rX (fun i hi=>hall i (by omega))
  have htA:tS D recs s.tmps=s'.tmps:=by rw[l1];exact rS (fun i hi=>hall i (by omega))
  have hinA:∀b,InD D recs b↔Hl (Zy recs) b:=fun b=>by
   rw[aa3]
   constructor
   ·rintro⟨j,o,d,_,h1,h2⟩;exact⟨j,o,d,h1,h2⟩
   ·rintro⟨j,o,d,h1,h2⟩;exact⟨j,o,d,hall j (by rw[←hlen];exact(adG.1 h1).1),h1,h2⟩
  have hFI:=FF.step l3 (by rw[←hgA];exact hDI.hr) hDI.sim (hDI.loc.mono fun b hb=>(hinA b).1 hb) (fun b=>by rw[hDI.frs b,hinA b])
  rw[←l2]at hFI
  refine⟨s',recs.map fun x=>(x.2.es,x.2.fs),S,ρ,hk,hFI,?_,?_,?_⟩
  ·rw[←htA];exact hDI.tr
  ·rw[hDI.defers];exact hs.2.2.1.later hs.1.hr hDI.sim
  ·rw[hDI.defers]
   refine⟨hs.2.2.2.1,fun l hl=>?_⟩
   obtain⟨r,hr⟩:=hs.2.2.2.2 l hl
   obtain⟨st,pe,k⟩:=hDI.sim.loops l r hr
   exact⟨_,k⟩
 have main:∀fuel (listed:Array Bool) a w S ρ,listed.size=ops.size→((aoO ops.size).filter fun i=> !listed.getD i false).length≤fuel→
  (∀(j:Nat) (o:Oper),ops[j]?=some o→listed.getD j false=true→∀e∈o.after.toList,Region.binds .any e=true→listed.getD e.on false=true)→
  DI s recs a0 w0 S0 ρ0 (fun i=>listed.getD i false) a w S ρ→wpAnyIn F nn P .any ops (OQ B k (fun _ _=>none) r) fuel listed a w:=by
  intro fuel
  induction fuel with
  |zero=>
   intro listed a w S ρ hsz hcnt hcl hDI
   have hall:∀i,i<ops.size→listed.getD i false=true:=fun i hi=>by
    cases e:listed.getD i false with
    |true=>rfl
    |false=>
     have:i∈(aoO ops.size).filter fun i=> !listed.getD i false:=as9.2 ⟨adQ.2 hi,by simp only[e];rfl⟩
     rw[List.length_eq_zero_iff.1 (Nat.le_zero.1 hcnt)]at this;simp at this
   refine⟨?_,fin _ a w S ρ hall hDI⟩
   unfold Region.ready
   rw[List.filter_eq_nil_iff]
   intro i hi hr
   rw[aeY]at hr
   have h1:=(mS (l:=listed) (i:=i) (by simpa using hr.1)).2
   rw[hall i (adQ.1 hi)]at h1;cases h1
  |succ fuel ih=>
   intro listed a w S ρ hsz hcnt hcl hDI
   refine⟨fun hnil=>fin _ a w S ρ (fun i hi=>?_) hDI,fun i hi=>?_⟩
   ·
    induction i using aoK with
    |_ i ihi=>
     cases e:listed.getD i false with
     |true=>rfl
     |false=>
      have hmem:i∈Region.ready .any ops listed:=by
       unfold Region.ready
       refine as9.2 ⟨adQ.2 hi,?_⟩
       rw[aeY]
       refine⟨?_,?_⟩
       ·have hlt:i<listed.size:=by omega
        rw[adO,atN hlt]at e ⊢
        simp at e ⊢;exact e
       ·have ho:ops[i]?=some ops[i]:=atN hi
        rw[ho]
        simp only[adL,auH,atA]
        intro ed hed
        have hE:=acV.1 hedge i (adQ.2 (by simpa using hi))
        simp only[atM,ho,atA]at hE
        have:=hE ed hed
        cases hb:Region.binds .any ed with
        |false=>rfl
        |true=>
         rw[hb]at this
         simp at this
         simp only[Bool.not_true,Bool.false_or]
         exact ihi ed.on this (by omega)
      rw[hnil]at hmem;simp at hmem
   ·have hi':=hi
    unfold Region.ready at hi'
    obtain⟨hir,hrd⟩:=as9.1 hi'
    rw[aeY]at hrd
    have hir:=adQ.1 hir
    obtain⟨g1,g2⟩:=mS (l:=listed) (i:=i) (by simpa using hrd.1)
    have hrec:∃o d,recs[i]?=some (o,d):=⟨_,_,aoB (by omega:i<recs.length)⟩
    obtain⟨o,d,hrec⟩:=hrec
    have ho:=hget i o d hrec
    have hafter:∀e∈o.after.toList,Region.binds .any e=true→listed.getD e.on false=true:=fun e he hb=>by
     have:=hrd.2
     rw[ho]at this
     simp only[adL,auH,atA]at this
     have:=this e (by simpa using he)
     rw[hb]at this
     simpa using this
    have hset:∀j,j≠i→(listed.setIfInBounds i true).getD j false=listed.getD j false:=fun j hj=>getD_set_ne false (Ne.symm hj)
    have hseti:(listed.setIfInBounds i true).getD i false=true:=by
     rw[adO,Array.getElem?_setIfInBounds_self_of_lt g1];rfl
    refine step (fun i=>listed.getD i false) i o d hrec g2 ?_ a w S ρ hDI _ _ (fun j=>(listed.setIfInBounds i true).getD j false) hseti hset ?_
    ·intro j o' hj hor e he hb
     rcases hor with hor|rfl
     ·exact hcl j o' hj hor e he hb
     ·rw[ho]at hj;cases hj;exact hafter e he hb
    ·intro a' w' S' ρ' hDI'
     refine ih (listed.setIfInBounds i true) a' w' S' ρ' (by simpa using hsz) ?_ ?_ hDI'
     ·have:=aeW (l:=aoO ops.size) (p:=fun i=> !listed.getD i false) (q:=fun j=> !(listed.setIfInBounds i true).getD j false) (fun x hx=>by
       by_cases hxi:x=i
       ·subst hxi;rw[hseti]at hx;simp at hx
       ·rw[hset x hxi]at hx;exact hx) (adQ.2 hir) (by rw[g2];rfl) (by rw[hseti];rfl)
      omega
     ·intro j o' hj hor e he hb
      have hD:listed.getD e.on false=true:=by
       by_cases hji:j=i
       ·subst hji;rw[ho]at hj;cases hj;exact hafter e he hb
       ·exact hcl j o' hj (by rw[←hset j hji];exact hor) e he hb
      exact getD_set_true hD
 refine wpIn_region_any hm (main ops.size (atB ops.size false) a0 w0.drew S0 ρ0 (by simp) ?_ ?_ ?_)
 ·exact aj0 (List.length_filter_le _ _) (by simp)
 ·intro j o _ hj
  rw[adO,auM]at hj
  split at hj<;>simp at hj
 ·have hno:∀i,(atB ops.size false).getD i false=false:=fun i=>by
   rw[adO,auM]
   split<;>rfl
  have hnoD:∀b,¬InD (fun i=>(atB ops.size false).getD i false) recs b:=fun b ⟨j,_,_,q,_⟩=>by have h0:=hno j;simp only[h0]at q;cases q
  refine⟨?_,?_,Gv.drew _ _ _,fun b cb co st sz h _=>⟨h,rfl⟩,fun b=>⟨fun h=>⟨h,hnoD b⟩,fun h=>h.1⟩,rfl⟩
  ·rw[iU hno];exact FF.hr.drew
  ·rw[pD hno];exact LR.sim (Gv.drew _ _ _) hs.2.1
end
section
variable {P:Program} {G:Nat→Option Obj} {O:Ez}
theorem gC{w:World}{S:Nat→Prop}{ρ:Am}:∀{ps:List Nat} {vs:List AV} {cs:List Value} {tmps:List AV} {ct:Array Value},LR w S ρ vs cs→ps.length=vs.length→LR w S ρ tmps ct.toList→
 LR w S ρ (Ry tmps ps vs) ((ps.zip cs).foldl (fun t (p:Nat × Value)=>t.setIfInBounds p.1 p.2) ct).toList
 | [],vs,cs,tmps,ct,_,_,h=>by simpa [Ry]using h
 |p::ps,[],cs,tmps,ct,_,hl,_=>by simp at hl
 |p::ps,v::vs,cs,tmps,ct,hv,hl,h=>by
  obtain⟨c,cs',rfl,h1,h2⟩:=hv.cons_inv
  simp only[Ry,List.zip_cons_cons,List.foldl_cons]
  exact gC h2 (by simpa using hl) (by rw[Array.toList_setIfInBounds];exact h.set p h1)
theorem Gv.loop{w:World}{S:Nat→Prop}{ρ:Am}{b l:Nat}(hb:ρ b=.lp l)(hS:¬S l){r:Loop}(hr:w.heap[l]?=some (.loop r))(st:LoopState)(pe:Option Code):
 Gv w (Ev.setB w l (.loop { r with state:=st,pending:=pe })) S S ρ ρ where
 size:=by simp[Ev.setB]
 os:=rfl
 tape:=rfl
 output:=rfl
 keep:=fun b hb=>Bc (fun e=>hS (e▸hb))
 sub:=fun _ h=>h
 le:=ρ.le_refl
 other:=fun b' _ _ hn=>Bc (fun e=>hn b (by rw[e];exact hb))
 rng:=fun id _ co st sz h=>.inr ⟨id,co,st,sz,h⟩
 grow:=fun _ h=>.inl h
 objs:=fun b o' hb ho=>by rw[Bc (fun e=>by rw[e,hr]at hb;cases hb;simp[Vi]at ho)];exact hb
 loops:=fun b' r' hb'=>by
  by_cases e:b'=l
  ·subst e;rw[hr]at hb';cases hb'
   exact⟨st,pe,Vy hr⟩
  ·exact⟨r'.state,r'.pending,by rw[Bc e];exact hb'⟩
 lrng:=fun id _ h=>.inr ⟨id,h⟩
theorem HR.loop{w:World}{S:Nat→Prop}{ρ:Am}{g:HF}(H:HR w S ρ g){b l:Nat}(hb:ρ b=.lp l){r:Loop}(hr:w.heap[l]?=some (.loop r)){ps:List Nat}{asg body:Code}{tmps:List AV}{st:Qb}
 (hg:g b=some (.lp ps asg body tmps st)) {st':Qb} {x:LoopState} {y:Option Code} (hh:st'.holds x y):HR (Ev.setB w l (.loop { r with state:=x,pending:=y })) S ρ (Ji g b (.lp ps asg body tmps st')):=by
 have hs:=Gv.loop hb (H.lnS b l hb) hr x y
 refine⟨fun b' cb co st sz h=>?_,fun b' h=>?_,H.inj,fun b' h=>by have:=H.old b' h;simpa [Ev.setB]using this,fun b' l' h=>?_,H.linj,H.lnS⟩
 ·obtain⟨c,e,fz,fl,rows,h1,h2,h3,h4⟩:=H.at_ b' cb co st sz h
  have hne:b'≠b:=fun e=>by rw[e,hb]at h;cases h
  refine⟨c,e,fz,fl,rows,by rw[Bc (fun e=>by rw[e,hr]at h1;cases h1)];exact h1,h2,h3.sim hs,by simpa [Ji,hne]using h4⟩
 ·have hne:b'≠b:=fun e=>by rw[e,hb]at h;cases h
  simpa [Ji,hne]using H.dead b' h
 ·by_cases e:b'=b
  ·subst e
   rw[hb]at h;cases h
   obtain⟨r1,ps1,asg1,body1,tmps1,st1,h1,h2,h3⟩:=H.lps _ _ hb
   rw[hr]at h1;cases h1
   rw[hg]at h2;cases h2
   exact⟨_,ps,asg,body,tmps,st',Vy hr,by simp[Ji],h3.params,h3.assign,h3.body,LR.sim hs h3.tmps,hh⟩
  ·obtain⟨r1,ps1,asg1,body1,tmps1,st1,h1,h2,h3⟩:=H.lps _ _ h
   have hne:l'≠l:=fun q=>e (H.linj _ _ _ h (q▸hb))
   exact⟨r1,ps1,asg1,body1,tmps1,st1,by rw[Bc hne];exact h1,by simpa [Ji,e]using h2,h3.sim hs⟩
theorem FI.loop{h0:Aa}{w0:World}{S0:Nat→Prop}{ρ0:Am}{h:Aa}{w:World}{S:Nat→Prop}{ρ:Am}(F:FI h0 w0 S0 ρ0 h w S ρ){b l:Nat}(hb:ρ b=.lp l){r:Loop}(hr:w.heap[l]?=some (.loop r)){ps:List Nat}{asg body:Code}{tmps:List AV}{st:Qb}
 (hg:h[b]?=some (.lp ps asg body tmps st)) {st':Qb} {x:LoopState} {y:Option Code} (hh:st'.holds x y):
 FI h0 w0 S0 ρ0 (h.set b (.lp ps asg body tmps st')) (Ev.setB w l (.loop { r with state:=x,pending:=y })) S ρ:=by
 have hlt:b<h.length:=(adG.1 hg).1
 have hg':hf h b=some (.lp ps asg body tmps st):=hg
 have hes:Eg h [.put b (.lp ps asg body tmps st')]:=by
  refine⟨⟨hlt,trivial⟩,fun b' ⟨e,he,Fe⟩ _=>?_,fun b' hn=>?_⟩
  ·simp at he;subst he;simp[Ad.id]at Fe;subst Fe
   refine⟨⟨_,hg',rfl⟩,fun c hc=>?_⟩
   simp[Ap,Bm,Ji]at hc;subst hc;rfl
  ·simp only[Ap,Bm,Ji]
   rw[if_neg (fun e=>hn ⟨_,acR.2 rfl,e.symm⟩)]
 have:=F.step hes (w':=Ev.setB w l (.loop { r with state:=x,pending:=y })) (S':=S) (ρ':=ρ) (F.hr.loop hb hr hg' hh) (Gv.loop hb (F.hr.lnS b l hb) hr x y)
  (fun b' cb co st sz h' _=>⟨h',Bc (fun e=>by
    obtain⟨_,_,_,_,_,q,_⟩:=F.hr.at_ _ _ _ _ _ h'
    rw[e,hr]at q;cases q)⟩)
  (fun b'=>⟨fun h'=>⟨h',fun⟨e,he,Fe⟩=>by
    simp at he;subst he;simp[Ad.id]at Fe;subst Fe;rw[hb]at h';cases h'⟩,fun h'=>h'.1⟩)
 exact this
theorem WF.inRound{F:Fence}(h:WF F)(l:Nat):WF (F.inRound l):=by
 rcases h with rfl|⟨l',rfl⟩
 ·exact .inr ⟨l,rfl⟩
 ·exact .inr ⟨l,rfl⟩
theorem kU{h h':Aa}{b:Nat}{ok:Qb→Bool}{st:Qb}(hs:Qg h b ok st=some h'):∃ps asg body tmps st',h[b]?=some (.lp ps asg body tmps st')∧ok st'=true∧h'=h.set b (.lp ps asg body tmps st):=by
 unfold Qg at hs
 split at hs
 ·rename_i ps asg body tmps st' hb
  split at hs
  ·rename_i hok;simp at hs;exact⟨ps,asg,body,tmps,st',hb,hok,hs.symm⟩
  ·simp at hs
 ·simp at hs
theorem FI.lpAt{h0:Aa}{w0:World}{S0:Nat→Prop}{ρ0:Am}{h:Aa}{w:World}{S:Nat→Prop}{ρ:Am}(F:FI h0 w0 S0 ρ0 h w S ρ){b l:Nat}(hb:ρ0 b=.lp l){ps:List Nat}{asg body:Code}{tmps:List AV}{st:Qb}
 (hg:h[b]?=some (.lp ps asg body tmps st)):ρ b=.lp l∧∃r,w.heap[l]?=some (.loop r)∧st.holds r.state r.pending:=by
 have hρ:ρ b=.lp l:=by
  rcases F.sim.le b with q|q|q
  ·rw[hb]at q;cases q
  ·rw[q,hb]
  ·have:=F.hr.dead b q
   rw[show hf h b=some _ from hg]at this;cases this
 obtain⟨r,_,_,_,_,_,h1,h2,h3⟩:=F.hr.lps b l hρ
 rw[show hf h b=some _ from hg]at h2;cases h2
 exact⟨hρ,r,h1,h3.state⟩
theorem mK(hO:Hv P G O)(hL:dB P G O)(hD:bX P G O)(hR:Yi P G O){args:List AV}{h h':Aa}{out:Ea}(he:Oe O P args h=some (out,h')){w:World}{S:Nat→Prop}{ρ:Am}{cargs:Array Value}{l:Nat}
 (hI:Up G w S) (H:HR w S ρ (hf h)) (dom:∀b,h.length≤b→ρ b=.fresh) (all:∀b,b<h.length→ρ b≠.fresh) (hargs:LR w S ρ args (cargs.toList++[.func (.yield l) #[] #[]])):
 ∃fn tmps asg body,(Instr.yield l cargs).run P w=.ok (.round l fn tmps asg body) w∧∀F nn,WF F→RoundIn F nn P l fn tmps asg body w (Og h w S ρ out h'):=by
 unfold Oe at he
 split at he
 ·rename_i b vs hrev
  have ha:args=vs.reverse++[.yl b]:=by have:=congrArg List.reverse hrev;simpa using this
  subst ha
  have hlen:vs.reverse.length=cargs.toList.length:=by have:=hargs.1;simpa using this
  have hvs:LR w S ρ vs.reverse cargs.toList:=by have:=hargs.take vs.reverse.length;rw[auP,hlen,auP]at this<;>first|exact this|rfl
  have hyl:VR w S ρ (.yl b) (.func (.yield l) #[] #[]):=hargs.2 vs.reverse.length _ _ (by simp) (by rw[hlen];simp)
  split at he
  ·rename_i ps asg body tmps st0 hb
   have hρ:ρ b=.lp l:=by
    cases hyl with
    |yl q=>exact q
    |ylD q=>have:=H.dead b q;rw[show hf h b=some _ from hb]at this;cases this
   obtain⟨r,ps1,asg1,body1,tmps1,st1,h1,h2,h3⟩:=H.lps b l hρ
   rw[show hf h b=some _ from hb]at h2;cases h2
   split at he
   ·rename_i hps
    have hsz:cargs.size=r.params.size:=by
     have e1:=congrArg List.length h3.params
     simp at e1 hlen;omega
    refine⟨_,_,_,_,run_yield h1 hsz,fun F nn hF=>roundIn_of_wpIn (hF.fn _) ?_⟩
    rw[h3.assign,h3.body]
    obtain⟨⟨e1,s1⟩,hm1,he⟩:=abQ.1 he
    simp only at he
    have hT:TR w S ρ (Ry tmps ps vs.reverse) ((r.params.zip cargs).foldl (fun tmps (t,a)=>tmps.setIfInBounds t a) r.tmps):=by
     have:=gC (ps:=ps) hvs (by simpa using hps) h3.tmps
     rw[←as7,Array.toList_zip,h3.params]
     exact this
    have hs:Qz ⟨h,w,S,ρ,some l⟩ ⟨Ry tmps ps vs.reverse,h⟩ { tmps:=(r.params.zip cargs).foldl (fun tmps (t,a)=>tmps.setIfInBounds t a) r.tmps,defers:=[] } w S ρ:=
     ⟨FI.start H dom all,hT,fun d hd=>by simp at hd,List.Pairwise.nil,fun l' hl'=>by cases hl';exact⟨r,h1⟩⟩
    refine wpIn_mono (Vk (hF.inRound l) hO hL hD hR rfl hI Ly hm1 hs) (fun ex a1 w1 hk=>?_)
    obtain⟨m,_,e',s',hp,S1,ρ1,hs1,hex⟩:=hk
    simp only[Cj,adK.injEq,Prod.mk.injEq]at hp
    obtain⟨rfl,rfl⟩:=hp
    cases e' with
    |normal=>
     cases ex<;>simp[iR]at hex
     obtain⟨hb1,hset1,he⟩:=abQ.1 he
     obtain⟨⟨e2,s2⟩,hm2,he⟩:=abQ.1 he
     obtain⟨⟨rb,st2⟩,hre,he⟩:=abQ.1 he
     obtain⟨hb2,hset2,he⟩:=abQ.1 he
     simp only[adK.injEq,Prod.mk.injEq]at he
     obtain⟨rfl,rfl⟩:=he
     obtain⟨qs,qa,qb,qt,qst,g1,g2,rfl⟩:=kU hset1
     obtain⟨hρ1,r1,hr1,hst1⟩:=hs1.1.lpAt (show(⟨h,w,S,ρ,some l⟩:xT).ρ0 b=.lp l from hρ) g1
     have hready:qst=.ready:=by cases qst<;>simp[Qb.isReady]at g2;rfl
     subst hready
     refine⟨_,run_beginRound hr1 hst1.1,?_⟩
     have hFI1:=hs1.1.loop (st':=.busy) (x:=.busy) (y:=r1.pending) hρ1 hr1 g1 ⟨rfl,hst1.2⟩
     have hs2:Qz ⟨h,w,S,ρ,some l⟩ ⟨s'.tmps,s'.h.set b (.lp qs qa qb qt .busy)⟩ a1 (Ev.setB w1 l (.loop { r1 with state:=.busy,pending:=r1.pending })) S1 ρ1:=
      hs1.later hFI1 (Gv.loop hρ1 (hs1.1.hr.lnS b l hρ1) hr1 .busy r1.pending)
     refine wpIn_mono (Vk (hF.inRound l) hO hL hD hR rfl hI Ly hm2 hs2) (fun ex2 a2 w2 hk2=>?_)
     obtain⟨m',_,e3,s3,hp2,S2,ρ2,hs3,hex2⟩:=hk2
     simp only[Cj,adK.injEq,Prod.mk.injEq]at hp2
     obtain⟨rfl,rfl⟩:=hp2
     obtain⟨us,ua,ub,ut,ust,j1,j2,rfl⟩:=kU hset2
     obtain⟨hρ2,r2,hr2,hst2⟩:=hs3.1.lpAt (show(⟨h,w,S,ρ,some l⟩:xT).ρ0 b=.lp l from hρ) j1
     have last:∀(jump:Option Code),st2.holds (if jump.isNone then .ready else .done) jump→rb=jump.isNone→
      ∃v w',(Instr.endRound l jump).run P w2=.ok v w'∧Og h w S ρ (.ret (.bool rb)) (s3.h.set b (.lp us ua ub ut st2)) (.returned v) w':=fun jump hh hrb=>by
      refine⟨_,_,run_endRound jump hr2,?_⟩
      have hFI2:=hs3.1.loop hρ2 hr2 j1 hh
      subst hrb
      exact⟨_,S2,ρ2,⟨⟨_,rfl⟩,rfl⟩,hFI2.post (VR.bool _)⟩
     cases e3 with
     |normal=>
      cases ex2<;>simp[iR]at hex2
      simp[Pj]at hre
      obtain⟨rfl,rfl⟩:=hre
      exact last none ⟨rfl,rfl⟩ rfl
     |ret=>
      cases ex2<;>simp[iR]at hex2
      simp[Pj]at hre
      obtain⟨rfl,rfl⟩:=hre
      exact last (some .ret) ⟨rfl,rfl⟩ rfl
     |exit i=>
      cases ex2<;>simp[iR]at hex2
      subst hex2
      simp[Pj]at hre
      obtain⟨rfl,rfl⟩:=hre
      exact last (some (.exit i)) ⟨rfl,rfl⟩ rfl
     |pan v=>simp[Pj]at hre
    |_=>simp at he
   ·simp at he
  ·simp at he
 ·simp at he
end
section
variable {P:Program} {G:Nat→Option Obj} {O:Ez}
theorem HR.endLoop{w:World}{S:Nat→Prop}{ρ:Am}{g:HF}(H:HR w S ρ g){b l:Nat}(hb:ρ b=.lp l){r:Loop}(hr:w.heap[l]?=some (.loop r))(x:LoopState)(y:Option Code):
 HR (Ev.setB w l (.loop { r with state:=x,pending:=y })) S (ρ.put b .dead) (Ji g b .dead):=by
 have hs:=(Gv.loop hb (H.lnS b l hb) hr x y).trans (Gv.kill _ S ρ b)
 have off:∀b',∀z,z≠.dead→ρ.put b .dead b'=z→b'≠b∧ρ b'=z:=fun b' z hz h=>by
  by_cases e:b'=b
  ·subst e;rw[Am.put_same]at h;exact(hz h.symm).elim
  ·rw[Am.put_other _ _ e]at h;exact⟨e,h⟩
 refine⟨fun b' cb co st sz h=>?_,fun b' h=>?_,fun b1 b2 cb co st sz co' st' sz' h1 h2=>?_,fun b' h=>by have:=H.old b' h;simpa [Ev.setB]using this,fun b' l' h=>?_,fun b1 b2 l' h1 h2=>?_,fun b' l' h=>?_⟩
 ·obtain⟨hne,h⟩:=off b' _ (by simp) h
  obtain⟨c,e,fz,fl,rows,h1,h2,h3,h4⟩:=H.at_ b' cb co st sz h
  exact⟨c,e,fz,fl,rows,by rw[Bc (fun e=>by rw[e,hr]at h1;cases h1)];exact h1,h2,h3.sim hs,by simpa [Ji,hne]using h4⟩
 ·by_cases e:b'=b
  ·subst e;simp[Ji]
  ·rw[Am.put_other _ _ e]at h;simpa [Ji,e]using H.dead b' h
 ·exact H.inj _ _ _ _ _ _ _ _ _ (off b1 _ (by simp) h1).2 (off b2 _ (by simp) h2).2
 ·obtain⟨hne,h⟩:=off b' _ (by simp) h
  obtain⟨r1,ps1,asg1,body1,tmps1,st1,h1,h2,h3⟩:=H.lps _ _ h
  have hnl:l'≠l:=fun q=>hne (H.linj _ _ _ h (q▸hb))
  exact⟨r1,ps1,asg1,body1,tmps1,st1,by rw[Bc hnl];exact h1,by simpa [Ji,hne]using h2,h3.sim hs⟩
 ·exact H.linj _ _ _ (off b1 _ (by simp) h1).2 (off b2 _ (by simp) h2).2
 ·exact H.lnS _ _ (off b' _ (by simp) h).2
theorem FI.endLoop{h0:Aa}{w0:World}{S0:Nat→Prop}{ρ0:Am}{h:Aa}{w:World}{S:Nat→Prop}{ρ:Am}(F:FI h0 w0 S0 ρ0 h w S ρ){b l:Nat}(hb:ρ b=.lp l){r:Loop}(hr:w.heap[l]?=some (.loop r)){ps:List Nat}{asg body:Code}{tmps:List AV}{st:Qb}
 (hg:h[b]?=some (.lp ps asg body tmps st)) (x:LoopState) (y:Option Code):
 FI h0 w0 S0 ρ0 (h.set b .dead) (Ev.setB w l (.loop { r with state:=x,pending:=y })) S (ρ.put b .dead)∧Gv w (Ev.setB w l (.loop { r with state:=x,pending:=y })) S S ρ (ρ.put b .dead):=by
 have hlt:b<h.length:=(adG.1 hg).1
 have hg':hf h b=some (.lp ps asg body tmps st):=hg
 have hs:=(Gv.loop hb (F.hr.lnS b l hb) hr x y).trans (Gv.kill _ S ρ b)
 have hes:Eg h [.put b .dead]:=by
  refine⟨⟨hlt,trivial⟩,fun b' ⟨e,he,Fe⟩ _=>?_,fun b' hn=>?_⟩
  ·simp at he;subst he;simp[Ad.id]at Fe;subst Fe
   refine⟨⟨_,hg',rfl⟩,fun c hc=>?_⟩
   simp[Ap,Bm,Ji]at hc;subst hc;rfl
  ·simp only[Ap,Bm,Ji]
   rw[if_neg (fun e=>hn ⟨_,acR.2 rfl,e.symm⟩)]
 refine⟨F.step hes (w':=Ev.setB w l (.loop { r with state:=x,pending:=y })) (S':=S) (ρ':=ρ.put b .dead) (F.hr.endLoop hb hr x y) hs (fun b' cb co st sz h' _=>⟨?_,Bc (fun e=>?_)⟩) (fun b'=>⟨fun h'=>?_,fun h'=>?_⟩),hs⟩
 ·rw[Am.put_other _ _ (fun e=>by rw[e,hb]at h';cases h')];exact h'
 ·obtain⟨_,_,_,_,_,q,_⟩:=F.hr.at_ _ _ _ _ _ h'
  rw[e,hr]at q;cases q
 ·by_cases e:b'=b
  ·subst e;rw[Am.put_same]at h';cases h'
  ·rw[Am.put_other _ _ e]at h'
   exact⟨h',fun⟨x,hx,Fe⟩=>by simp at hx;subst hx;exact e Fe.symm⟩
 ·rw[Am.put_other _ _ (fun e=>by rw[e,hb]at h';cases h'.1)];exact h'.1
theorem Gv.extra{w:World}{S:Nat→Prop}{ρ:Am}(hS:∀b,S b→b<w.heap.size)(o:Obj):Gv w (w.alloc o) S S ρ ρ where
 size:=by simp
 os:=rfl
 tape:=rfl
 output:=rfl
 keep:=fun b hb=>Ec (hS b hb)
 sub:=fun _ h=>h
 le:=ρ.le_refl
 other:=fun b h _ _=>Ec h
 rng:=fun id _ co st sz h=>.inr ⟨id,co,st,sz,h⟩
 grow:=fun _ h=>.inl h
 objs:=fun b o' hb _=>by rw[Ec (adP.1 hb).1];exact hb
 loops:=fun b r hb=>⟨r.state,r.pending,by rw[Ec (adP.1 hb).1];exact hb⟩
 lrng:=fun id _ h=>.inr ⟨id,h⟩
theorem HR.extra{w:World}{S:Nat→Prop}{ρ:Am}{g:HF}(H:HR w S ρ g)(o:Obj):HR (w.alloc o) S ρ g where
 at_:=fun b cb co st sz h=>by
  obtain⟨c,e,fz,fl,rows,h1,h2,h3,h4⟩:=H.at_ b cb co st sz h
  exact⟨c,e,fz,fl,rows,by rw[Ec (adP.1 h1).1];exact h1,h2,h3.sim (Gv.extra H.old o),h4⟩
 dead:=H.dead
 inj:=H.inj
 old:=fun b h=>by have:=H.old b h;simp;omega
 lps:=fun b l h=>by
  obtain⟨r,ps,asg,body,tmps,st,h1,h2,h3⟩:=H.lps b l h
  exact⟨r,ps,asg,body,tmps,st,by rw[Ec (adP.1 h1).1];exact h1,h2,h3.sim (Gv.extra H.old o)⟩
 linj:=H.linj
 lnS:=H.lnS
theorem FI.extra{h0:Aa}{w0:World}{S0:Nat→Prop}{ρ0:Am}{h:Aa}{w:World}{S:Nat→Prop}{ρ:Am}(F:FI h0 w0 S0 ρ0 h w S ρ)(o:Obj):FI h0 w0 S0 ρ0 h (w.alloc o) S ρ:=
 F.step (Eg.nil h) (F.hr.extra o) (Gv.extra F.hr.old o) (fun b cb co st sz hb _=>⟨hb,Ec (F.hr.lt hb)⟩) (fun b=>⟨fun h=>⟨h,fun⟨e,he,_⟩=>by simp at he⟩,fun h=>h.1⟩)
theorem FI.newLoop{h0:Aa}{w0:World}{S0:Nat→Prop}{ρ0:Am}{h:Aa}{w:World}{S:Nat→Prop}{ρ:Am}(F:FI h0 w0 S0 ρ0 h w S ρ){tmps:List AV}{ct:Array Value}(T:TR w S ρ tmps ct)(fn:FuncId)(ps:Array Tmp)(asg body:Code)(D:Nat):
 FI h0 w0 S0 ρ0 (h++[.lp ps.toList asg body tmps .ready]) (w.alloc (.loop { state:=.ready,pending:=none,fn,tmps:=ct,params:=ps,assign:=asg,body,defers:=D })) S (ρ.put h.length (.lp w.heap.size))∧
 Gv w (w.alloc (.loop { state:=.ready,pending:=none,fn,tmps:=ct,params:=ps,assign:=asg,body,defers:=D })) S S ρ (ρ.put h.length (.lp w.heap.size)):=by
 have hfr:ρ h.length=.fresh:=F.dom _ (adJ _)
 generalize ho:Obj.loop { state:=.ready,pending:=none,fn,tmps:=ct,params:=ps,assign:=asg,body,defers:=D }=o
 have hs:Gv w (w.alloc o) S S ρ (ρ.put h.length (.lp w.heap.size)):=by
  have s:=Gv.extra (w:=w) (ρ:=ρ) F.hr.old o
  refine⟨s.size,s.os,s.tape,s.output,s.keep,s.sub,Am.le_put_fresh hfr _,s.other,fun id cb co st sz hi=>?_,s.grow,s.objs,s.loops,fun id l hi=>?_⟩
  ·by_cases e:id=h.length
   ·rw[e,Am.put_same]at hi;cases hi
   ·rw[Am.put_other _ _ e]at hi;exact .inr ⟨id,co,st,sz,hi⟩
  ·by_cases e:id=h.length
   ·rw[e,Am.put_same]at hi;cases hi;exact .inl (adJ _)
   ·rw[Am.put_other _ _ e]at hi;exact .inr ⟨id,hi⟩
 have H:=F.hr
 have lplt:∀b l,ρ b=.lp l→l<w.heap.size:=fun b l hb=>by
  obtain⟨_,_,_,_,_,_,h1,_⟩:=H.lps b l hb;exact(adP.1 h1).1
 have hH:HR (w.alloc o) S (ρ.put h.length (.lp w.heap.size)) (Ji (hf h) h.length (.lp ps.toList asg body tmps .ready)):=by
  refine⟨fun b cb co st sz hb=>?_,fun b hb=>?_,fun b1 b2 cb co st sz co' st' sz' h1 h2=>?_,fun b hb=>by have:=H.old b hb;simp;omega,fun b l hb=>?_,fun b1 b2 l h1 h2=>?_,fun b l hb hS=>?_⟩
  ·by_cases e:b=h.length
   ·rw[e,Am.put_same]at hb;cases hb
   ·rw[Am.put_other _ _ e]at hb
    obtain⟨c,e',fz,fl,rows,h1,h2,h3,h4⟩:=H.at_ b cb co st sz hb
    exact⟨c,e',fz,fl,rows,by rw[Ec (adP.1 h1).1];exact h1,h2,h3.sim hs,by simpa [Ji,e]using h4⟩
  ·by_cases e:b=h.length
   ·rw[e,Am.put_same]at hb;cases hb
   ·rw[Am.put_other _ _ e]at hb;simpa [Ji,e]using H.dead b hb
  ·have off:∀x c1 s1 z1,ρ.put h.length (.lp w.heap.size) x=.pl cb c1 s1 z1→ρ x=.pl cb c1 s1 z1:=fun x c1 s1 z1 hx=>by
    by_cases e:x=h.length
    ·rw[e,Am.put_same]at hx;cases hx
    ·rw[Am.put_other _ _ e]at hx;exact hx
   exact H.inj _ _ _ _ _ _ _ _ _ (off _ _ _ _ h1) (off _ _ _ _ h2)
  ·by_cases e:b=h.length
   ·subst e;rw[Am.put_same]at hb;cases hb
    rw[←ho]at hs ⊢
    exact⟨_,ps.toList,asg,body,tmps,.ready,eH,by simp[Ji],rfl,rfl,rfl,LR.sim hs T,rfl,rfl⟩
   ·rw[Am.put_other _ _ e]at hb
    obtain⟨r,ps',asg',body',tmps',st,h1,h2,h3⟩:=H.lps b l hb
    exact⟨r,ps',asg',body',tmps',st,by rw[Ec (adP.1 h1).1];exact h1,by simpa [Ji,e]using h2,h3.sim hs⟩
  ·by_cases e1:b1=h.length<;>by_cases e2:b2=h.length
   ·rw[e1,e2]
   ·rw[e1,Am.put_same]at h1;cases h1;rw[Am.put_other _ _ e2]at h2;have:=lplt _ _ h2;omega
   ·rw[e2,Am.put_same]at h2;cases h2;rw[Am.put_other _ _ e1]at h1;have:=lplt _ _ h1;omega
   ·rw[Am.put_other _ _ e1]at h1;rw[Am.put_other _ _ e2]at h2;exact H.linj _ _ _ h1 h2
  ·by_cases e:b=h.length
   ·rw[e,Am.put_same]at hb;cases hb;have:=H.old _ hS;omega
   ·rw[Am.put_other _ _ e]at hb;exact H.lnS _ _ hb hS
 refine⟨?_,hs⟩
 exact F.step (Eg.new h (.lp ps.toList asg body tmps .ready)) hH hs (fun b cb co st sz hb _=>⟨by rw[Am.put_other _ _ (fun e=>by rw[e,hfr]at hb;cases hb)];exact hb,Ec (H.lt hb)⟩)
  (fun b=>⟨fun hb=>by
    by_cases e:b=h.length
    ·rw[e,Am.put_same]at hb;cases hb
    ·rw[Am.put_other _ _ e]at hb;exact⟨hb,fun⟨x,hx,Fe⟩=>by simp at hx;subst hx;exact e Fe.symm⟩,fun⟨h1,h2⟩=>by
    rw[Am.put_other _ _ (show b≠h.length from fun e=>h2 ⟨_,acR.2 rfl,e.symm⟩)];exact h1⟩)
theorem lH(hO:Hv P G O){F:Fence}{nn:Nat}(hF:WF F){f:Operand}{ps:Array Nat}{asg body:Code}{s:St}{g:Nat}{fa fb:List AV}{d:Le}{v:AV}{ps':List Nat}{asg' body':Code}{tm':List AV}{st:Qb}{e:Ex}
 (hf:Af s.tmps f=some (.func (.func g) fa fb))
 (hc:Fz O (Ev.hf (s.h++[.lp ps.toList asg body s.tmps .ready])) (s.h.length+1) (Yj g (fa++[.yl s.h.length]++fb)) (fa++[.yl s.h.length]++fb)=some d) (hout:d.out=.ret v)
 (hlp:(Ar (s.h++[.lp ps.toList asg body s.tmps .ready]) d.es)[s.h.length]?=some (.lp ps' asg' body' tm' st)) (hex:Wt st=some e)
 {B:xT} {a:Act} {w:World} {S:Nat→Prop} {ρ:Am} (hI:Up G B.w0 B.S0) (hs:Qz B s a w S ρ) (fn:FuncId) (D:Nat):
 ∃dd args,(resolve a.eval (rangeCall f w.heap.size) 0).run P (w.alloc (.loop { state:=.ready,pending:=none,fn,tmps:=a.tmps,params:=ps,assign:=asg,body,defers:=D }))=.ok dd (w.alloc (.loop { state:=.ready,pending:=none,fn,tmps:=a.tmps,params:=ps,assign:=asg,body,defers:=D }))∧
  (invoke dd.target dd.args).run P (w.alloc (.loop { state:=.ready,pending:=none,fn,tmps:=a.tmps,params:=ps,assign:=asg,body,defers:=D }))=.ok (.enter g args) (w.alloc (.loop { state:=.ready,pending:=none,fn,tmps:=a.tmps,params:=ps,assign:=asg,body,defers:=D }))∧
  CallsIn F (nn-1) P g args (w.alloc (.loop { state:=.ready,pending:=none,fn,tmps:=a.tmps,params:=ps,assign:=asg,body,defers:=D }))
   (rangePost F nn P w.heap.size (uV B e ⟨s.tmps,(Ar (s.h++[.lp ps.toList asg body s.tmps .ready]) d.es).set s.h.length .dead⟩) a):=by
 obtain⟨hFI,hsim⟩:=hs.1.newLoop hs.2.1 fn ps asg body D
 generalize hw1:w.alloc (.loop { state:=.ready,pending:=none,fn,tmps:=a.tmps,params:=ps,assign:=asg,body,defers:=D })=w1 at *
 have hs1:=hs.later hFI hsim
 have hfr:=Ao hs1.2.1 hf
 generalize hfe:a.eval f=cf at hfr
 cases hfr with
 | @func _ _ _ _ va vc q1 q2 q3 q4=>
   have hlr:LR w1 S (ρ.put s.h.length (.lp w.heap.size)) (fa++[.yl s.h.length]++fb) (va++#[Value.func (.yield w.heap.size) #[] #[]]++vc).toList:=by
    have e1:(va++#[Value.func (.yield w.heap.size) #[] #[]]++vc).toList=va.toList++[Value.func (.yield w.heap.size) #[] #[]]++vc.toList:=by simp
    rw[e1]
    exact(LR.append (LR.append ⟨by simpa using q1,fun i x v hx hv=>q3 i x v hx (by simpa using hv)⟩ (.cons (.yl (Am.put_same _ _ _)) .nil)) ⟨by simpa using q2,fun i x v hx hv=>q4 i x v hx (by simpa using hv)⟩)
   obtain⟨henter,hcalls⟩:=fX hO hI hFI (kE _ _) hlr (by simpa using hc)
   refine⟨{ target:=.fn (.func g) vc,args:=va++#[Value.func (.yield w.heap.size) #[] #[]] },va++#[Value.func (.yield w.heap.size) #[] #[]]++vc,?_,?_,?_⟩
   ·simp only[resolve,rangeCall,hfe]
    try simp[go_sem]
   ·simp[invoke,go_sem,henter]
   ·refine hF.calls (hcalls.mono fun en w' ⟨cv,S',ρ',he,hv,hFI2,hsim2⟩=>?_)
    cases en with
    |panicked ch=>obtain⟨⟨x,hx⟩,_⟩:=he;rw[hout]at hx;cases hx
    |outgrown=>exact he.elim
    |returned rv=>
     have hρ':ρ' s.h.length=.lp w.heap.size:=by
      rcases hsim2.le s.h.length with q|q|q
      ·rw[Am.put_same]at q;cases q
      ·rw[q,Am.put_same]
      ·have:=hFI2.hr.dead _ q
       rw[show Ev.hf _ s.h.length=some _ from hlp]at this;cases this
     obtain⟨r,_,_,_,_,_,hr,h2,h3⟩:=hFI2.hr.lps _ _ hρ'
     rw[show Ev.hf _ s.h.length=some _ from hlp]at h2;cases h2
     have hnb:r.state≠.busy:=by
      cases st with
      |ready=>rw[h3.state.1];simp
      |busy=>simp[Wt]at hex
      |done c=>rw[h3.state.1];simp
     refine⟨r.pending,_,run_endLoop hr hnb,?_⟩
     obtain⟨hFI3,hsim3⟩:=hFI2.endLoop hρ' hr hlp .exhausted r.pending
     have hs3:=(hs1.later hFI2 hsim2).later hFI3 hsim3
     cases st with
     |ready=>
      rw[h3.state.2]at hs3 ⊢
      simp[Wt]at hex;subst hex
      exact⟨_,_,hs3,trivial⟩
     |busy=>simp[Wt]at hex
     |done c=>
      rw[h3.state.2]at hs3 ⊢
      cases c<;>simp[Wt]at hex<;>subst hex
      ·exact wpIn_exit ⟨_,_,hs3,rfl⟩
      ·exact wpIn_ret ⟨_,_,hs3,trivial⟩
theorem nB(hO:Hv P G O):Yi P G O:=by
 intro f ps asg body s g fa fb d v ps' asg' body' tm' st e hf hc hout hlp hex F nn hF B a w S ρ hB hI hs
 refine wpIn_rangeFunc (fun fn _=>?_)
 rcases hF with rfl|⟨l,rfl⟩
 ·have hs':Qz B s { a with defers:={ target:=.collected w.heap.size,args:=#[] }::a.defers } (w.alloc (.deferred (some []))) S ρ:=by
   have hm:=hs.later (hs.1.extra (.deferred (some []))) (Gv.extra hs.1.hr.old _)
   refine⟨hm.1,hm.2.1,fun d hd=>?_,?_,hm.2.2.2.2⟩
   ·rcases List.mem_cons.1 hd with rfl|hd
    ·exact⟨w.heap.size,rfl,eH,fun h=>Nat.lt_irrefl _ (hs.1.hr.old _ h),hs.1.sim.size⟩
    ·exact hm.2.2.1 d hd
   ·refine List.pairwise_cons.2 ⟨fun d hd=>?_,hs.2.2.2.1⟩
    obtain⟨r,rfl,k2,_⟩:=hs.2.2.1 d hd
    have:=(adP.1 k2).1
    simp[rG];omega
  obtain⟨dd,args,k1,k2,k3⟩:=lH (nn:=nn) hO (.inl rfl) hf hc hout hlp hex hI hs' fn w.heap.size
  have hsz:(w.alloc (.deferred (some []))).heap.size=w.heap.size+1:=by simp
  rw[hsz]at k1 k3
  exact⟨_,_,_,dd,_,g,args,_,run_enterLoop_outer _ _ _ _ _,k1,fun _ _=>trivial,k2,fun h=>by simp[Fence.wide]at h,k3⟩
 ·obtain⟨r₀,hr₀⟩:=hs.2.2.2.2 l hB
  obtain⟨dd,args,k1,k2,k3⟩:=lH (nn:=nn) hO (F:=Fence.wide.inRound l) (.inr ⟨l,rfl⟩) hf hc hout hlp hex hI hs fn r₀.defers
  exact⟨_,_,_,dd,_,g,args,_,run_enterLoop_inner hr₀ _ _ _ _ _,k1,fun _ _=>trivial,k2,fun h=>by simp[Fence.wide,Fence.inRound]at h,k3⟩
end
section
variable {P:Program} {G:Nat→Option Obj}
def qB(P:Program)(G:Nat→Option Obj)(pr:Of):Prop:=∀f p,pr f=some p→∀args h out h',p args h=some (out,h')→
 (∀args w,(callFunc f args).run P w=.ok (.enter f args) w)∧
 ∀w S ρ (cargs:Array Value),Up G w S→HR w S ρ (hf h)→(∀b,h.length≤b→ρ b=.fresh)→(∀b,b<h.length→ρ b≠.fresh)→LR w S ρ args cargs.toList→Calls P f cargs w (Og h w S ρ out h')
theorem xE(hN:abK P){pr:Of}(hP:qB P G pr)(hM:P.follows .mixedOrders=true):∀n,Hv P G (Vd P pr n)∧dB P G (Vd P pr n):=by
 intro n
 induction n using aoK with
 |_ n IH=>
  constructor
  ·cases n with
   |zero=>exact⟨fun f args h out h' hc=>by simp[Vd]at hc,fun args h out h' hc=>by simp[Vd]at hc,fun f args h out h' hc=>by simp[Vd]at hc⟩
   |succ n=>
    obtain⟨i1,i2⟩:=IH n (by omega)
    have i3:=qP hM i1
    have i4:=nB i1
    refine⟨fun f args h out h' hc=>?_,fun args h out h' hc w S ρ cargs l hI H dom all hargs=>?_,fun f args h out h' hc=>?_⟩
    ·simp only[Vd]at hc
     split at hc
     ·rename_i p hp;exact hP f p hp args h out h' hc
     ·exact acF hN i1 i2 i3 i4 hc
    ·simp only[Vd]at hc
     exact mK i1 i2 i3 i4 hc hI H dom all hargs
    ·simp only[Vd]at hc
     split at hc
     ·simp at hc
     ·exact ac5 hN i1 i2 i3 i4 hc
  ·intro c s e s' hl F nn hF B a w S ρ hB hG hs
   let I:Act→World→Prop:=fun a w=>∃m,m≤n∧∃s S ρ,(Vd P pr m).loop c s=some (e,s')∧Qz B s a w S ρ
   let Q:Act→World→Nat→Prop:=fun a w m=>m≤n∧∃s S ρ,(Vd P pr m).loop c s=some (e,s')∧Qz B s a w S ρ
   have least:∀p:Act × World,∃m,(∃k,Q p.1 p.2 k)→Q p.1 p.2 m∧∀k,Q p.1 p.2 k→m≤k:=fun p=>by
    by_cases hex:∃k,Q p.1 p.2 k
    ·obtain⟨k,hk⟩:=hex
     induction k using aoK with
     |_ k ih=>
      by_cases hlt:∃j,j<k∧Q p.1 p.2 j
      ·obtain⟨j,hj,hq⟩:=hlt;exact ih j hj hq
      ·exact⟨k,fun _=>⟨hk,fun j hq=>Nat.le_of_not_lt (fun h=>hlt ⟨j,h,hq⟩)⟩⟩
    ·exact⟨0,fun h=>(hex h).elim⟩
   obtain⟨f,hf⟩:=Classical.axiomOfChoice least
   have μle:∀a w m,Q a w m→f (a,w)≤m:=fun a w m hq=>(hf (a,w) ⟨m,hq⟩).2 m hq
   have μq:∀a w,(∃m,Q a w m)→Q a w (f (a,w)):=fun a w hex=>(hf (a,w) hex).1
   refine wpIn_loop I (fun a w=>f (a,w)) ⟨n,adJ _,s,S,ρ,hl,hs⟩ (fun a w hI=>?_)
   obtain⟨hm,s1,S1,ρ1,hl1,hs1⟩:=μq a w (by obtain⟨m,hm,rest⟩:=hI;exact⟨m,hm,rest⟩)
   generalize hmu:f (a,w)=m at hm hl1
   cases m with
   |zero=>simp[Vd]at hl1
   |succ m=>
    obtain⟨i1,i2⟩:=IH m (by omega)
    have i3:=qP hM i1
    have i4:=nB i1
    simp only[Vd,Yg]at hl1
    split at hl1
    ·rename_i e1 s2 hm1
     refine wpIn_mono (Vk hF i1 i2 i3 i4 hB hG Ly hm1 hs1) (fun ex a' w' hk=>?_)
     obtain⟨m',_,e2,s3,hp,S2,ρ2,hs2,hex⟩:=hk
     simp only[Cj,adK.injEq,Prod.mk.injEq]at hp
     obtain⟨rfl,rfl⟩:=hp
     cases e2 with
     |normal=>
      cases ex<;>simp[iR]at hex
      have hq:Q a' w' m:=⟨by omega,s3,S2,ρ2,hl1,hs2⟩
      refine⟨⟨m,hq⟩,?_⟩
      have:=μle a' w' m hq
      omega
     |exit i=>
      cases ex<;>simp[iR]at hex
      simp only[adK.injEq,Prod.mk.injEq]at hl1
      obtain⟨rfl,rfl⟩:=hl1
      exact⟨S2,ρ2,hs2,hex⟩
     |ret=>
      cases ex<;>simp[iR]at hex
      simp only[adK.injEq,Prod.mk.injEq]at hl1
      obtain⟨rfl,rfl⟩:=hl1
      exact⟨S2,ρ2,hs2,trivial⟩
     |pan v=>
      cases ex with
      |panic ch=>
       simp only[adK.injEq,Prod.mk.injEq]at hl1
       obtain⟨rfl,rfl⟩:=hl1
       exact⟨S2,ρ2,hs2,hex⟩
      |_=>simp[iR]at hex
    ·simp at hl1
end
def dG(p:Nat→Prop):Prop:=∃N,∀m,N≤m→p m
theorem dG.mono{p q:Nat→Prop}(h:dG p)(k:∀m,p m→q m):dG q:=by
 obtain⟨N,h⟩:=h;exact⟨N,fun m hm=>k m (h m hm)⟩
theorem dG.and{p q:Nat→Prop}(h:dG p)(k:dG q):dG fun m=>p m∧q m:=by
 obtain⟨N,h⟩:=h;obtain⟨M,k⟩:=k
 exact⟨max N M,fun m hm=>⟨h m (by omega),k m (by omega)⟩⟩
theorem dG.of{p:Nat→Prop}(h:∀m,p m):dG p:=⟨0,fun m _=>h m⟩
structure Cov(O:Ez)(F:Nat→Ez):Prop where
 call:∀{f a h r},O.call f a h=some r→dG fun m=>(F m).call f a h=some r
 loop:∀{c s r},O.loop c s=some r→dG fun m=>(F m).loop c s=some r
 md:∀m,(F m).md=O.md
section
variable {P:Program} {G:Nat→Option Obj} {O:Ez} {F:Nat→Ez}
theorem lN(hC:Cov O F){g:HF}{base:Nat}{f:Uk}{args:List AV}{d:Le}(h:Dy O g base f args=some d):dG fun m=>Dy (F m) g base f args=some d:=by
 unfold Dy at h
 simp only[abQ]at h
 obtain⟨vs,h1,⟨vs',cs,m⟩,h2,h⟩:=h
 simp only at h
 split at h
 ·simp at h
 ·rename_i hn
  simp only[abQ]at h
  obtain⟨⟨out,h'⟩,h3,h4⟩:=h
  refine(hC.call h3).mono fun n hn'=>?_
  unfold Dy
  simp only[h1,h2,acI,hn,hn']
  simpa using h4
theorem jB(hC:Cov O F){g:HF}{base:Nat}{f:Uk}{args:List AV}{d:Le}(h:Jx O g base f args=some d):dG fun m=>Jx (F m) g base f args=some d:=by
 unfold Jx at h
 obtain⟨h0,h1,h⟩:=abQ.1 h
 obtain⟨⟨out,h'⟩,h2,h⟩:=abQ.1 h
 refine(hC.call h2).mono fun n hn=>?_
 unfold Jx
 rw[h1,acI,hn]
 exact h
theorem Vr(hC:Cov O F){g:HF}{base:Nat}{f:Uk}{args:List AV}{d:Le}(h:Fz O g base f args=some d):dG fun m=>Fz (F m) g base f args=some d:=by
 cases f with
 |fn f=>exact lN hC h
 |round=>exact jB hC h
 |sh f=>
  cases hq:(kV args||O.md f)with
  |true=>
   simp only[Fz,hq,cond_true]at h
   refine(jB hC h).mono fun m hm=>?_
   simp only[Fz,hC.md m,hq,cond_true];exact hm
  |false=>
   simp only[Fz,hq,cond_false]at h
   refine(lN hC h).mono fun m hm=>?_
   simp only[Fz,hC.md m,hq,cond_false];exact hm
theorem Vo(hC:Cov O F){ops:List Oper}{gs:List Nat}{r:Ex × St}{k:St→Xm→R}{k':Nat→St→Xm→R}{kp:AV→St→R}{kp':Nat→AV→St→R}
 (hk:∀s log,k s log=some r→dG fun m=>k' m s log=some r) (hkp:∀v s,kp v s=some r→dG fun m=>kp' m v s=some r):
 ∀{rest:List Oper} {i:Nat} {s:St} {log:Xm},Fv O P ops gs rest i s log k kp=some r→dG fun m=>Fv (F m) P ops gs rest i s log (k' m) (kp' m)=some r
 | [],i,s,log,h=>hk s log h
 |o::rest,i,s,log,h=>by
  unfold Fv at h
  split at h
  ·simp at h
  ·rename_i hw
   unfold Fv
   simp only[hw]
   exact Vo hC hk hkp h
  ·rename_i hw
   unfold Fv
   simp only[hw]
   cases hkd:Gm o.op with
   |call c=>
    rw[hkd]at h
    simp only[abQ,Fp]at h ⊢
    obtain⟨⟨f,args⟩,h1,d,h2,h⟩:=h
    simp only at h2
    cases hout:d.out with
    |ret v=>
     rw[hout]at h
     exact((Vr hC h2).and (Vo hC hk hkp h)).mono fun m hm=>⟨_,h1,d,hm.1,by rw[hout];exact hm.2⟩
    |pan v=>
     rw[hout]at h
     exact((Vr hC h2).and (hkp _ _ h)).mono fun m hm=>⟨_,h1,d,hm.1,by rw[hout];exact hm.2⟩
   |panic x=>
    rw[hkd]at h
    simp only[abQ]at h ⊢
    obtain⟨v,h1,h⟩:=h
    split at h
    ·exact(hkp _ _ h).mono fun m hm=>⟨_,h1,hm⟩
    ·simp at h
   |other=>
    rw[hkd]at h
    simp only[abQ,Fp]at h ⊢
    obtain⟨d,h1,h⟩:=h
    exact(Vo hC hk hkp h).mono fun m hm=>⟨_,h1,hm⟩
theorem Ob{ev:Code→List Aj→St→R}{ev':Nat→Code→List Aj→St→R}{r:Ex × St}(he:∀c k s,ev c k s=some r→dG fun m=>ev' m c k s=some r):
 ∀{k:List Aj} {e:Ex} {s:St},Cj ev k e s=some r→dG fun m=>Cj (ev' m) k e s=some r
 | [],e,s,h=>.of fun _=>h
 | .code c::k,.normal,s,h=>he c k s h
 | .code c::k,.exit i,s,h=>Ob he (k:=k) h
 | .code c::k,.ret,s,h=>Ob he (k:=k) h
 | .code c::k,.pan v,s,h=>Ob he (k:=k) h
 | .blk id::k,.normal,s,h=>Ob he (k:=k) h
 | .blk id::k,.ret,s,h=>Ob he (k:=k) h
 | .blk id::k,.pan v,s,h=>Ob he (k:=k) h
 | .blk id::k,.exit i,s,h=>by
   simp only[Cj]at h ⊢
   cases hi:(i==id)with
   |true=>rw[hi]at h;exact Ob he (k:=k) h
   |false=>rw[hi]at h;exact Ob he (k:=k) h
theorem Np(hC:Cov O F){r:Ex × St}:∀(n:Nat) {c:Code} {k:List Aj} {s:St},Dc O P n c k s=some r→dG fun m=>Dc (F m) P n c k s=some r
 |0,c,k,s,h=>by simp[Dc]at h
 |n+1,c,k,s,h=>by
  have IH:∀c k s,Dc O P n c k s=some r→dG fun m=>Dc (F m) P n c k s=some r:=fun c k s h=>Np hC n h
  have pop:∀{k:List Aj} {e:Ex} {s:St},Cj (Dc O P n) k e s=some r→dG fun m=>Cj (Dc (F m) P n) k e s=some r:=fun h=>Ob IH h
  cases c with
  |skip=>exact pop h
  |label l=>exact pop h
  |region id ops draw=>
   cases draw with
   |false=>exact Vo hC (fun s log h=>pop h) (fun v s h=>pop h) h
   |true=>
    simp only[Dc,Ha]at h ⊢
    cases hd:Ov ops.toList with
    |false=>rw[hd]at h;simp at h
    |true=>
     rw[hd]at h
     refine Vo hC (fun s log h=>?_) (fun v s h=>by simp at h) h
     cases hdd:Eu ops.toList log with
     |false=>rw[hdd]at h;simp at h
     |true=>rw[hdd]at h;exact pop h
  |seq a b=>exact IH a _ s h
  |cond oc a b=>
   simp only[Dc,zO]at h ⊢
   cases he:Af s.tmps oc with
   |none=>rw[he]at h;simp at h
   |some v=>
    rw[he]at h
    cases v with
    |bool b=>
     cases b with
     |true=>exact IH a k s h
     |false=>exact IH _ k s h
    |_=>simp at h
  |block id c=>exact IH c _ s h
  |loop c=>
   simp only[Dc,Yg]at h ⊢
   cases hl:O.loop c s with
   |none=>rw[hl]at h;simp at h
   |some x=>
    obtain⟨e,s'⟩:=x
    rw[hl]at h
    exact((hC.loop hl).and (pop h)).mono fun m hm=>by rw[hm.1];exact hm.2
  |exit id=>exact pop h
  |ret=>exact pop h
  |rangeFunc f ps asg body=>
   simp only[Dc,abQ]at h ⊢
   obtain⟨fv,h1,h⟩:=h
   split at h
   ·obtain⟨d,h2,h⟩:=abQ.1 h
    have fin:∀{e:Ex} {s':St},Cj (Dc O P n) k e s'=some r→dG fun m=>Cj (Dc (F m) P n) k e s'=some r:=fun h=>pop h
    cases hout:d.out with
    |pan v=>rw[hout]at h;simp at h
    |ret v=>
     rw[hout]at h
     simp only at h
     split at h
     ·rename_i hb
      exact((Vr hC h2).and (fin h)).mono fun m hm=>⟨_,h1,by simp only[hm.1,acI,hout,hb];exact hm.2⟩
     ·rename_i hb
      exact((Vr hC h2).and (fin h)).mono fun m hm=>⟨_,h1,by simp only[hm.1,acI,hout,hb];exact hm.2⟩
     ·rename_i hb
      exact((Vr hC h2).and (fin h)).mono fun m hm=>⟨_,h1,by simp only[hm.1,acI,hout,hb];exact hm.2⟩
     ·simp at h
   ·simp at h
  |scope b=>exact IH b _ s h
  |goto l=>simp[Dc]at h
  |refuse s=>simp[Dc]at h
theorem yW(hC:Cov O F){f:Nat}{args:List AV}{h:Aa}{r:Ea × Aa}(he:evF O P f args h=some r):dG fun m=>evF (F m) P f args h=some r:=by
 unfold evF at he ⊢
 cases hfn:P.funcs[f]? with
 |none=>rw[hfn]at he;simp at he
 |some fn=>
  rw[hfn]at he
  simp only at he ⊢
  cases hb:fn.body with
  |none=>rw[hb]at he;simp at he
  |some c=>
   rw[hb]at he
   simp only at he ⊢
   obtain⟨x,h1,h2⟩:=abQ.1 he
   exact(Np hC _ h1).mono fun m hm=>by rw[hm];exact h2
theorem zQ(hC:Cov O F){f:Nat}{args:List AV}{h:Aa}{r:Ea × Aa}(he:evS O P f args h=some r):dG fun m=>evS (F m) P f args h=some r:=by
 unfold evS at he ⊢
 cases hfn:P.funcs[f]? with
 |none=>rw[hfn]at he;simp at he
 |some fn=>
  rw[hfn]at he
  simp only at he ⊢
  cases hb:fn.body with
  |none=>rw[hb]at he;simp at he
  |some c=>
   rw[hb]at he
   simp only at he ⊢
   obtain⟨x,h1,h2⟩:=abQ.1 he
   exact(Np hC _ h1).mono fun m hm=>by rw[hm];exact h2
theorem fH(hC:Cov O F){args:List AV}{h:Aa}{r:Ea × Aa}(he:Oe O P args h=some r):dG fun m=>Oe (F m) P args h=some r:=by
 unfold Oe at he
 split at he
 ·rename_i b vs hrev
  unfold Oe
  simp only[hrev]
  split at he
  ·rename_i ps asg body tmps st hb
   split at he
   ·rename_i hl
    obtain⟨⟨e,s⟩,h1,h2⟩:=abQ.1 he
    cases e with
    |normal=>
     simp only at h2
     obtain⟨x,h3,h4⟩:=abQ.1 h2
     obtain⟨y,h5,h6⟩:=abQ.1 h4
     exact((Np hC _ h1).and (Np hC _ h5)).mono fun m hm=>by
      rw[if_pos hl,hm.1];simp only[acI,h3];rw[hm.2];exact h6
    |_=>simp at h2
   ·simp at he
  ·simp at he
 ·simp at he
def bQ(P:Program)(pr:Of)(O:Ez):Ez where
 call:=fun f args h=>match f with
  | .round=>Oe O P args h
  | .sh f=>match pr f with
    |some _=>none
    |none=>evS O P f args h
  | .fn f=>match pr f with
    |some p=>p args h
    |none=>evF O P f args h
 loop:=fun c s=>Yg (Dc O P Ly c [] s) fun e s=>match e with
  | .normal=>O.loop c s
  |e=>some (e,s)
 md:=pr.md
variable {pr:Of}
theorem ajC(n:Nat):Vd P pr (n+1)=bQ P pr (Vd P pr n):=rfl
theorem oJ(hC:Cov O F):Cov (bQ P pr O) (fun m=>bQ P pr (F m)) where
 call:=fun {f a h r} hc=>by
  cases f with
  |round=>exact fH hC hc
  |fn f=>
   simp only[bQ]at hc ⊢
   cases hp:pr f with
   |some p=>rw[hp]at hc;exact .of fun _=>hc
   |none=>rw[hp]at hc;exact yW hC hc
  |sh f=>
   simp only[bQ]at hc ⊢
   cases hp:pr f with
   |some p=>rw[hp]at hc;simp at hc
   |none=>rw[hp]at hc;exact zQ hC hc
 loop:=fun {c s r} hl=>by
  simp only[bQ,Yg]at hl ⊢
  cases hm:Dc O P Ly c [] s with
  |none=>rw[hm]at hl;simp at hl
  |some x=>
   obtain⟨e,s'⟩:=x
   rw[hm]at hl
   cases e with
   |normal=>exact((Np hC _ hm).and (hC.loop hl)).mono fun m hm=>by rw[hm.1];exact hm.2
   |exit i=>exact(Np hC _ hm).mono fun m hm=>by rw[hm];exact hl
   |ret=>exact(Np hC _ hm).mono fun m hm=>by rw[hm];exact hl
   |pan v=>exact(Np hC _ hm).mono fun m hm=>by rw[hm];exact hl
 md:=fun _=>rfl
theorem dG.const{p:Prop}(h:dG fun _=>p):p:=by
 obtain⟨N,h⟩:=h;exact h N (adJ _)
theorem kS:∀(n:Nat),Cov (Vd P pr n) (fun _=>Vd P pr (n+1))
 |0=>⟨fun h=>by simp[Vd]at h,fun h=>by simp[Vd]at h,fun _=>rfl⟩
 |n+1=>oJ (kS n)
theorem fR{n m:Nat}(hnm:n≤m){f:Uk}{a:List AV}{h:Aa}{r:Ea × Aa}(hc:(Vd P pr n).call f a h=some r):(Vd P pr m).call f a h=some r:=by
 induction hnm with
 |refl=>exact hc
 |step _ ih=>exact((kS _).call ih).const
theorem gG{n m:Nat}(hnm:n≤m){c:Code}{s:St}{r:Ex × St}(hc:(Vd P pr n).loop c s=some r):(Vd P pr m).loop c s=some r:=by
 induction hnm with
 |refl=>exact hc
 |step _ ih=>exact((kS _).loop ih).const
open Classical in
noncomputable def lim{α:Type}(x:Nat→Option α):Option α:=if h:∃n r,x n=some r then x h.choose else none
theorem sA{α:Type}{x:Nat→Option α}(hm:∀n m r,n≤m→x n=some r→x m=some r){r:α}:lim x=some r↔∃n,x n=some r:=by
 unfold lim
 constructor
 ·intro h
  split at h
  ·exact⟨_,h⟩
  ·simp at h
 ·rintro⟨n,hn⟩
  have hex:∃n r,x n=some r:=⟨n,r,hn⟩
  rw[dif_pos hex]
  obtain⟨r',hr'⟩:=hex.choose_spec
  rcases Nat.le_total n hex.choose with h|h
  ·exact hm _ _ _ h hn
  ·have:=hm _ _ _ h hr'
   rw[hn]at this;cases this;exact hr'
noncomputable def om(P:Program)(pr:Of):Ez where
 call:=fun f a h=>lim fun n=>(Vd P pr n).call f a h
 loop:=fun c s=>lim fun n=>(Vd P pr n).loop c s
 md:=pr.md
theorem Uh{f:Uk}{a:List AV}{h:Aa}{r:Ea × Aa}:(om P pr).call f a h=some r↔∃n,(Vd P pr n).call f a h=some r:=sA fun _ _ _ h k=>fR h k
theorem pC{c:Code}{s:St}{r:Ex × St}:(om P pr).loop c s=some r↔∃n,(Vd P pr n).loop c s=some r:=sA fun _ _ _ h k=>gG h k
theorem eD:Cov (om P pr) (Vd P pr) where
 call:=fun h=>by obtain⟨n,hn⟩:=Uh.1 h;exact⟨n,fun m hm=>fR hm hn⟩
 loop:=fun h=>by obtain⟨n,hn⟩:=pC.1 h;exact⟨n,fun m hm=>gG hm hn⟩
 md:=fun m=>by cases m<;>rfl
theorem an8{f:Nat}(hp:pr f=none){a:List AV}{h:Aa}{r:Ea × Aa}(he:evF (om P pr) P f a h=some r):(om P pr).call (.fn f) a h=some r:=by
 obtain⟨N,hN⟩:=yW eD he
 refine Uh.2 ⟨N+1,?_⟩
 have:=hN N (adJ _)
 simp only[Vd,hp];exact this
theorem aoA{f:Nat}(hp:pr f=none){a:List AV}{h:Aa}{r:Ea × Aa}(he:evS (om P pr) P f a h=some r):(om P pr).call (.sh f) a h=some r:=by
 obtain⟨N,hN⟩:=zQ eD he
 refine Uh.2 ⟨N+1,?_⟩
 have:=hN N (adJ _)
 simp only[Vd,hp];exact this
theorem aj7{f:Nat}{p:List AV→Aa→Option (Ea × Aa)}(hp:pr f=some p){a:List AV}{h:Aa}{r:Ea × Aa}(he:p a h=some r):(om P pr).call (.fn f) a h=some r:=
 Uh.2 ⟨1,by simp only[Vd,hp];exact he⟩
theorem tX{a:List AV}{h:Aa}{r:Ea × Aa}(he:Oe (om P pr) P a h=some r):(om P pr).call .round a h=some r:=by
 obtain⟨N,hN⟩:=fH eD he
 exact Uh.2 ⟨N+1,hN N (adJ _)⟩
theorem Xc{c:Code}{s s':St}{r:Ex × St}(hb:Dc (om P pr) P Ly c [] s=some (.normal,s'))(hr:(om P pr).loop c s'=some r):(om P pr).loop c s=some r:=by
 obtain⟨N,hN⟩:=Np eD _ hb
 obtain⟨M,hM⟩:=eD.loop hr
 refine pC.2 ⟨max N M+1,?_⟩
 simp only[Vd,Yg,hN _ (Nat.le_max_left ..)]
 exact hM _ (Nat.le_max_right ..)
theorem Hm{c:Code}{s s':St}{e:Ex}(hb:Dc (om P pr) P Ly c [] s=some (e,s'))(he:e≠.normal):(om P pr).loop c s=some (e,s'):=by
 obtain⟨N,hN⟩:=Np eD _ hb
 refine pC.2 ⟨N+1,?_⟩
 have h1:=hN N (adJ _)
 simp only[Vd,Yg]
 rw[h1]
 cases e<;>first|rfl|exact(he rfl).elim
theorem avS(hN:abK P)(hP:qB P G pr)(hM:P.follows .mixedOrders=true):Hv P G (om P pr):=by
 refine⟨fun f args h out h' hc=>?_,fun args h out h' hc=>?_,fun f args h out h' hc=>?_⟩
 ·obtain⟨n,hn⟩:=Uh.1 hc
  exact(xE hN hP hM n).1.1 f args h out h' hn
 ·obtain⟨n,hn⟩:=Uh.1 hc
  exact(xE hN hP hM n).1.2.1 args h out h' hn
 ·obtain⟨n,hn⟩:=Uh.1 hc
  exact(xE hN hP hM n).1.2.2 f args h out h' hn
end
abbrev Tm:=Nat→AV
def mk(n:Nat)(t:Tm):List AV:=(aoO n).map t
def up(t:Tm)(d:Nat)(v:AV):Tm:=fun i=>if i=d then v else t i
def Dj(args:List AV):Tm:=fun i=>(args[i]?).getD (.tup [])
theorem atU(t:Tm)(d:Nat)(v:AV)(i:Nat):up t d v i=if i=d then v else t i:=aa9 rfl rfl
theorem af1(a:AV)(l:List AV):Dj (a::l) 0=a:=aa9 rfl rfl
theorem afR(a:AV)(l:List AV)(i:Nat):Dj (a::l) (i+1)=Dj l i:=by simp[Dj]
theorem amM(n:Nat)(t:Tm)(i:Nat):Hu (mk n t) i=if i<n then t i else .tup []:=by
 unfold Hu mk
 rw[ak9]
 split
 ·rename_i h;rw[atC h];rfl
 ·rename_i h;rw[alO (by simpa using h)];rfl
theorem aiB(n:Nat)(t:Tm)(d:Nat)(v:AV):(mk n t).set d v=mk n (up t d v):=by
 refine an1 fun i=>?_
 unfold mk up
 rw[ajX]
 simp only[List.length_map,List.length_range,ak9]
 by_cases hi:i<n
 ·rw[atC hi]
  by_cases hd:d=i
  ·subst hd;simp[hi]
  ·have:¬i=d:=fun e=>hd e.symm
   simp[hd,this]
 ·rw[alO (by simpa using hi)]
  by_cases hd:d=i
  ·subst hd;simp[hi]
  ·simp[hd]
theorem ar2(n:Nat)(t:Tm)(d:Nat)(v:AV):put (mk n t) (some d) v=mk n (up t d v):=aiB n t d v
theorem afE(l:List AV)(v:AV):put l none v=l:=aa9 rfl rfl
theorem aiS(n:Nat)(args:List AV)(h:args.length≤n):args++List.replicate (n-args.length) (.tup [])=mk n (Dj args):=by
 refine an1 fun i=>?_
 unfold mk Dj
 rw[ak9]
 by_cases hi:i<n
 ·rw[atC hi]
  by_cases hj:i<args.length
  ·rw[atI hj];simp[hj]
  ·rw[List.getElem?_append_right (by omega),List.getElem?_replicate,if_pos (by omega),adL,alO (by omega:args.length≤i)];rfl
 ·rw[alO (by simp;omega),alO (by simpa using hi)];rfl
section
variable {P:Program} {O:Ez}
def Ej(O:Ez)(P:Program)(t:List AV)(h:Aa)(op:Op):Option (Ea × List Ad):=
 match Gm op with
 | .call c=>(callee t c).bind fun(f,args)=>(Fz O (hf h) h.length f args).map fun d=>(d.out,d.es)
 | .panic x=>(Af t x).bind fun v=>match v with
   | .iface _ _=>some (.pan v,[])
   |_=>none
 | .other=>(exec P (hf h) h.length t op).map fun d=>(.ret d.v,d.es)
def rg(O:Ez)(P:Program)(n:Nat)(k:List Aj)(ops rest:List Oper)(i:Nat)(t:List AV)(h:Aa):R:=
 Fv O P ops (Uw ops) rest i ⟨t,h⟩ [] (fun s _=>Cj (Dc O P n) k .normal s) (fun v s=>Cj (Dc O P n) k (.pan v) s)
def rgD(O:Ez)(P:Program)(n:Nat)(k:List Aj)(ops rest:List Oper)(i:Nat)(d:Option Nat)(x:Option (Ea × List Ad))(t:List AV)(h:Aa):R:=
 match x with
 |some (.ret v,es)=>rg O P n k ops rest i (put t d v) (Ar h es)
 |some (.pan v,es)=>Cj (Dc O P n) k (.pan v) ⟨t,Ar h es⟩
 |none=>none
theorem Qy{ops:List Oper}{gs:List Nat}{k:St→R}{kp:AV→St→R}:∀{rest:List Oper} {i:Nat} {s:St} (log log':Xm),Fv O P ops gs rest i s log (fun s _=>k s) kp=Fv O P ops gs rest i s log' (fun s _=>k s) kp
 | [],i,s,log,log'=>rfl
 |o::rest,i,s,log,log'=>by
  unfold Fv
  split
  ·rfl
  ·exact Qy _ _
  ·split
   ·congr 1;funext x
    obtain⟨f,args⟩:=x
    simp only
    congr 1;funext d
    split
    ·simp only[Fp];exact Qy _ _
    ·rfl
   ·rfl
   ·congr 1;funext d
    simp only[Fp];exact Qy _ _
theorem awN(n:Nat)(k:List Aj)(ops rest:List Oper)(i:Nat)(t:List AV)(h:Aa)(o:Oper)(hw:Fb ops t o=some true):
 rg O P n k ops (o::rest) i t h=rgD O P n k ops rest (i+1) o.dst (Ej O P t h o.op) t h:=by
 unfold rg Fv
 simp only[hw]
 unfold Ej
 cases hk:Gm o.op with
 |call c=>
  simp only
  cases hc:callee t c with
  |none=>rfl
  |some x=>
   obtain⟨f,args⟩:=x
   cases ha:Fz O (hf h) h.length f args with
   |none=>simp[rgD,ha]
   |some d=>
    simp only[acI,ha,adL,rgD]
    cases ho:d.out with
    |ret v=>simp only[Fp];exact Qy _ _
    |pan v=>rfl
 |panic x=>
  simp only
  cases he:Af t x with
  |none=>rfl
  |some v=>cases v<;>simp[rgD,Ar]
 |other=>
  simp only
  cases he:exec P (hf h) h.length t o.op with
  |none=>simp[rgD]
  |some d=>simp only[acI,adL,rgD,Fp];exact Qy _ _
theorem anH(n:Nat)(k:List Aj)(ops rest:List Oper)(i:Nat)(t:List AV)(h:Aa)(o:Oper)(hw:Fb ops t o=some false):
 rg O P n k ops (o::rest) i t h=rg O P n k ops rest (i+1) (put t o.dst (.tup [])) h:=by
 unfold rg
 conv=>lhs;unfold Fv
 simp only[hw]
 exact Qy _ _
def cdK(O:Ez)(P:Program)(n:Nat)(a b:Code)(k:List Aj)(v:Option AV)(s:St):R:=
 match v with
 |some (.bool true)=>Dc O P n a k s
 |some (.bool false)=>Dc O P n b k s
 |_=>none
theorem af0(n:Nat)(a b:Code)(k:List Aj)(s:St):cdK O P n a b k (some (.bool true)) s=Dc O P n a k s:=aa9 rfl rfl
theorem aaZ(n:Nat)(a b:Code)(k:List Aj)(s:St):cdK O P n a b k (some (.bool false)) s=Dc O P n b k s:=aa9 rfl rfl
def lpK(O:Ez)(P:Program)(n:Nat)(k:List Aj)(x:R):R:=
 match x with
 |some (e,s)=>Cj (Dc O P n) k e s
 |none=>none
theorem ahI(n:Nat)(k:List Aj)(s:St):Dc O P (n+1) .skip k s=Cj (Dc O P n) k .normal s:=aa9 rfl rfl
theorem anT(n:Nat)(a b:Code)(k:List Aj)(s:St):Dc O P (n+1) (.seq a b) k s=Dc O P n a (.code b::k) s:=aa9 rfl rfl
theorem ajN(n:Nat)(c:Operand)(a b:Code)(k:List Aj)(t:List AV)(h:Aa):Dc O P (n+1) (.cond c a b) k ⟨t,h⟩=cdK O P n a b k (Af t c) ⟨t,h⟩:=by
 simp only[Dc,zO,cdK]
 cases Af t c with
 |none=>rfl
 |some v=>
  cases v with
  |bool g=>cases g<;>rfl
  |_=>rfl
theorem aaN(n:Nat)(id:Nat)(c:Code)(k:List Aj)(s:St):Dc O P (n+1) (.block id c) k s=Dc O P n c (.blk id::k) s:=aa9 rfl rfl
theorem aiC(n:Nat)(c:Code)(k:List Aj)(s:St):Dc O P (n+1) (.loop c) k s=lpK O P n k (O.loop c s):=by
 simp only[Dc,Yg,lpK]
 cases O.loop c s<;>rfl
theorem ah9(n:Nat)(id:Nat)(k:List Aj)(s:St):Dc O P (n+1) (.exit id) k s=Cj (Dc O P n) k (.exit id) s:=aa9 rfl rfl
theorem al2(n:Nat)(k:List Aj)(s:St):Dc O P (n+1) .ret k s=Cj (Dc O P n) k .ret s:=aa9 rfl rfl
theorem aiG(ev:Code→List Aj→St→R)(e:Ex)(s:St):Cj ev [] e s=some (e,s):=aa9 rfl rfl
theorem ab1(n:Nat)(c:Code)(k:List Aj)(s:St):Cj (Dc O P n) (.code c::k) .normal s=Dc O P n c k s:=aa9 rfl rfl
theorem lD(ev:Code→List Aj→St→R)(c:Code)(k:List Aj)(i:Nat)(s:St):Cj ev (.code c::k) (.exit i) s=Cj ev k (.exit i) s:=aa9 rfl rfl
theorem mG(ev:Code→List Aj→St→R)(c:Code)(k:List Aj)(s:St):Cj ev (.code c::k) .ret s=Cj ev k .ret s:=aa9 rfl rfl
theorem ajV(ev:Code→List Aj→St→R)(id:Nat)(k:List Aj)(s:St):Cj ev (.blk id::k) .normal s=Cj ev k .normal s:=aa9 rfl rfl
theorem oU(ev:Code→List Aj→St→R)(id:Nat)(k:List Aj)(s:St):Cj ev (.blk id::k) .ret s=Cj ev k .ret s:=aa9 rfl rfl
theorem mF(ev:Code→List Aj→St→R)(id i:Nat)(k:List Aj)(s:St):Cj ev (.blk id::k) (.exit i) s=if i=id then Cj ev k .normal s else Cj ev k (.exit i) s:=by
 simp only[Cj]
 by_cases h:i=id
 ·subst h;simp
 ·have:(i==id)=false:=by simpa using h
  rw[this];simp[h]
def fnK(P:Program)(k:Nat)(rs:List ResultVar)(x:R):Option (Ea × Aa):=
 match x with
 |some (.normal,s)|some (.ret,s)=>(Rz P s rs).bind fun vs=>(Qd k (Ru vs) s.h).map fun(v,h)=>(.ret v,h)
 |some (.pan v,s)=>(Qd k v s.h).map fun(v,h)=>(.pan v,h)
 |_=>none
def ad6(k:Nat)(vs:Option (List AV))(h:Aa):Option (Ea × Aa):=vs.bind fun vs=>(Qd k (Ru vs) h).map fun(v,h)=>(.ret v,h)
theorem aoS{f:Nat}{fn:Func}(hf:P.funcs[f]?=some fn){c:Code}(hb:fn.body=some c){args:List AV}(hl:args.length≤fn.ntmps)(h:Aa):
 evF O P f args h=fnK P h.length fn.results.toList (Dc O P Ly c [] ⟨mk fn.ntmps (Dj args),h⟩):=by
 unfold evF
 simp only[hf,hb]
 rw[aiS _ _ hl]
 cases Dc O P Ly c [] ⟨mk fn.ntmps (Dj args),h⟩with
 |none=>rfl
 |some x=>
  obtain⟨e,s⟩:=x
  cases e<;>rfl
structure CO where
 dst:Option Nat
 op:Op
 g:Option (Option Nat × Bool)
def Ic(ops:List Oper)(o:Oper):CO:=⟨o.dst,o.op,o.guard.map fun(j,w)=>((ops[j]?).bind (·.dst),w)⟩
def rc(O:Ez)(P:Program)(n:Nat)(k:List Aj):List CO→List AV→Aa→R
 | [],t,h=>Cj (Dc O P n) k .normal ⟨t,h⟩
 |c::cs,t,h=>
  match(match c.g with
   |none=>some true
   |some (none,_)=>none
   |some (some q,w)=>match Hu t q with
    | .bool b=>some (b==w)
    | .tup []=>some false
    |_=>none)with
  |none=>none
  |some false=>rc O P n k cs (put t c.dst (.tup [])) h
  |some true=>match Ej O P t h c.op with
   |some (.ret v,es)=>rc O P n k cs (put t c.dst v) (Ar h es)
   |some (.pan v,es)=>Cj (Dc O P n) k (.pan v) ⟨t,Ar h es⟩
   |none=>none
def rcD(O:Ez)(P:Program)(n:Nat)(k:List Aj)(d:Option Nat)(cs:List CO)(x:Option (Ea × List Ad))(t:List AV)(h:Aa):R:=
 match x with
 |some (.ret v,es)=>rc O P n k cs (put t d v) (Ar h es)
 |some (.pan v,es)=>Cj (Dc O P n) k (.pan v) ⟨t,Ar h es⟩
 |none=>none
def rcG(O:Ez)(P:Program)(n:Nat)(k:List Aj)(d:Option Nat)(op:Op)(cs:List CO)(v:AV)(w:Bool)(t:List AV)(h:Aa):R:=
 match v with
 | .bool b=>match b==w with
   |true=>rcD O P n k d cs (Ej O P t h op) t h
   |false=>rc O P n k cs (put t d (.tup [])) h
 | .tup []=>rc O P n k cs (put t d (.tup [])) h
 |_=>none
theorem ahO{n:Nat}{k:List Aj}{ops:List Oper}:∀{rest:List Oper} {i:Nat} {t:List AV} {h:Aa},rg O P n k ops rest i t h=rc O P n k (rest.map (Ic ops)) t h
 | [],i,t,h=>rfl
 |o::rest,i,t,h=>by
  simp only[List.map_cons]
  have hw:(match(Ic ops o).g with
   |none=>some true
   |some (none,_)=>none
   |some (some q,w)=>match Hu t q with
    | .bool b=>some (b==w)
    | .tup []=>some false
    |_=>none)=Fb ops t o:=by
   unfold Ic Fb
   cases o.guard with
   |none=>rfl
   |some x=>
    obtain⟨j,w⟩:=x
    simp only[adL]
    cases(ops[j]?).bind (·.dst)with
    |none=>rfl
    |some q=>
     simp only
     cases Hu t q<;>first|rfl|(rename_i l;cases l<;>rfl)
  unfold rc
  rw[hw]
  cases hwa:Fb ops t o with
  |none=>unfold rg Fv;simp only[hwa]
  |some b=>
   cases b with
   |false=>rw[anH n k ops rest i t h o hwa];exact ahO
   |true=>
    rw[awN n k ops rest i t h o hwa]
    show rgD O P n k ops rest (i+1) o.dst (Ej O P t h o.op) t h=match Ej O P t h o.op with
     |some (.ret v,es)=>rc O P n k (rest.map (Ic ops)) (put t o.dst v) (Ar h es)
     |some (.pan v,es)=>Cj (Dc O P n) k (.pan v) ⟨t,Ar h es⟩
     |none=>none
    cases Ej O P t h o.op with
    |none=>rfl
    |some x=>
     obtain⟨out,es⟩:=x
     cases out with
     |ret v=>exact ahO
     |pan v=>rfl
theorem ar8(n:Nat)(k:List Aj)(t:List AV)(h:Aa):rc O P n k [] t h=Cj (Dc O P n) k .normal ⟨t,h⟩:=aa9 rfl rfl
theorem av6(n:Nat)(k:List Aj)(d:Option Nat)(op:Op)(cs:List CO)(t:List AV)(h:Aa):rc O P n k (⟨d,op,none⟩::cs) t h=rcD O P n k d cs (Ej O P t h op) t h:=aa9 rfl rfl
theorem awJ(n:Nat)(k:List Aj)(d:Option Nat)(op:Op)(cs:List CO)(q:Nat)(w:Bool)(t:List AV)(h:Aa):rc O P n k (⟨d,op,some (some q,w)⟩::cs) t h=rcG O P n k d op cs (Hu t q) w t h:=by
 unfold rc rcG
 simp only
 cases Hu t q with
 |bool b=>simp only;cases(b==w)<;>rfl
 |tup l=>cases l<;>rfl
 |_=>rfl
theorem amA(n:Nat)(k:List Aj)(d:Option Nat)(cs:List CO)(v:AV)(es:List Ad)(t:List AV)(h:Aa):rcD O P n k d cs (some (.ret v,es)) t h=rc O P n k cs (put t d v) (Ar h es):=aa9 rfl rfl
theorem ar1(n:Nat)(k:List Aj)(d:Option Nat)(op:Op)(cs:List CO)(t:List AV)(h:Aa):rcG O P n k d op cs (.bool true) true t h=rcD O P n k d cs (Ej O P t h op) t h:=aa9 rfl rfl
theorem asH(n:Nat)(k:List Aj)(d:Option Nat)(op:Op)(cs:List CO)(t:List AV)(h:Aa):rcG O P n k d op cs (.bool false) false t h=rcD O P n k d cs (Ej O P t h op) t h:=aa9 rfl rfl
theorem asB(n:Nat)(k:List Aj)(d:Option Nat)(op:Op)(cs:List CO)(t:List AV)(h:Aa):rcG O P n k d op cs (.bool true) false t h=rc O P n k cs (put t d (.tup [])) h:=aa9 rfl rfl
theorem arG(n:Nat)(k:List Aj)(d:Option Nat)(op:Op)(cs:List CO)(t:List AV)(h:Aa):rcG O P n k d op cs (.bool false) true t h=rc O P n k cs (put t d (.tup [])) h:=aa9 rfl rfl
theorem ao2(n:Nat)(k:List Aj)(d:Option Nat)(op:Op)(cs:List CO)(w:Bool)(t:List AV)(h:Aa):rcG O P n k d op cs (.tup []) w t h=rc O P n k cs (put t d (.tup [])) h:=aa9 rfl rfl
theorem ao8(n:Nat)(id:Nat)(ops:Array Oper)(k:List Aj)(t:List AV)(h:Aa):Dc O P (n+1) (.region id ops false) k ⟨t,h⟩=rc O P n k (ops.toList.map (Ic ops.toList)) t h:=ahO
end
section
variable {P:Program} {O:Ez}
abbrev OE:=Option (Ea × List Ad)
def r1(x:Option AV):OE:=x.map fun v=>(.ret v,[])
theorem bO(v:AV):r1 (some v)=some (.ret v,[]):=aa9 rfl rfl
def rD(x:Option Jl):OE:=x.map fun d=>(.ret d.v,d.es)
theorem amX(v:AV)(es:List Ad)(fs:List Dp):rD (some ⟨v,es,fs⟩)=some (.ret v,es):=aa9 rfl rfl
theorem Ge(x:Option AV):rD (Gy x)=r1 x:=by cases x<;>rfl
theorem Di(t:List AV)(h:Aa)(op:Op)(hk:Gm op=.other):Ej O P t h op=rD (exec P (hf h) h.length t op):=by unfold Ej;rw[hk];rfl
theorem aj8(t:List AV)(h:Aa)(x:Operand):Ej O P t h (.move x)=r1 (Af t x):=by rw[Di _ _ _ rfl];exact Ge _
theorem aaF(t:List AV)(h:Aa)(x:Operand):Ej O P t h (.assign x)=r1 (Af t x):=by rw[Di _ _ _ rfl];exact Ge _
def pk(c a b:Option AV):OE:=
 match c,a,b with
 |some (.bool true),some a,some _=>some (.ret a,[])
 |some (.bool false),some _,some b=>some (.ret b,[])
 |_,_,_=>none
theorem alS(a b:AV):pk (some (.bool true)) (some a) (some b)=some (.ret a,[]):=aa9 rfl rfl
theorem ah7(a b:AV):pk (some (.bool false)) (some a) (some b)=some (.ret b,[]):=aa9 rfl rfl
theorem akP(t:List AV)(h:Aa)(c a b:Operand):Ej O P t h (.pick c a b)=pk (Af t c) (Af t a) (Af t b):=by
 rw[Di _ _ _ rfl]
 simp only[exec]
 cases Af t c with
 |none=>rfl
 |some v=>
  cases Af t a with
  |none=>cases v<;>first|rfl|(rename_i q;cases q<;>rfl)
  |some x=>
   cases Af t b with
   |none=>cases v<;>first|rfl|(rename_i q;cases q<;>rfl)
   |some y=>cases v<;>first|rfl|(rename_i q;cases q<;>rfl)
def bn(P:Program)(op:BinOp)(ty:TypeId)(a b:Option AV):Option AV:=a.bind fun a=>b.bind fun b=>Js P op ty a b
theorem ak6(op:BinOp)(ty:TypeId)(a b:AV):bn P op ty (some a) (some b)=Js P op ty a b:=aa9 rfl rfl
theorem arE(t:List AV)(h:Aa)(op:BinOp)(ty:TypeId)(x y:Operand)(u:TypeId):Ej O P t h (.binOp op ty x y u)=r1 (bn P op ty (Af t x) (Af t y)):=by
 rw[Di _ _ _ rfl]
 simp only[exec,bn]
 cases Af t x with
 |none=>rfl
 |some a=>
  cases Af t y with
  |none=>rfl
  |some b=>exact Ge _
section bins
variable (P:Program) (ty:TypeId) (k:IntKind) (a b:Int)
theorem avY:Js P .add ty (.int k a) (.int k b)=some (.int k (k.wrap (a+b))):=by simp[Js,Ko]
theorem av8:Js P .sub ty (.int k a) (.int k b)=some (.int k (k.wrap (a-b))):=by simp[Js,Ko]
theorem avH:Js P .mul ty (.int k a) (.int k b)=some (.int k (k.wrap (a*b))):=by simp[Js,Ko]
theorem av0:Js P .quo ty (.int k a) (.int k b)=if b=0 then none else some (.int k (k.wrap (a.tdiv b))):=by simp[Js,Ko]
theorem atP:Js P .eql ty (.int k a) (.int k b)=some (.bool (a==b)):=by simp[Js,Ko]
theorem auX:Js P .neq ty (.int k a) (.int k b)=some (.bool !(a==b)):=by simp[Js,Ko,bne]
theorem atQ:Js P .lss ty (.int k a) (.int k b)=some (.bool (decide (a<b))):=by simp[Js,Ko]
theorem awP:Js P .leq ty (.int k a) (.int k b)=some (.bool (decide (a≤b))):=by simp[Js,Ko]
theorem avN:Js P .gtr ty (.int k a) (.int k b)=some (.bool (decide (b<a))):=by simp[Js,Ko]
theorem auY:Js P .geq ty (.int k a) (.int k b)=some (.bool (decide (b≤a))):=by simp[Js,Ko]
end bins
theorem auC(t:List AV)(h:Aa)(op:UnOp)(ty:TypeId)(x:Operand):Ej O P t h (.unOp op ty x)=r1 ((Af t x).bind (aUn op)):=by
 rw[Di _ _ _ rfl]
 simp only[exec]
 cases Af t x with
 |none=>rfl
 |some a=>exact Ge _
def Nl(c:Option CB)(r:Nat):Option (List AV):=
 match c with
 |some (.live _ _ _ rows)=>rows[r]?
 |some (.frz _ _ rows)=>rows[r]?
 |_=>none
theorem abJ(st:Nat)(fl w:Bool)(rows:List (List AV))(r:Nat):Nl (some (.live st fl w rows)) r=rows[r]?:=aa9 rfl rfl
theorem sD(h:Aa)(b r:Nat):Zz (hf h) b r=Nl (h[b]?) r:=by
 unfold Zz Nl hf
 cases h[b]? with
 |none=>rfl
 |some c=>cases c<;>rfl
def ldC(cs:Option (List AV))(o:Nat):OE:=cs.bind fun cs=>r1 (cs[o]?)
def yV(cs:Option (List AV))(o n:Nat):OE:=cs.bind fun cs=>if o+n≤cs.length then some (.ret (.agg ((cs.drop o).take n)),[])else none
theorem afY(cs:List AV)(o:Nat):ldC (some cs) o=r1 (cs[o]?):=aa9 rfl rfl
theorem afU(cs:List AV)(o n:Nat):yV (some cs) o n=if o+n≤cs.length then some (.ret (.agg ((cs.drop o).take n)),[])else none:=aa9 rfl rfl
def ld(P:Program)(ty:TypeId)(h:Aa)(p:Option AV):OE:=p.bind fun p=>rD (Pm P (hf h) ty p)
theorem akR(t:List AV)(h:Aa)(ty:TypeId)(a:Operand):Ej O P t h (.load ty a)=ld P ty h (Af t a):=by
 rw[Di _ _ _ rfl]
 simp only[exec,ld]
 cases Af t a<;>rfl
def at6(P:Program)(ty:TypeId):Prop:=hQ P ty=some false∧∃n,Ve P ty=some n
def au3(P:Program)(ty:TypeId)(n:Nat):Prop:=hQ P ty=some true∧Ve P ty=some n
theorem aH{ty:TypeId}(hs:at6 P ty)(h:Aa)(b r o:Nat):ld P ty h (some (.ptr b r o))=ldC (Nl (h[b]?) r) o:=by
 obtain⟨h1,n,h2⟩:=hs
 simp only[ld,acI,Pm,h1,h2,sD]
 cases Nl (h[b]?) r with
 |none=>rfl
 |some cs=>simp only[acI,ldC];cases cs[o]?<;>rfl
theorem ahB{ty:TypeId}(hs:at6 P ty)(h:Aa)(c:AV)(cs:List AV):ld P ty h (some (.iptr (c::cs)))=some (.ret c,[]):=by
 obtain⟨h1,n,h2⟩:=hs
 simp only[ld,acI,Pm,h1,h2,amX]
theorem Yd{ty:TypeId}{n:Nat}(hs:au3 P ty n)(h:Aa)(b r o:Nat):ld P ty h (some (.ptr b r o))=yV (Nl (h[b]?) r) o n:=by
 obtain⟨h1,h2⟩:=hs
 simp only[ld,acI,Pm,h1,h2,sD]
 cases Nl (h[b]?) r with
 |none=>rfl
 |some cs=>simp only[acI,yV];split<;>rfl
theorem tI{ty:TypeId}{n:Nat}(hs:au3 P ty n)(h:Aa)(cs:List AV):ld P ty h (some (.iptr cs))=if n≤cs.length then some (.ret (.agg (cs.take n)),[])else none:=by
 obtain⟨h1,h2⟩:=hs
 simp only[ld,acI,Pm,h1,h2]
 split<;>rfl
def sv(n:Nat)(c:Option CB)(b r o:Nat)(v:List AV):OE:=
 match c with
 |some (.live _ _ _ rows)=>(rows[r]?).bind fun cs=>if v.length=n∧o+n≤cs.length∧v.all AV.isCell=true then some (.ret (.tup []),[.cells b r o v])else none
 |_=>none
theorem akO(n:Nat)(st:Nat)(fl w:Bool)(rows:List (List AV))(b r o:Nat)(v:List AV):sv n (some (.live st fl w rows)) b r o v=(rows[r]?).bind fun cs=>if v.length=n∧o+n≤cs.length∧v.all AV.isCell=true then some (.ret (.tup []),[.cells b r o v])else none:=aa9 rfl rfl
def qK(P:Program)(ty:TypeId)(h:Aa)(p v:Option AV):OE:=p.bind fun p=>v.bind fun v=>rD (Re P (hf h) ty p v)
theorem adW(t:List AV)(h:Aa)(ty:TypeId)(a x:Operand):Ej O P t h (.store ty a x)=qK P ty h (Af t a) (Af t x):=by
 rw[Di _ _ _ rfl]
 simp only[exec,qK]
 cases Af t a with
 |none=>rfl
 |some p=>cases Af t x<;>rfl
theorem Oc{ty:TypeId}{n:Nat}(hs:Ve P ty=some n)(h:Aa)(b r o:Nat)(v:AV):qK P ty h (some (.ptr b r o)) (some v)=sv n (h[b]?) b r o (acells v):=by
 simp only[qK,acI,Re,hs,hf,sv]
 cases h[b]? with
 |none=>rfl
 |some c=>
  cases c with
  |live st fl w rows=>
   simp only
   cases rows[r]? with
   |none=>rfl
   |some cs=>simp only[acI];split<;>rfl
  |_=>rfl
def nw(h:Aa)(v:Option AV):OE:=v.bind fun v=>if(acells v).all AV.isCell=true then some (.ret (.ptr h.length 0 0),[.new h.length (.live (acells v).length ((acells v).all AV.flat) false [acells v])])else none
theorem alJ(h:Aa)(v:AV):nw h (some v)=if(acells v).all AV.isCell=true then some (.ret (.ptr h.length 0 0),[.new h.length (.live (acells v).length ((acells v).all AV.flat) false [acells v])])else none:=aa9 rfl rfl
theorem aiJ(t:List AV)(h:Aa)(ty:TypeId):Ej O P t h (.alloc ty)=nw h (Jv P ty):=by
 rw[Di _ _ _ rfl]
 simp only[exec,nw]
 cases Jv P ty with
 |none=>rfl
 |some z=>simp only[acI,eM];split<;>rfl
theorem apF(t:List AV)(h:Aa)(ty:TypeId)(x:Operand):Ej O P t h (.box ty x)=nw h (Af t x):=by
 rw[Di _ _ _ rfl]
 simp only[exec,nw]
 cases Af t x with
 |none=>rfl
 |some z=>simp only[acI,eM];split<;>rfl
theorem ajS(t:List AV)(h:Aa)(ty:TypeId)(ps:Array (Nat × Operand)):Ej O P t h (.build ty ps)=r1 ((Cb t (ps.toList.map (·.2))).bind fun vs=>eF P ty (Rh ps.toList vs)):=by
 rw[Di _ _ _ rfl]
 simp only[exec]
 cases Cb t (ps.toList.map (·.2))with
 |none=>rfl
 |some vs=>exact Ge _
theorem mL(t:List AV)(h:Aa)(ty:TypeId)(len:Nat)(ps:Array (Nat × Operand)):Ej O P t h (.buildSlice ty len ps)=rD ((Cb t (ps.toList.map (·.2))).bind fun vs=>Cm P h.length ty len (Rh ps.toList vs)):=Di _ _ _ rfl
def fa(P:Program)(ty:TypeId)(x:Option AV)(f:Nat):OE:=r1 (x.bind fun x=>Oj P ty x f)
theorem av1(t:List AV)(h:Aa)(ty:TypeId)(x:Operand)(f:Nat):Ej O P t h (.fieldAddr ty x f)=fa P ty (Af t x) f:=by
 rw[Di _ _ _ rfl]
 simp only[exec,fa]
 cases Af t x with
 |none=>rfl
 |some a=>exact Ge _
def Bo(P:Program)(ty:TypeId)(f off n:Nat):Prop:=∃fs fd,P.underlying ty=some (.struct fs)∧fs[f]?=some fd∧fd.offset=off∧Ve P fd.type=some n∧n≠0
theorem Bf{ty:TypeId}{f off n:Nat}(hf:Bo P ty f off n)(b r o:Nat):fa P ty (some (.ptr b r o)) f=some (.ret (.ptr b r (o+off)),[]):=by
 obtain⟨fs,fd,h1,h2,h3,h4,h5⟩:=hf
 simp only[fa,acI,Oj,h1,h2,h4,h5,if_false,h3,bO]
theorem Qh{ty:TypeId}{f off n:Nat}(hf:Bo P ty f off n)(cs:List AV):fa P ty (some (.iptr cs)) f=if off+n≤cs.length then some (.ret (.iptr (cs.drop off)),[])else none:=by
 obtain⟨fs,fd,h1,h2,h3,h4,h5⟩:=hf
 simp only[fa,acI,Oj,h1,h2,h4,h5,if_false,h3]
 split<;>rfl
def ia(P:Program)(ty:TypeId)(x i:Option AV):OE:=r1 (x.bind fun x=>i.bind fun i=>Lq P ty x i)
theorem auG(t:List AV)(h:Aa)(ty:TypeId)(x i:Operand):Ej O P t h (.indexAddr ty x i)=ia P ty (Af t x) (Af t i):=by
 rw[Di _ _ _ rfl]
 simp only[exec,ia]
 cases Af t x with
 |none=>rfl
 |some a=>
  cases Af t i with
  |none=>rfl
  |some b=>exact Ge _
def SlT(P:Program)(ty:TypeId)(n:Nat):Prop:=∃e,P.underlying ty=some (.slice e)∧Ve P e=some n
theorem aeN{ty:TypeId}{n:Nat}(hs:SlT P ty n)(fl:Bool)(rows:List (List AV))(k:IntKind)(i:Int):ia P ty (some (.imm n fl rows)) (some (.int k i))=if 0≤i then r1 ((rows[i.toNat]?).map .iptr)else none:=by
 obtain⟨e,h1,h2⟩:=hs
 simp only[ia,acI,Lq,h1,h2,true_and]
 split<;>rfl
theorem vJ{ty:TypeId}{n:Nat}(hs:SlT P ty n)(b r len:Nat)(k:IntKind)(i:Int):ia P ty (some (.slr n b r len)) (some (.int k i))=if 0≤i∧i<len then some (.ret (.ptr b (r+i.toNat) 0),[])else none:=by
 obtain⟨e,h1,h2⟩:=hs
 simp only[ia,acI,Lq,h1,h2,true_and]
 split<;>rfl
theorem vN(t:List AV)(h:Aa)(x:Operand)(i:Nat):Ej O P t h (.extract x i)=r1 ((Af t x).bind fun x=>match x with| .tup vs=>vs[i]?|_=>none):=by
 rw[Di _ _ _ rfl]
 simp only[exec]
 cases Af t x with
 |none=>rfl
 |some a=>cases a<;>first|rfl|exact Ge _
def ln(P:Program)(ty:TypeId)(x:Option AV):OE:=r1 (x.bind (qI P ty))
theorem ar7(t:List AV)(h:Aa)(x:Operand)(ty:TypeId):Ej O P t h (.call ⟨.builtin .len,#[x],#[ty]⟩)=ln P ty (Af t x):=by
 rw[Di _ _ _ rfl]
 simp only[exec,Cb,ln]
 cases Af t x with
 |none=>rfl
 |some a=>exact Ge _
theorem afO{ty:TypeId}{n:Nat}(hs:SlT P ty n)(st:Nat)(fl:Bool)(rows:List (List AV)):ln P ty (some (.imm st fl rows))=some (.ret (.int .i64 rows.length),[]):=by
 obtain⟨e,h1,h2⟩:=hs
 simp only[ln,acI,qI,h1,bO]
theorem xG{ty:TypeId}{n:Nat}(hs:SlT P ty n)(st b r len:Nat):ln P ty (some (.slr st b r len))=some (.ret (.int .i64 len),[]):=by
 obtain⟨e,h1,h2⟩:=hs
 simp only[ln,acI,qI,h1,bO]
theorem iF{ty:TypeId}{n:Nat}(hs:SlT P ty n):ln P ty (some .nils)=some (.ret (.int .i64 0),[]):=by
 obtain⟨e,h1,h2⟩:=hs
 simp only[ln,acI,qI,h1,bO]
theorem anD(t:List AV)(h:Aa)(x y:Operand)(ts:Array TypeId):Ej O P t h (.call ⟨.builtin .min,#[x,y],ts⟩)=r1 ((Af t x).bind fun a=>(Af t y).bind fun b=>bN a b):=by
 rw[Di _ _ _ rfl]
 simp only[exec,Cb]
 cases Af t x with
 |none=>rfl
 |some a=>
  cases Af t y with
  |none=>rfl
  |some b=>exact Ge _
theorem akG(t:List AV)(h:Aa)(x y:Operand)(ts:Array TypeId):Ej O P t h (.call ⟨.builtin .max,#[x,y],ts⟩)=r1 ((Af t x).bind fun a=>(Af t y).bind fun b=>kR a b):=by
 rw[Di _ _ _ rfl]
 simp only[exec,Cb]
 cases Af t x with
 |none=>rfl
 |some a=>
  cases Af t y with
  |none=>rfl
  |some b=>exact Ge _
def cr(x:Option Le):OE:=x.map fun d=>(d.out,d.es)
theorem anM(o:Ea)(es:List Ad)(fs:List Dp):cr (some ⟨o,es,fs⟩)=some (o,es):=aa9 rfl rfl
def lV:List AV→Bool
 | .ptr _ _ _::_=>true
 | .yl _::_=>true
 |_=>false
theorem iY(f:Nat)(args:List AV):Yj f args=if lV args=true then .sh f else .fn f:=by
 unfold Yj
 split
 ·rfl
 ·rfl
 ·rename_i h1 h2
  rw[if_neg]
  intro hc
  unfold lV at hc
  split at hc
  ·exact h1 _ _ _ _ rfl
  ·exact h2 _ _ rfl
  ·cases hc
theorem ap7:lV []=false:=aa9 rfl rfl
theorem aqA(b r o:Nat)(l:List AV):lV (.ptr b r o::l)=true:=aa9 rfl rfl
theorem apA(k:IntKind)(n:Int)(l:List AV):lV (.int k n::l)=false:=aa9 rfl rfl
theorem anV(l:List AV):lV (.nils::l)=false:=aa9 rfl rfl
theorem asZ(n:Nat)(fl:Bool)(rows:List (List AV))(l:List AV):lV (.imm n fl rows::l)=false:=aa9 rfl rfl
theorem asV(a b r n:Nat)(l:List AV):lV (.slr a b r n::l)=false:=aa9 rfl rfl
theorem ap4(c:List AV)(l:List AV):lV (.agg c::l)=false:=aa9 rfl rfl
def shK(h:Aa)(x:Option (Ea × Aa)):OE:=x.bind fun(out,h')=>(Ef 0 h h').map fun es=>(out,es)
def dH(h:Aa):Aa:=h.map CB.clean
def shC(O:Ez)(h:Aa)(f:Nat)(args:List AV):OE:=if(kV args||O.md f)=true then shK h (O.call (.sh f) args (dH h))else cr (Dy O (hf h) h.length (.fn f) args)
theorem anZ(h:Aa)(f:Uk)(args:List AV):cr (Jx O (hf h) h.length f args)=shK h (O.call f args (dH h)):=by
 unfold Jx shK cr dH
 rw[ae8,acI]
 cases O.call f args (h.map CB.clean)with
 |none=>rfl
 |some x=>
  obtain⟨out,h'⟩:=x
  simp only[acI]
  cases Ef 0 h h'<;>rfl
def cl(O:Ez)(h:Aa)(f:Option AV)(vs:Option (List AV)):OE:=f.bind fun f=>vs.bind fun vs=>
 match f with
 | .func (.func f) a b=>if lV (a++vs++b)=true then shC O h f (a++vs++b)else cr (Dy O (hf h) h.length (.fn f) (a++vs++b))
 | .yl b=>shK h (O.call .round (vs++[.yl b]) (dH h))
 |_=>none
theorem ajQ(h:Aa)(f:Nat)(a b vs:List AV):cl O h (some (.func (.func f) a b)) (some vs)=if lV (a++vs++b)=true then shC O h f (a++vs++b)else cr (Dy O (hf h) h.length (.fn f) (a++vs++b)):=aa9 rfl rfl
theorem awA(h:Aa)(b:Nat)(vs:List AV):cl O h (some (.yl b)) (some vs)=shK h (O.call .round (vs++[.yl b]) (dH h)):=aa9 rfl rfl
theorem aeS(h:Aa)(f:Nat)(args:List AV):cr (Fz O (hf h) h.length (Yj f args) args)=if lV args=true then shC O h f args else cr (Dy O (hf h) h.length (.fn f) args):=by
 rw[iY]
 split
 ·unfold shC
  cases hq:(kV args||O.md f)with
  |true=>simp only[Fz,hq,cond_true,if_true,anZ]
  |false=>simp only[Fz,hq,cond_false,adN,if_false]
 ·rfl
theorem alI(t:List AV)(h:Aa)(f:Operand)(args:Array Operand)(ts:Array TypeId):Ej O P t h (.call ⟨.value f,args,ts⟩)=cl O h (Af t f) (Cb t args.toList):=by
 simp only[Ej,Gm,callee,cl]
 cases Af t f with
 |none=>rfl
 |some fv=>
  cases Cb t args.toList with
  |none=>rfl
  |some vs=>
   simp only[acI]
   cases fv with
   |func fn a b=>
    cases fn with
    |func f=>exact aeS h f _
    |_=>rfl
   |yl b=>exact anZ h .round _
   |_=>rfl
def Ba:Nat→AV→Bool
 |0,_=>false
 |d+1,v=>
  match v with
  | .ptr _ _ _=>false
  | .slr _ _ _ _=>false
  | .yl _=>false
  | .agg cs=>cs.all (Ba d)
  | .tup cs=>cs.all (Ba d)
  | .iface _ x=>Ba d x
  | .func _ a b=>a.all (Ba d)&&b.all (Ba d)
  |_=>true
theorem Oq{f:AV→Option AV}:∀{l:List AV},(∀x∈l,f x=some x)→As f l=some l
 | [],_=>rfl
 |a::l,h=>by
  simp only[As,h a (acQ ..),Oq (fun x hx=>h x (acL _ hx)),acI,adL]
theorem Hk(g:HF):∀{d e:Nat} {v:AV},d≤e→Ba d v=true→Hh e g v=some v
 |0,e,v,_,h=>by simp[Ba]at h
 |d+1,0,v,he,h=>by omega
 |d+1,e+1,v,he,h=>by
  cases v with
  |ptr b r o=>simp[Ba]at h
  |slr a b c d=>simp[Ba]at h
  |agg cs=>
   simp only[Ba,acV]at h
   simp only[Hh]
   rw[Oq fun x hx=>Hk g (by omega) (h x hx)];rfl
  |iface t x=>
   simp only[Ba]at h
   simp only[Hh]
   rw[Hk g (by omega) h];rfl
  |_=>rfl
theorem Gg(g:HF):∀{d e:Nat} {v:AV},d≤e→Ba d v=true→Aw e g v=[]
 |0,e,v,_,h=>by simp[Ba]at h
 |d+1,0,v,he,h=>by omega
 |d+1,e+1,v,he,h=>by
  cases v with
  |ptr b r o=>simp[Ba]at h
  |slr a b c d=>simp[Ba]at h
  |agg cs=>
   simp only[Ba,acV]at h
   simp only[Aw]
   rw[avE]
   exact fun x hx=>Gg g (by omega) (h x hx)
  |iface t x=>
   simp only[Ba]at h
   simp only[Aw]
   exact Gg g (by omega) h
  |_=>rfl
theorem Ls{f:List Nat→AV→Option (AV × List Nat)}{m:List Nat}:∀{l:List AV},(∀x∈l,f m x=some (x,m))→Dx.refL f m l=some (l,m)
 | [],_=>rfl
 |a::l,h=>by
  simp only[Dx.refL,h a (acQ ..),Ls (fun x hx=>h x (acL _ hx)),acI,adL]
theorem Kt(m:List Nat):∀{d:Nat} {v:AV},Ba d v=true→Dx d m v=some (v,m)
 |0,v,h=>by simp[Ba]at h
 |d+1,v,h=>by
  cases v with
  |ptr b r o=>simp[Ba]at h
  |slr a b c d=>simp[Ba]at h
  |yl b=>simp[Ba]at h
  |agg cs=>
   simp only[Ba,acV]at h
   simp only[Dx]
   rw[Ls fun x hx=>Kt m (h x hx)];rfl
  |tup cs=>
   simp only[Ba,acV]at h
   simp only[Dx]
   rw[Ls fun x hx=>Kt m (h x hx)];rfl
  |iface t x=>
   simp only[Ba]at h
   simp only[Dx]
   rw[Kt m h];rfl
  |func fn a b=>
   simp only[Ba,aeY,acV]at h
   simp only[Dx]
   rw[Ls fun x hx=>Kt m (h.1 x hx)]
   simp only[acI]
   rw[Ls fun x hx=>Kt m (h.2 x hx)];rfl
  |_=>rfl
theorem Nh(f:Nat→Nat):∀{d:Nat} {v:AV},Ba d v=true→Ci d f v=some v
 |0,v,h=>by simp[Ba]at h
 |d+1,v,h=>by
  cases v with
  |ptr b r o=>simp[Ba]at h
  |slr a b c d=>simp[Ba]at h
  |yl b=>simp[Ba]at h
  |agg cs=>
   simp only[Ba,acV]at h
   simp only[Ci]
   rw[Oq fun x hx=>Nh f (h x hx)];rfl
  |tup cs=>
   simp only[Ba,acV]at h
   simp only[Ci]
   rw[Oq fun x hx=>Nh f (h x hx)];rfl
  |iface t x=>
   simp only[Ba]at h
   simp only[Ci]
   rw[Nh f h];rfl
  |func fn a b=>
   simp only[Ba,aeY,acV]at h
   simp only[Ci]
   rw[Oq fun x hx=>Nh f (h.1 x hx)]
   simp only[acI]
   rw[Oq fun x hx=>Nh f (h.2 x hx)];rfl
  |_=>rfl
def ac0(base:Nat)(x:Option (Ea × Aa)):Option Le:=x.bind fun(out,h')=>
 (Ci 8 (fun i=>base+i) out.v).bind fun v=>(Ip (fun i=>base+i) base h').map fun ns=>⟨out.map fun _=>v,ns,[]⟩
theorem gR{g:HF}{base:Nat}{f:Uk}{args:List AV}(hp:args.all (Ba 8)=true):Dy O g base f args=ac0 base (O.call f args []):=by
 rw[acV]at hp
 have h1:As (Hh 12 g) args=some args:=Oq fun x hx=>Hk g (by omega) (hp x hx)
 have h2:Ku g [] args=some (args,[],[]):=by
  unfold Ku
  rw[Ls fun x hx=>Kt [] (hp x hx)]
  rfl
 have h3:args.flatMap (Aw 12 g)=[]:=by
  rw[avE]
  exact fun x hx=>Gg g (by omega) (hp x hx)
 have h4:Fq [] base=fun i=>base+i:=by funext i;simp[Fq]
 unfold Dy
 simp only[h1,h2,h3,acI,List.any_nil,adN,if_false,List.map_nil]
 unfold ac0
 cases O.call f args []with
 |none=>rfl
 |some x=>
  obtain⟨out,h'⟩:=x
  simp only[acI,Lm,h4,List.length_nil,List.take_zero,List.drop_zero,Ht,List.isEmpty_nil,Bool.true_or,if_true,atK,List.append_nil,List.map_nil]
  cases Ci 8 (fun i=>base+i) out.v with
  |none=>rfl
  |some v=>
   simp only[acI]
   cases Ip (fun i=>base+i) base h'<;>rfl
theorem agP{base:Nat}{v:AV}(hv:Ba 8 v=true):ac0 base (some (.ret v,[]))=some ⟨.ret v,[],[]⟩:=by
 simp only[ac0,acI,Ea.v,Nh _ hv,Ip,adL,Ea.map]
theorem acZ{vs:List AV}{h:Aa}(hv:Ba 8 (Ru vs)=true):ad6 0 (some vs) h=some (.ret (Ru vs),[]):=by
 simp only[ad6,acI,Qd,List.range_zero]
 unfold Ku
 rw[Ls (l:=[Ru vs]) (fun x hx=>by simp at hx;subst hx;exact Kt [] hv)]
 rfl
theorem ad3(s:St):Rz P s []=some []:=aa9 rfl rfl
theorem ah3(t:List AV)(h:Aa)(q:Nat)(rs:List ResultVar):Rz P ⟨t,h⟩ (.tmp q::rs)=(Rz P ⟨t,h⟩ rs).map fun vs=>Hu t q::vs:=aa9 rfl rfl
theorem agU{pr:Of}{f:Nat}{fn:Func}{c:Code}{args:List AV}{h:Aa}{r:Ea × Aa}(hp:pr f=none)(hf:P.funcs[f]?=some fn)(hb:fn.body=some c)(hl:Nat.ble args.length fn.ntmps=true)
 (he:fnK P h.length fn.results.toList (Dc (om P pr) P 5000 c [] ⟨mk fn.ntmps (Dj args),h⟩)=some r):(om P pr).call (.fn f) args h=some r:=
 an8 hp ((aoS hf hb (Nat.le_of_ble_eq_true hl) h).trans he)
def ac1(base:Nat)(x:Option (Ea × Aa)):Option Le:=ac0 base x
theorem ao7(base:Nat)(v:AV):ac0 base (some (.ret v,[]))=if Ba 8 v=true then some ⟨.ret v,[],[]⟩else ac1 base (some (.ret v,[])):=by
 split
 ·rename_i h;exact agP h
 ·rfl
theorem am8(b:Bool):aUn .not (.bool b)=some (.bool !b):=aa9 rfl rfl
theorem anP(k:IntKind)(n:Int):aUn .neg (.int k n)=some (.int k (k.wrap (0-n))):=aa9 rfl rfl
theorem aeG(k k':IntKind)(x y:Int):bN (.int k x) (.int k' y)=some (.int k (if y<x then y else x)):=aa9 rfl rfl
theorem af9(k k':IntKind)(x y:Int):kR (.int k x) (.int k' y)=some (.int k (if y>x then y else x)):=aa9 rfl rfl
def Az(n:Nat)(fl nn:Bool):List (List AV)→AV
 | []=>bif nn then .imm n fl []else .nils
 |r::rs=>.imm n fl (r::rs)
theorem kX(n:Nat)(fl nn:Bool)(r:List AV)(rs:List (List AV)):Az n fl nn (r::rs)=.imm n fl (r::rs):=aa9 rfl rfl
theorem Da(d n:Nat)(fl nn:Bool)(rows:List (List AV)):Ba (d+1) (Az n fl nn rows)=true:=by
 cases rows with
 |nil=>cases nn<;>rfl
 |cons r rs=>rfl
theorem aq7(n:Nat)(fl nn:Bool)(rows:List (List AV))(l:List AV):lV (Az n fl nn rows::l)=false:=by
 cases rows with
 |nil=>cases nn<;>rfl
 |cons r rs=>rfl
theorem aeT(n:Nat)(fl nn:Bool)(rows:List (List AV)):AV.isCell (Az n fl nn rows)=true:=by
 cases rows with
 |nil=>cases nn<;>rfl
 |cons r rs=>rfl
theorem ai0(n:Nat)(fl nn:Bool)(rows:List (List AV)):AV.flat (Az n fl nn rows)=false:=by
 cases rows with
 |nil=>cases nn<;>rfl
 |cons r rs=>rfl
theorem xB(n:Nat)(fl nn:Bool)(rows:List (List AV)):acells (Az n fl nn rows)=[Az n fl nn rows]:=by
 cases rows with
 |nil=>cases nn<;>rfl
 |cons r rs=>rfl
theorem dL{ty:TypeId}{n:Nat}(hs:SlT P ty n)(fl nn:Bool)(rows:List (List AV)):ln P ty (some (Az n fl nn rows))=some (.ret (.int .i64 rows.length),[]):=by
 cases rows with
 |nil=>cases nn
       ·exact iF hs
       ·exact afO hs _ _ _
 |cons r rs=>exact afO hs _ _ _
theorem dZ{ty:TypeId}{n:Nat}(hs:SlT P ty n)(fl nn:Bool)(rows:List (List AV))(k:IntKind)(i:Int):ia P ty (some (Az n fl nn rows)) (some (.int k i))=if 0≤i then r1 ((rows[i.toNat]?).map .iptr)else none:=by
 cases rows with
 |nil=>
  cases nn
  ·obtain⟨e,h1,h2⟩:=hs
   simp[ia,Az,Lq,h1,r1]
  ·exact aeN hs _ _ _ _
 |cons r rs=>exact aeN hs _ _ _ _
theorem Ag{n:Int}(h1: -9223372036854775808≤n)(h2:n<9223372036854775808):IntKind.i64.wrap n=n:=by
 simp only[IntKind.wrap,IntKind.bits,IntKind.signed]
 simp
 omega
end
section
variable {P:Program} {O:Ez} {pr:Of}
theorem au1{C:R→Prop}{n:Nat}{k:List Aj}{d:Option Nat}{op:Op}{cs:List CO}{b w:Bool}{t:List AV}{h:Aa}
 (h1:b=true→C (rcG O P n k d op cs (.bool true) w t h)) (h2:b=false→C (rcG O P n k d op cs (.bool false) w t h)):C (rcG O P n k d op cs (.bool b) w t h):=by
 cases b with
 |true=>exact h1 rfl
 |false=>exact h2 rfl
theorem auV{C:R→Prop}{n:Nat}{x y:Code}{k:List Aj}{g:Bool}{s:St}
 (h1:g=true→C (Dc O P n x k s)) (h2:g=false→C (Dc O P n y k s)):C (cdK O P n x y k (some (.bool g)) s):=by
 cases g with
 |true=>exact h1 rfl
 |false=>exact h2 rfl
def LpQ(O:Ez)(c:Code)(s:St)(Q:Ex→St→Prop):Prop:=∃e s',O.loop c s=some (e,s')∧Q e s'
def auJ(O:Ez)(c:Code)(Q:Ex→St→Prop):R→Prop
 |some (.normal,s)=>LpQ O c s Q
 |some (e,s)=>Q e s
 |none=>False
theorem LpQ.of{c:Code}{s:St}{Q:Ex→St→Prop}(h:auJ (om P pr) c Q (Dc (om P pr) P 5000 c [] s)):LpQ (om P pr) c s Q:=by
 cases hm:Dc (om P pr) P 5000 c [] s with
 |none=>rw[hm]at h;exact h.elim
 |some x=>
  obtain⟨e,s'⟩:=x
  rw[hm]at h
  cases e with
  |normal=>
   obtain⟨e,s'',h1,h2⟩:=h
   exact⟨e,s'',Xc hm h1,h2⟩
  |exit i=>exact⟨_,_,Hm hm (by simp),h⟩
  |ret=>exact⟨_,_,Hm hm (by simp),h⟩
  |pan v=>exact⟨_,_,Hm hm (by simp),h⟩
def FnE(P:Program)(q:Nat)(rs:List ResultVar)(Q:Ea→Aa→Prop)(x:R):Prop:=∃o h,fnK P q rs x=some (o,h)∧Q o h
def Rt(q:Nat)(vs:Option (List AV))(h:Aa)(Q:Ea→Aa→Prop):Prop:=∃o h',ad6 q vs h=some (o,h')∧Q o h'
theorem af6(q:Nat)(rs:List ResultVar)(Q:Ea→Aa→Prop)(t:List AV)(h:Aa):FnE P q rs Q (some (.ret,⟨t,h⟩))=Rt q (Rz P ⟨t,h⟩ rs) h Q:=aa9 rfl rfl
theorem aa6(q:Nat)(rs:List ResultVar)(Q:Ea→Aa→Prop)(t:List AV)(h:Aa):FnE P q rs Q (some (.normal,⟨t,h⟩))=Rt q (Rz P ⟨t,h⟩ rs) h Q:=aa9 rfl rfl
def Rt1(q:Nat)(vs:Option (List AV))(h:Aa)(Q:Ea→Aa→Prop):Prop:=Rt q vs h Q
theorem atW(vs:List AV)(h:Aa)(Q:Ea→Aa→Prop):Rt 0 (some vs) h Q=if Ba 8 (Ru vs)=true then Q (.ret (Ru vs)) []else Rt1 0 (some vs) h Q:=by
 split
 ·rename_i hv
  unfold Rt
  rw[acZ hv]
  exact propext ⟨fun⟨o,h',e,q⟩=>by cases e;exact q,fun q=>⟨_,_,rfl,q⟩⟩
 ·rfl
def Vg(O:Ez)(f:Nat)(args:List AV)(h:Aa)(Q:Ea→Aa→Prop):Prop:=∃o h',O.call (.fn f) args h=some (o,h')∧Q o h'
theorem Vg.start{f:Nat}{fn:Func}{c:Code}{args:List AV}{h:Aa}{Q:Ea→Aa→Prop}(hp:pr f=none)(hf:P.funcs[f]?=some fn)(hb:fn.body=some c)(hl:Nat.ble args.length fn.ntmps=true)
 (he:FnE P h.length fn.results.toList Q (Dc (om P pr) P 5000 c [] ⟨mk fn.ntmps (Dj args),h⟩)):Vg (om P pr) f args h Q:=by
 obtain⟨o,h',e,q⟩:=he
 exact⟨o,h',agU hp hf hb hl e,q⟩
theorem Vg.eq{f:Nat}{args:List AV}{h:Aa}{o:Ea}{h':Aa}(k:Vg O f args h fun o1 h1=>(o1,h1)=(o,h')):O.call (.fn f) args h=some (o,h'):=by
 obtain⟨o1,h1,e,q⟩:=k
 rw[e,q]
def ag4(O:Ez)(g:HF)(base:Nat)(f:Uk)(args:List AV):Option Le:=Dy O g base f args
theorem agC(g:HF)(base:Nat)(f:Uk)(args:List AV):Dy O g base f args=if args.all (Ba 8)=true then ac0 base (O.call f args [])else ag4 O g base f args:=by
 split
 ·rename_i h;exact gR h
 ·rfl
theorem akZ(d:Nat)(b:Bool):Ba (d+1) (.bool b)=true:=aa9 rfl rfl
theorem Qc(d:Nat)(k:IntKind)(n:Int):Ba (d+1) (.int k n)=true:=aa9 rfl rfl
theorem akB(d:Nat):Ba (d+1) .nils=true:=aa9 rfl rfl
theorem asF(d n:Nat)(fl:Bool)(rows:List (List AV)):Ba (d+1) (.imm n fl rows)=true:=aa9 rfl rfl
theorem aqI(d b r o:Nat):Ba (d+1) (.ptr b r o)=false:=aa9 rfl rfl
theorem aq4(d a b r o:Nat):Ba (d+1) (.slr a b r o)=false:=aa9 rfl rfl
theorem Jt(d:Nat)(cs:List AV):Ba (d+1) (.agg cs)=cs.all (Ba d):=aa9 rfl rfl
theorem apR(d:Nat)(cs:List AV):Ba (d+1) (.tup cs)=cs.all (Ba d):=aa9 rfl rfl
theorem ak0(d:Nat)(fn:Fn)(a b:List AV):Ba (d+1) (.func fn a b)=(a.all (Ba d)&&b.all (Ba d)):=aa9 rfl rfl
theorem aj9(b:Bool):AV.isCell (.bool b)=true:=aa9 rfl rfl
theorem ap5(k:IntKind)(n:Int):AV.isCell (.int k n)=true:=aa9 rfl rfl
theorem ak1:AV.isCell .nils=true:=aa9 rfl rfl
theorem amI:AV.isCell .nilf=true:=aa9 rfl rfl
theorem aoZ(n:Nat)(fl:Bool)(rows:List (List AV)):AV.isCell (.imm n fl rows)=true:=aa9 rfl rfl
theorem ap9(a b r o:Nat):AV.isCell (.slr a b r o)=true:=aa9 rfl rfl
theorem arN(b r o:Nat):AV.isCell (.ptr b r o)=true:=aa9 rfl rfl
theorem am2(f:Fn)(a b:List AV):AV.isCell (.func f a b)=true:=aa9 rfl rfl
theorem alX(b:Bool):AV.flat (.bool b)=true:=aa9 rfl rfl
theorem arS(k:IntKind)(n:Int):AV.flat (.int k n)=true:=aa9 rfl rfl
theorem akJ:AV.flat .nils=false:=aa9 rfl rfl
theorem akV:AV.flat .nilf=false:=aa9 rfl rfl
theorem asY(n:Nat)(fl:Bool)(rows:List (List AV)):AV.flat (.imm n fl rows)=false:=aa9 rfl rfl
theorem arH(a b r o:Nat):AV.flat (.slr a b r o)=false:=aa9 rfl rfl
theorem aoV(b r o:Nat):AV.flat (.ptr b r o)=false:=aa9 rfl rfl
theorem anS(f:Fn)(a b:List AV):AV.flat (.func f a b)=false:=aa9 rfl rfl
theorem arF(cs:List AV):acells (.agg cs)=cs:=aa9 rfl rfl
theorem aqH(k:IntKind)(n:Int):acells (.int k n)=[.int k n]:=aa9 rfl rfl
theorem anG:acells .nils=[.nils]:=aa9 rfl rfl
theorem amE:acells .nilf=[.nilf]:=aa9 rfl rfl
theorem arR(a b r o:Nat):acells (.slr a b r o)=[.slr a b r o]:=aa9 rfl rfl
theorem apJ(b r o:Nat):acells (.ptr b r o)=[.ptr b r o]:=aa9 rfl rfl
theorem anO(f:Fn)(a b:List AV):acells (.func f a b)=[.func f a b]:=aa9 rfl rfl
end
end Go.Ev
