/- The evaluator and its soundness. -/
import Derived.Test.YtdbiogihimdpcaaGreatDoorLibB
import Derived.OrdersIn
import Derived.RangeFuncNested
open Eq renaming trans→aaE
open Option renaming bind_eq_some_iff→abH,bind_some→abI,some→adI,map_some→adJ,map_eq_some_iff→ajQ,getD_some→asY
open List renaming mem_cons_of_mem→ab1,mem_cons_self→acM,mem_singleton→acT,all_eq_true→acZ,getElem?_eq_some_iff→adA,mem_flatMap→adK,mem_range→adO,filter_cons_of_pos→aiK,getElem?_set→ai4,mem_map→ajR,filter_cons_of_neg→ajT,getElem?_map→ajU,getElem?_eq_none→ajV,ext_getElem?→alB,getElem?_eq_getElem→anN,flatMap_cons→anO,mem_append_right→anP,mem_append→anS,any_eq_false→anY,length_cons→an2,range→an8,mem_append_left→aoC,mem_filter→asA,getElem?_range→asN,getElem?_take→asP,getElem?_drop→asQ,mem_of_getElem?→asR,mem_filterMap→asS,getElem?_append_left→asT,nil_append→asV,take_left'→as0,flatMap_eq_nil_iff→atL
open Nat renaming le_refl→adF,le_trans→ajS,strongRecOn→anV,lt_of_lt_of_le→aoD,lt_trichotomy→aoU
open Bool renaming false_eq_true→adL,and_eq_true→adP,not_eq_true→aqV,and_assoc→asO
open Array renaming getD_eq_getD_getElem?→adM,getElem?_eq_some_iff→adN,foldl_toList→ao4,all_eq_true'→asL,replicate→asM,getElem?_eq_none→asU,getElem?_toList→asW,getElem?_eq_getElem→asX,getElem?_replicate→asZ
set_option linter.unusedSimpArgs false
set_option linter.unusedVariables false
namespace Go.Ev
open Go.RowKit
theorem mK(cs:List AV){vs us:List AV}{o p:Nat}(hd:o+vs.length≤p∨p+us.length≤o):
 Df (Df cs o vs) p us=Df (Df cs p us) o vs:=by
 apply alB
 intro j
 rw[Il (Df cs o vs),Il (Df cs p us),Il cs vs,Il cs us,Iu,Iu]
 by_cases a1:p≤j∧j<p+us.length∧j<cs.length
 ·rw[if_pos a1,if_neg (by omega),if_pos a1]
 ·rw[if_neg a1]
  by_cases a2:o≤j∧j<o+vs.length∧j<cs.length
  ·rw[if_pos a2,if_pos a2]
  ·rw[if_neg a2,if_neg a2,if_neg a1]
theorem uL(rows:List (List AV)){r q:Nat}{vs us:List AV}{o p:Nat}(hd:o+vs.length≤p∨p+us.length≤o):
 Ks (Ks rows r o vs) q p us=Ks (Ks rows q p us) r o vs:=by
 unfold Ks
 by_cases hrq:r=q
 ·subst hrq
  cases h:rows[r]? with
  |none=>simp[h]
  |some cs=>
   have hr:r<rows.length:=(adA.1 h).1
   simp[hr,mK cs hd]
 ·cases h:rows[r]? with
  |none=>
   cases h2:rows[q]? with
   |none=>simp[h,h2]
   |some cs2=>simp[ai4,Ne.symm hrq,h,h2]
  |some cs=>
   cases h2:rows[q]? with
   |none=>simp[ai4,hrq,h,h2]
   |some cs2=>simp only[ai4,hrq,Ne.symm hrq,if_false,h,h2];rw[List.set_comm _ _ hrq]
def Ad.eff:Ad→Option CB→Option CB
 | .new _ c,_=>some c
 | .put _ c,_=>some c
 | .cells _ r o vs,x=>match x with
   |some (.live st fl _ rows)=>some (.live st (fl&&vs.all AV.flat) true (Ks rows r o vs))
   |x=>x
theorem Jp(g:HF)(e:Ad)(i:Nat):Bm g e i=if i=e.id then e.eff (g i)else g i:=by
 cases e with
 |new b c=>by_cases hi:i=b<;>simp[Bm,Jg,Ad.id,Ad.eff,hi]
 |put b c=>by_cases hi:i=b<;>simp[Bm,Jg,Ad.id,Ad.eff,hi]
 |cells b r o vs=>
  by_cases hi:i=b
  ·subst hi
   simp only[Bm,Ad.id,Ad.eff,if_true]
   cases hg:g i with
   |none=>simp[hg]
   |some c=>cases c<;>simp[hg,Jg]
  ·have e:∀(x:Option CB) (y:HF),(match x with
    |some (.live st fl _ rows)=>Jg y b (.live st (fl&&vs.all AV.flat) true (Ks rows r o vs))
    |_=>y) i=y i:=fun x y=>by
    cases x with
    |none=>rfl
    |some c=>cases c<;>simp[Jg,hi]
   rw[if_neg (show ¬i=(Ad.cells b r o vs).id from hi)]
   exact e (g b) g
theorem ahT{e e':Ad}(Ff:e.id=e'.id)(h:e.foot.meets e'.foot=false)(x:Option CB):e'.eff (e.eff x)=e.eff (e'.eff x):=by
 cases e<;>cases e'<;>simp[Ad.id]at Ff<;>subst Ff<;>simp[Ad.foot,Du.meets]at h
 rename_i b r o vs r' o' vs'
 cases x with
 |none=>rfl
 |some c=>
  cases c with
  |live st fl w rows=>
   simp only[Ad.eff]
   rw[uL rows (by omega)]
   rw[asO,Bool.and_comm (vs.all AV.flat),←asO]
  |_=>rfl
theorem wK(g:HF){e e':Ad}(h:e.foot.meets e'.foot=false):Bm (Bm g e) e'=Bm (Bm g e') e:=by
 funext i
 rw[Jp,Jp,Jp,Jp]
 by_cases h1:i=e'.id
 ·by_cases h2:i=e.id
  ·rw[if_pos h1,if_pos h2,if_pos h2,if_pos h1];exact ahT (h2.symm.trans h1) h _
  ·rw[if_pos h1,if_neg h2,if_neg h2,if_pos h1]
 ·by_cases h2:i=e.id
  ·rw[if_neg h1,if_pos h2,if_pos h2,if_neg h1]
  ·rw[if_neg h1,if_neg h2,if_neg h2,if_neg h1]
theorem kX(g:HF){e:Ad}:∀{es:List Ad},(∀x∈es,e.foot.meets x.foot=false)→Ap (Bm g e) es=Bm (Ap g es) e
 | [],_=>rfl
 |x::es,h=>by
  simp only[Ap]
  rw[wK g (h x (acM ..))]
  exact kX (Bm g x) (fun y hy=>h y (ab1 _ hy))
theorem oH:∀{es es':List Ad} (g:HF),(∀x∈es,∀y∈es',x.foot.meets y.foot=false)→Ap (Ap g es) es'=Ap (Ap g es') es
 | [],es',g,_=>rfl
 |e::es,es',g,h=>by
  simp only[Ap]
  rw[oH (Bm g e) (fun x hx=>h x (ab1 _ hx)),kX g (h e (acM ..))]
inductive Ir(o n:Nat):Option CB→Option CB→Prop
 |refl (x:Option CB):Ir o n x x
 |live {st st':Nat} {fl fl' w w':Bool} {rows rows':List (List AV)}:rows.length=rows'.length→
   (∀(r:Nat) cs cs',rows[r]?=some cs→rows'[r]?=some cs'→cs.length=cs'.length∧∀j,o≤j→j<o+n→cs[j]?=cs'[j]?)→Ir o n (some (.live st fl w rows)) (some (.live st' fl' w' rows'))
def Di(g g':HF):Du→Prop
 | .blk b=>g' b=g b
 | .cells b o n=>Ir o n (g b) (g' b)
 | .all=>g'=g
theorem Ir.trans{o n:Nat}{x y z:Option CB}(h:Ir o n x y)(k:Ir o n y z):Ir o n x z:=by
 cases h with
 |refl=>exact k
 |live a b=>
  cases k with
  |refl=>exact .live a b
  |live c d=>
   refine .live (a.trans c) (fun r cs cs' h1 h2=>?_)
   have hr:=(adA.1 h1).1
   have h3:=anN (a▸hr)
   obtain⟨b1,b2⟩:=b r _ _ h1 h3
   obtain⟨d1,d2⟩:=d r _ _ h3 h2
   exact⟨b1.trans d1,fun j q1 q2=>(b2 j q1 q2).trans (d2 j q1 q2)⟩
theorem Di.refl(g:HF)(f:Du):Di g g f:=by
 cases f with
 |blk b=>rfl
 |cells b o n=>exact Ir.refl _
 |all=>rfl
theorem Di.trans{g g' g'':HF}{f:Du}(h:Di g g' f)(k:Di g' g'' f):Di g g'' f:=by
 cases f with
 |blk b=>exact aaE k h
 |cells b o n=>exact Ir.trans h k
 |all=>exact aaE k h
theorem Ve(rows:List (List AV))(r o:Nat)(vs:List AV):(Ks rows r o vs).length=rows.length:=by
 unfold Ks;split<;>simp
theorem bF{rows:List (List AV)}{r o:Nat}{vs:List AV}{q:Nat}{cs':List AV}(h:(Ks rows r o vs)[q]?=some cs'):∃cs,rows[q]?=some cs∧cs'=if q=r then Df cs o vs else cs:=by
 unfold Ks at h
 split at h
 ·rename_i cs hr
  rw[ai4]at h
  by_cases hq:r=q
  ·subst hq
   have hlt:r<rows.length:=(adA.1 hr).1
   simp[hlt]at h;subst h
   exact⟨cs,hr,by simp⟩
  ·rw[if_neg hq]at h;exact⟨cs',h,by rw[if_neg (Ne.symm hq)]⟩
 ·rename_i hr
  refine⟨cs',h,?_⟩
  rw[if_neg (fun e=>by subst e;rw[hr]at h;cases h)]
theorem Di.edit(g:HF){e:Ad}{f:Du}(h:e.foot.meets f=false):Di g (Bm g e) f:=by
 cases f with
 |all=>cases e<;>simp[Ad.foot,Du.meets]at h
 |blk b=>
  show Bm g e b=g b
  rw[Jp,if_neg]
  intro hb
  cases e<;>simp[Ad.foot,Du.meets,Ad.id]at h hb<;>omega
 |cells b o n=>
  show Ir o n (g b) (Bm g e b)
  rw[Jp]
  by_cases hb:b=e.id
  ·rw[if_pos hb]
   cases e with
   |new b' c=>simp[Ad.foot,Du.meets,Ad.id]at h hb;omega
   |put b' c=>simp[Ad.foot,Du.meets,Ad.id]at h hb;omega
   |cells b' r o' vs=>
    simp only[Ad.id]at hb
    subst hb
    simp only[Ad.foot,Du.meets,beq_self_eq_true,Bool.true_and,Bool.and_eq_false_iff,decide_eq_false_iff_not]at h
    cases hg:g b with
    |none=>exact .refl _
    |some c=>
     cases c with
     |live st fl w rows=>
      refine .live (Ve ..).symm (fun q cs cs' h1 h2=>?_)
      obtain⟨cs0,k1,k2⟩:=bF h2
      rw[h1]at k1;cases k1
      subst k2
      by_cases hq:q=r
      ·rw[if_pos hq]
       refine⟨(Iu ..).symm,fun j q1 q2=>?_⟩
       rw[Il,if_neg (by omega)]
      ·rw[if_neg hq];exact⟨rfl,fun _ _ _=>rfl⟩
     |_=>exact .refl _
  ·rw[if_neg hb];exact .refl _
theorem Di.both{g g':HF}{f:Du}(h:Di g g' f)(e:Ad):Di (Bm g e) (Bm g' e) f:=by
 cases f with
 |all=>show Bm g' e=Bm g e;rw[show g'=g from h]
 |blk b=>
  show Bm g' e b=Bm g e b
  rw[Jp,Jp,show g' b=g b from h]
 |cells b o n=>
  show Ir o n (Bm g e b) (Bm g' e b)
  have h':Ir o n (g b) (g' b):=h
  rw[Jp,Jp]
  by_cases hb:b=e.id
  ·rw[if_pos hb,if_pos hb]
   generalize g b=x at h'
   generalize g' b=y at h'
   cases e with
   |new b' c=>exact .refl _
   |put b' c=>exact .refl _
   |cells b' r o' vs=>
    cases h' with
    |refl=>exact .refl _
    |live a d=>
     refine .live (by rw[Ve,Ve];exact a) (fun q cs cs' h1 h2=>?_)
     obtain⟨c1,k1,k2⟩:=bF h1
     obtain⟨c2,k3,k4⟩:=bF h2
     obtain⟨d1,d2⟩:=d q c1 c2 k1 k3
     subst k2 k4
     by_cases hq:q=r
     ·rw[if_pos hq,if_pos hq]
      refine⟨by rw[Iu,Iu];exact d1,fun j q1 q2=>?_⟩
      rw[Il,Il,d1]
      split
      ·rfl
      ·exact d2 j q1 q2
     ·rw[if_neg hq,if_neg hq];exact⟨d1,d2⟩
  ·rw[if_neg hb,if_neg hb];exact h'
theorem Di.edits{f:Du}:∀{es:List Ad} (g:HF),(∀e∈es,e.foot.meets f=false)→Di g (Ap g es) f
 | [],g,_=>.refl g f
 |e::es,g,h=>(Di.edit g (h e (acM ..))).trans (Di.edits _ (fun x hx=>h x (ab1 _ hx)))
theorem Di.boths{f:Du}:∀{es:List Ad} {g g':HF},Di g g' f→Di (Ap g es) (Ap g' es) f
 | [],_,_,h=>h
 |e::es,_,_,h=>Di.boths (es:=es) (h.both e)
theorem Di.symm{g g':HF}{f:Du}(h:Di g g' f):Di g' g f:=by
 cases f with
 |all=>exact Eq.symm h
 |blk b=>exact Eq.symm h
 |cells b o n=>
  have h':Ir o n (g b) (g' b):=h
  show Ir o n (g' b) (g b)
  generalize g b=x at h'
  generalize g' b=y at h'
  cases h' with
  |refl=>exact .refl _
  |live a d=>exact .live a.symm (fun r cs cs' h1 h2=>⟨(d r cs' cs h2 h1).1.symm,fun j q1 q2=>((d r cs' cs h2 h1).2 j q1 q2).symm⟩)
section
variable {P:Program}
theorem Iw{t t':List AV}:∀{xs:List Operand},(∀x∈xs,Ah t x=Ah t' x)→Bw t xs=Bw t' xs
 | [],_=>rfl
 |x::xs,h=>by
  simp only[Bw]
  rw[h x (acM ..),Iw (fun y hy=>h y (ab1 _ hy))]
theorem kR{t t':List AV}{x:Option Operand}(h:∀y,x=some y→Ah t y=Ah t' y):wF t x=wF t' x:=by
 cases x with
 |none=>rfl
 |some y=>simp only[wF];rw[h y rfl]
theorem acS{g:HF}{base:Nat}{t t':List AV}{o:Op}(h:∀x∈o.operands.toList,Ah t x=Ah t' x):exec P g base t o=exec P g base t' o:=by
 cases o with
 |alloc t=>rfl
 |build ty ps=>simp only[exec];rw[Iw (t:=t) (t':=t') (xs:=ps.toList.map (·.2)) (fun x hx=>h x (by simp only[Op.operands];exact hx))]
 |buildSlice ty n ps=>simp only[exec];rw[Iw (t:=t) (t':=t') (xs:=ps.toList.map (·.2)) (fun x hx=>h x (by simp only[Op.operands];exact hx))]
 |makeFunc fn xs ys=>
  cases fn with
  |func f=>
   simp only[exec]
   rw[Iw (xs:=xs.toList) (fun x hx=>h x (by simp[Op.operands];exact .inl (by simpa using hx))),Iw (xs:=ys.toList) (fun x hx=>h x (by simp[Op.operands];exact .inr (by simpa using hx)))]
  |_=>simp[exec]
 |slice ty x lo hi mx=>
  cases mx with
  |some m=>simp[exec]
  |none=>
   simp only[exec]
   rw[h x (by simp[Op.operands]),kR (x:=lo) (fun y hy=>h y (by subst hy;simp[Op.operands])),kR (x:=hi) (fun y hy=>h y (by subst hy;simp[Op.operands]))]
 |call c=>
  obtain⟨cal,args,ts⟩:=c
  cases cal with
  |builtin b=>simp only[exec];rw[Iw (xs:=args.toList) (fun x hx=>h x (by simpa [Op.operands,Call.operands]using hx))]
  |_=>simp[exec]
 |pick c a b=>simp only[exec];rw[h c (by simp[Op.operands]),h a (by simp[Op.operands]),h b (by simp[Op.operands])]
 |store _ a b=>simp only[exec];rw[h a (by simp[Op.operands]),h b (by simp[Op.operands])]
 |binOp _ _ a b _=>simp only[exec];rw[h a (by simp[Op.operands]),h b (by simp[Op.operands])]
 |makeSlice _ a b=>simp only[exec];rw[h a (by simp[Op.operands]),h b (by simp[Op.operands])]
 |indexAddr _ a b=>simp only[exec];rw[h a (by simp[Op.operands]),h b (by simp[Op.operands])]
 |index _ a b=>simp only[exec];rw[h a (by simp[Op.operands]),h b (by simp[Op.operands])]
 |move a=>simp only[exec];rw[h a (by simp[Op.operands])]
 |assign a=>simp only[exec];rw[h a (by simp[Op.operands])]
 |box _ a=>simp only[exec];rw[h a (by simp[Op.operands])]
 |load _ a=>simp only[exec];rw[h a (by simp[Op.operands])]
 |nilCheck a=>simp only[exec];rw[h a (by simp[Op.operands])]
 |unOp _ _ a=>simp only[exec];rw[h a (by simp[Op.operands])]
 |convert _ _ a=>simp only[exec];rw[h a (by simp[Op.operands])]
 |makeInterface _ a=>simp only[exec];rw[h a (by simp[Op.operands])]
 |fieldAddr _ a _=>simp only[exec];rw[h a (by simp[Op.operands])]
 |field _ a _=>simp only[exec];rw[h a (by simp[Op.operands])]
 |extract a _=>simp only[exec];rw[h a (by simp[Op.operands])]
 |_=>rfl
theorem rB{t t':List AV}{c:Call}(h:∀x∈c.operands.toList,Ah t x=Ah t' x):callee t c=callee t' c:=by
 obtain⟨cal,args,ts⟩:=c
 cases cal with
 |value f=>simp only[callee];rw[h f (by simp[Call.operands]),Iw (xs:=args.toList) (fun x hx=>h x (by simp[Call.operands];exact .inr (by simpa using hx)))]
 |_=>rfl
theorem Ir.row{o n:Nat}{g g':HF}{b:Nat}(h:Ir o n (g b) (g' b)){r:Nat}{cs:List AV}(hr:aM g b r=some cs):
 ∃cs',aM g' b r=some cs'∧cs'.length=cs.length∧∀j,o≤j→j<o+n→cs'[j]?=cs[j]?:=by
 unfold aM at hr ⊢
 generalize g b=x at h hr
 generalize g' b=y at h
 cases h with
 |refl=>exact⟨cs,hr,rfl,fun _ _ _=>rfl⟩
 | @live st st' fl fl' w w' rows rows' a d=>
   simp only at hr ⊢
   have hlt:=(adA.1 hr).1
   have h3:=anN (a▸hlt)
   obtain⟨d1,d2⟩:=d r _ _ hr h3
   exact⟨_,h3,d1.symm,fun j q1 q2=>(d2 j q1 q2).symm⟩
theorem mL{cs cs':List AV}{o n:Nat}(h1:cs'.length=cs.length)(h2:∀j,o≤j→j<o+n→cs'[j]?=cs[j]?):(cs'.drop o).take n=(cs.drop o).take n:=by
 apply alB
 intro j
 rw[asP,asP]
 split
 ·rw[asQ,asQ];exact h2 _ (by omega) (by omega)
 ·rfl
theorem aaH{g g':HF}{t:TypeId}{p:AV}{d:Jl}(h:Px P g t p=some d)(ha:∀f∈d.fs,Di g g' f):Px P g' t p=some d:=by
 unfold Px at h ⊢
 simp only[abH]at h ⊢
 obtain⟨isA,h1,n,h2,h⟩:=h
 refine⟨isA,h1,n,h2,?_⟩
 cases p with
 |iptr cs=>cases isA<;>cases cs<;>exact h
 |ptr b r o=>
  cases isA with
  |true=>
   simp only[abH]at h ⊢
   obtain⟨cs,h3,h⟩:=h
   split at h<;>simp at h
   rename_i hle
   subst h
   obtain⟨cs',k1,k2,k3⟩:=Ir.row (ha (.cells b o n) (acT.2 rfl)) h3
   exact⟨cs',k1,by rw[if_pos (by omega),mL k2 k3]⟩
  |false=>
   simp only[abH,ajQ]at h ⊢
   obtain⟨cs,h3,v,h4,rfl⟩:=h
   obtain⟨cs',k1,k2,k3⟩:=Ir.row (ha (.cells b o 1) (acT.2 rfl)) h3
   exact⟨cs',k1,v,by rw[k3 o (adF _) (by omega)];exact h4,rfl⟩
 |_=>cases isA<;>simp at h
theorem wT{g g':HF}{t:TypeId}{p v:AV}{d:Jl}(h:Sm P g t p v=some d)(ha:∀f∈d.fs,Di g g' f):Sm P g' t p v=some d:=by
 unfold Sm at h ⊢
 simp only[abH]at h ⊢
 obtain⟨n,h2,h⟩:=h
 refine⟨n,h2,?_⟩
 cases p with
 |ptr b r o=>
  simp only at h ⊢
  split at h
  ·rename_i st fl w rows hg
   simp only[abH]at h
   obtain⟨cs,h3,h⟩:=h
   split at h<;>simp at h
   rename_i hc
   subst h
   have hA:Ir o n (g b) (g' b):=ha (.cells b o n) (acT.2 rfl)
   rw[hg]at hA
   generalize hy:g' b=y at hA
   cases hA with
   |refl=>simp only[abH];exact⟨cs,h3,by rw[if_pos hc]⟩
   | @live _ _ _ _ _ _ _ rows' a d=>
     have hlt:=(adA.1 h3).1
     have h4:=anN (a▸hlt)
     obtain⟨d1,d2⟩:=d r _ _ h3 h4
     simp only[abH]
     exact⟨_,h4,by rw[if_pos (by rw[←d1];exact hc)]⟩
  ·simp at h
 |_=>simp at h
theorem bS{g g':HF}{b r len:Nat}(h:g' b=g b):Gf g' b r len=Gf g b r len:=by unfold Gf;rw[h]
theorem rM{g g':HF}{e:TypeId}{x:AV}{fl:Bool}{rows:List (List AV)}{fs:List Du}(h:Nz P g e x=some (fl,rows,fs))(ha:∀f∈fs,Di g g' f):Nz P g' e x=some (fl,rows,fs):=by
 cases x with
 |slr st b r len=>
  simp only[Nz,abH]at h ⊢
  obtain⟨⟨st',fl',rows'⟩,h1,h⟩:=h
  simp only at h
  split at h<;>simp at h
  rename_i hs
  obtain⟨rfl,rfl,rfl⟩:=h
  refine⟨_,by rw[bS (ha (.blk b) (acT.2 rfl))];exact h1,?_⟩
  simp only;rw[if_pos hs]
 |_=>exact h
theorem fR{g g':HF}{base:Nat}{t:TypeId}{s x:AV}{d:Jl}(h:Hq P g base t s x=some d)(ha:∀f∈d.fs,Di g g' f):Hq P g' base t s x=some d:=by
 unfold Hq at h ⊢
 simp only[abH]at h ⊢
 obtain⟨e,h1,n,h2,by_,h3,z,h4,⟨nfl,new,fs⟩,h5,h⟩:=h
 have hfs:(∀f∈fs,f∈d.fs):=by
  simp only at h
  split at h
  ·simp at h
  ·split at h
   ·split at h<;>simp at h<;>subst h<;>exact fun f hf=>hf
   ·split at h<;>simp at h
    subst h;exact fun f hf=>hf
   ·split at h
    ·split at h<;>simp at h
     subst h;exact fun f hf=>ab1 _ hf
    ·simp at h
   ·simp at h
 refine⟨e,h1,n,h2,by_,h3,z,h4,(nfl,new,fs),rM h5 (fun f hf=>ha f (hfs f hf)),?_⟩
 simp only at h ⊢
 split at h
 ·simp at h
 ·rename_i hn
  rw[if_neg hn]
  cases new with
  |nil=>exact h
  |cons n0 new=>
   cases s with
   |slr st b r len=>
    simp only at h ⊢
    split at h
    ·rename_i st' fl' w' rows' hg
     split at h
     ·rename_i hc
      simp at h
      subst h
      have hb:g' b=g b:=ha (.blk b) (acM ..)
      rw[hb,hg]
      simp only
      rw[if_pos hc]
      rfl
     ·simp at h
    ·simp at h
   |_=>exact h
theorem aeW{g g':HF}{base:Nat}{t:List AV}{o:Op}{d:Jl}(h:exec P g base t o=some d)(ha:∀f∈d.fs,Di g g' f):exec P g' base t o=some d:=by
 cases o with
 |load ty x=>
  simp only[exec,abH]at h ⊢
  obtain⟨p,h1,h2⟩:=h
  exact⟨p,h1,aaH h2 ha⟩
 |store ty x y=>
  simp only[exec,abH]at h ⊢
  obtain⟨p,h1,v,h2,h3⟩:=h
  exact⟨p,h1,v,h2,wT h3 ha⟩
 |makeFunc fn xs ys=>cases fn<;>exact h
 |slice ty x lo hi mx=>cases mx<;>exact h
 |call c=>
  obtain⟨cal,args,ts⟩:=c
  cases cal with
  |builtin b=>
   simp only[exec,abH]at h ⊢
   obtain⟨vs,h1,h⟩:=h
   refine⟨vs,h1,?_⟩
   split at h
   ·exact h
   ·simp only[abH]at h ⊢
    obtain⟨t0,h2,t1,h3,h⟩:=h
    refine⟨t0,h2,t1,h3,?_⟩
    split at h
    ·exact fR h ha
    ·exact fR h ha
    ·simp at h
   ·exact h
   ·exact h
   ·exact h
   ·exact h
   ·simp at h
  |_=>exact h
 |_=>exact h
def Uw(base:Nat)(F:Nat→Option Jl)(d:Jl):Prop:=(∀b c,Ad.new b c∈d.es→b=base)∧((∀b c,Ad.new b c∉d.es)→∀base',F base'=some d)
theorem mV{base:Nat}{v:AV}{d:Jl}(h:eI base v=some d):Uw base (fun b=>eI b v) d:=by
 unfold eI at h
 split at h<;>simp at h
 subst h
 exact⟨fun b c hb=>by simp at hb;exact hb.1,fun hn=>(hn _ _ (acT.2 rfl)).elim⟩
theorem eD{base:Nat}{t:TypeId}{len:Nat}{parts:List (Nat × AV)}{d:Jl}(h:Dh P base t len parts=some d):Uw base (fun b=>Dh P b t len parts) d:=by
 unfold Dh at h
 simp only[abH]at h
 obtain⟨e,h1,n,h2,z,h3,h⟩:=h
 split at h
 ·simp at h
 ·obtain⟨rows,h4,h⟩:=abH.1 h
  split at h<;>simp at h
  subst h
  exact⟨fun b c hb=>by simp at hb;exact hb.1,fun hn=>(hn _ _ (acT.2 rfl)).elim⟩
theorem hZ{base:Nat}{t:TypeId}{l c:AV}{d:Jl}(h:Hz P base t l c=some d):Uw base (fun b=>Hz P b t l c) d:=by
 unfold Hz at h
 simp only[abH]at h
 obtain⟨e,h1,n,h2,b,h3,z,h4,h⟩:=h
 split at h
 ·split at h<;>simp at h
  subst h
  exact⟨fun b c hb=>by simp at hb;exact hb.1,fun hn=>(hn _ _ (acT.2 rfl)).elim⟩
 ·simp at h
theorem bY{g:HF}{base:Nat}{t:TypeId}{s x:AV}{d:Jl}(h:Hq P g base t s x=some d):Uw base (fun b=>Hq P g b t s x) d:=by
 have h0:=h
 unfold Hq at h
 simp only[abH]at h
 obtain⟨e,h1,n,h2,by_,h3,z,h4,⟨nfl,new,fs⟩,h5,h⟩:=h
 simp only at h
 split at h
 ·simp at h
 ·rename_i hn
  cases new with
  |nil=>
   refine⟨fun b c hb=>?_,fun _ base'=>?_⟩
   ·simp only at h
    split at h<;>simp at h<;>subst h<;>simp at hb
   ·unfold Hq
    simp only[abH]
    refine⟨e,h1,n,h2,by_,h3,z,h4,(nfl,[],fs),h5,?_⟩
    simp only;rw[if_neg hn];exact h
  |cons n0 new=>
   cases s with
   |nils=>
    simp only at h
    split at h<;>simp at h
    subst h
    exact⟨fun b c hb=>by simp at hb;exact hb.1,fun hn=>(hn _ _ (acT.2 rfl)).elim⟩
   |slr st b r len=>
    simp only at h
    split at h
    ·split at h<;>simp at h
     subst h
     exact⟨fun b c hb=>by simp at hb;exact hb.1,fun hn=>(hn _ _ (ab1 _ (acT.2 rfl))).elim⟩
    ·simp at h
   |_=>simp at h
theorem ab4{g:HF}{base:Nat}{t:List AV}{o:Op}{d:Jl}(h:exec P g base t o=some d):Uw base (fun b=>exec P g b t o) d:=by
 have still:(∀base',exec P g base' t o=exec P g base t o)→d.es=[]→Uw base (fun b=>exec P g b t o) d:=fun h1 h2=>
  ⟨fun b c hb=>by rw[h2]at hb;simp at hb,fun _ base'=>(h1 base').trans h⟩
 have pure':∀{x:Option AV} {d:Jl},Ha x=some d→d.es=[]:=fun hx=>by
  obtain⟨v,_,rfl⟩:=ajQ.1 hx;rfl
 have lift:∀{α:Type} {x:Option α} {F:Nat→α→Option Jl} (v:α),x=some v→Uw base (fun b=>F b v) d→Uw base (fun b=>x.bind (F b)) d:=fun v hv k=>by
  subst hv;exact k
 have goodE:(∀(he:exec P g base t o=some d),d.es=[])→(∀base',exec P g base' t o=exec P g base t o)→Uw base (fun b=>exec P g b t o) d:=fun h1 h2=>still h2 (h1 h)
 cases o with
 |alloc ty=>obtain⟨z,h1,h⟩:=abH.1 h;exact lift z h1 (mV h)
 |box ty x=>obtain⟨z,h1,h⟩:=abH.1 h;exact lift z h1 (mV h)
 |buildSlice ty n ps=>obtain⟨z,h1,h⟩:=abH.1 h;exact lift z h1 (eD h)
 |makeSlice ty x y=>
  obtain⟨p,h1,h⟩:=abH.1 h
  obtain⟨q,h2,h⟩:=abH.1 h
  exact lift p h1 (lift q h2 (hZ h))
 |makeFunc fn xs ys=>
  cases fn with
  |func f=>
   refine still (fun _=>rfl) ?_
   simp only[exec,abH]at h
   obtain⟨p,_,v,_,h⟩:=h
   simp at h;subst h;rfl
  |_=>simp[exec]at h
 |slice ty x lo hi mx=>
  cases mx with
  |some m=>simp[exec]at h
  |none=>
   refine still (fun _=>rfl) ?_
   simp only[exec,abH]at h
   obtain⟨p,_,v,_,u,_,h⟩:=h
   exact pure' h
 |call c=>
  obtain⟨cal,args,ts⟩:=c
  cases cal with
  |builtin b=>
   obtain⟨vs,hvs,he⟩:=abH.1 h
   have hx:Uw base (fun b'=>exec P g b' t (.call ⟨.builtin b,args,ts⟩)) d:=by
    simp only[exec]
    refine lift vs hvs ?_
    split at he
    ·obtain⟨t0,q1,q2⟩:=abH.1 he
     exact⟨fun b c hb=>by rw[pure' q2]at hb;simp at hb,fun _ _=>he⟩
    ·obtain⟨t0,q1,q2⟩:=abH.1 he
     obtain⟨t1,q3,q4⟩:=abH.1 q2
     refine lift t0 q1 (lift t1 q3 ?_)
     split at q4
     ·exact bY q4
     ·exact bY q4
     ·simp at q4
    ·exact⟨fun b c hb=>by rw[pure' he]at hb;simp at hb,fun _ _=>he⟩
    ·exact⟨fun b c hb=>by rw[pure' he]at hb;simp at hb,fun _ _=>he⟩
    ·exact⟨fun b c hb=>by rw[pure' he]at hb;simp at hb,fun _ _=>he⟩
    ·exact⟨fun b c hb=>by rw[pure' he]at hb;simp at hb,fun _ _=>he⟩
    ·simp at he
   exact hx
  |_=>simp[exec]at h
 |load ty x=>
  refine still (fun _=>rfl) ?_
  obtain⟨p,_,he⟩:=abH.1 h
  unfold Px at he
  simp only[abH]at he
  obtain⟨isA,_,n,_,he⟩:=he
  split at he
  ·split at he<;>simp at he;subst he;rfl
  ·obtain⟨cs,_,he⟩:=abH.1 he
   split at he<;>simp at he;subst he;rfl
  ·simp at he;subst he;rfl
  ·obtain⟨cs,_,he⟩:=abH.1 he
   obtain⟨v,_,rfl⟩:=ajQ.1 he;rfl
  ·simp at he
 |store ty x y=>
  refine⟨fun b c hb=>?_,fun _ _=>h⟩
  simp only[exec,abH]at h
  obtain⟨p,_,v,_,he⟩:=h
  unfold Sm at he
  obtain⟨n,_,he⟩:=abH.1 he
  cases p with
  |ptr b r o=>
   simp only at he
   split at he
   ·obtain⟨cs,_,he⟩:=abH.1 he
    split at he<;>simp at he
    subst he;simp at hb
   ·simp at he
  |_=>simp at he
 |move x=>exact still (fun _=>rfl) (pure' h)
 |assign x=>exact still (fun _=>rfl) (pure' h)
 |pick a b c=>
  refine still (fun _=>rfl) ?_
  simp only[exec,abH]at h
  obtain⟨c,_,x,_,y,_,he⟩:=h
  split at he<;>simp at he
  subst he;rfl
 |build ty ps=>obtain⟨z,_,he⟩:=abH.1 h;exact still (fun _=>rfl) (pure' he)
 |nilCheck x=>
  refine still (fun _=>rfl) ?_
  obtain⟨p,_,he⟩:=abH.1 h
  split at he<;>simp at he<;>subst he<;>rfl
 |binOp op ty x y yt=>
  refine still (fun _=>rfl) ?_
  simp only[exec,abH]at h
  obtain⟨p,_,v,_,he⟩:=h;exact pure' he
 |unOp op ty x=>obtain⟨z,_,he⟩:=abH.1 h;exact still (fun _=>rfl) (pure' he)
 |convert s ty x=>obtain⟨z,_,he⟩:=abH.1 h;exact still (fun _=>rfl) (pure' he)
 |makeInterface ty x=>
  refine still (fun _=>rfl) ?_
  obtain⟨z,_,he⟩:=abH.1 h
  split at he<;>simp at he;subst he;rfl
 |fieldAddr ty x f=>obtain⟨z,_,he⟩:=abH.1 h;exact still (fun _=>rfl) (pure' he)
 |field ty x f=>obtain⟨z,_,he⟩:=abH.1 h;exact still (fun _=>rfl) (pure' he)
 |indexAddr ty x y=>
  refine still (fun _=>rfl) ?_
  simp only[exec,abH]at h
  obtain⟨p,_,v,_,he⟩:=h;exact pure' he
 |index ty x y=>
  refine still (fun _=>rfl) ?_
  simp only[exec,abH]at h
  obtain⟨p,_,v,_,he⟩:=h;exact pure' he
 |extract x i=>
  refine still (fun _=>rfl) ?_
  obtain⟨z,_,he⟩:=abH.1 h
  split at he
  ·exact pure' he
  ·simp at he
 |_=>simp[exec]at h
end
section
variable {P:Program} {O:Fe} {g g':HF}
theorem Or{α β:Type}{f f':α→Option β}:∀{l:List α},(∀a∈l,f a=f' a)→As f l=As f' l
 | [],_=>rfl
 |a::l,h=>by
  simp only[As]
  rw[h a (acM ..),Or (fun b hb=>h b (ab1 _ hb))]
theorem Js{α β:Type}{f f':α→List β}:∀{l:List α},(∀a∈l,f a=f' a)→l.flatMap f=l.flatMap f'
 | [],_=>rfl
 |a::l,h=>by
  simp only[anO]
  rw[h a (acM ..),Js (fun b hb=>h b (ab1 _ hb))]
theorem Xw:∀{d:Nat} {v:AV},(∀b∈Au d g v,g' b=g b)→Gi d g' v=Gi d g v∧Au d g' v=Au d g v
 |0,v,_=>⟨rfl,rfl⟩
 |d+1,v,h=>by
  cases v with
  |slr st b r len=>
   have hb:Gf g' b r len=Gf g b r len:=bS (h b (by simp[Au]))
   simp only[Gi,Au,hb]
   cases hr:Gf g b r len with
   |none=>exact⟨rfl,rfl⟩
   |some x=>
    obtain⟨st',fl,rows⟩:=x
    cases fl with
    |true=>exact⟨rfl,rfl⟩
    |false=>
     have hin:∀cs∈rows,∀c∈cs,Gi d g' c=Gi d g c∧Au d g' c=Au d g c:=fun cs hcs c hc=>Xw fun b' hb'=>h b' (by
      simp only[Au,hr]
      exact ab1 _ (adK.2 ⟨cs,hcs,adK.2 ⟨c,hc,hb'⟩⟩))
     refine⟨?_,?_⟩
     ·show(As (As (Gi d g')) rows).map (AV.imm st' false)=(As (As (Gi d g)) rows).map (AV.imm st' false)
      rw[Or (fun cs hcs=>Or (fun c hc=>(hin cs hcs c hc).1))]
     ·show b::rows.flatMap (fun cs=>cs.flatMap (Au d g'))=b::rows.flatMap (fun cs=>cs.flatMap (Au d g))
      rw[Js (fun cs hcs=>Js (fun c hc=>(hin cs hcs c hc).2))]
  |agg cs=>
   have hin:∀c∈cs,Gi d g' c=Gi d g c∧Au d g' c=Au d g c:=fun c hc=>Xw fun b' hb'=>h b' (by simp only[Au];exact adK.2 ⟨c,hc,hb'⟩)
   simp only[Gi,Au]
   rw[Or (fun c hc=>(hin c hc).1),Js (fun c hc=>(hin c hc).2)]
   exact⟨rfl,rfl⟩
  |iface t x=>
   have:=Xw (d:=d) (v:=x) (fun b' hb'=>h b' (by simpa only[Au]using hb'))
   simp only[Gi,Au]
   rw[this.1,this.2]
   exact⟨rfl,rfl⟩
  |func fn a b=>cases a<;>cases b<;>exact⟨rfl,rfl⟩
  |_=>exact⟨rfl,rfl⟩
theorem jG:∀{d:Nat} {v:AV},(∀b∈Au d g v,g' b=g b)→Ie d g' v=Ie d g v
 |0,v,_=>rfl
 |d+1,v,h=>by
  cases v with
  |slr st b r len=>exact(Xw h).1
  |agg cs=>
   have hin:∀c∈cs,Ie d g' c=Ie d g c:=fun c hc=>jG fun b' hb'=>h b' (by simp only[Au];exact adK.2 ⟨c,hc,hb'⟩)
   simp only[Ie]
   rw[Or hin]
  |iface t x=>
   have:=jG (d:=d) (v:=x) (fun b' hb'=>h b' (by simpa only[Au]using hb'))
   simp only[Ie]
   rw[this]
  |_=>rfl
theorem jN:∀{n i:Nat} {m m':List Nat} {cs:List CB},Jm n g i m=some (cs,m')→i≤m.length→(∀b∈m',g' b=g b)→Jm n g' i m=some (cs,m')
 |0,_,_,_,_,h,_,_=>by simp[Jm]at h
 |n+1,i,m,m',cs,h,hi,hm=>by
  have hpre:=(eJ h hi).1
  unfold Jm at h ⊢
  cases hb:m[i]? with
  |none=>rw[hb]at h;exact h
  |some b=>
   rw[hb]at h
   simp only[abH,ajQ]at h ⊢
   obtain⟨c,h1,⟨c',m1⟩,h2,⟨cs',m2⟩,h3,h4⟩:=h
   simp at h4
   obtain⟨rfl,rfl⟩:=h4
   have hlt:=(adA.1 hb).1
   have hmem:b∈m2:=(List.IsPrefix.subset hpre) (asR hb)
   refine⟨c,by rw[hm b hmem];exact h1,(c',m1),h2,(cs',m2),?_,rfl⟩
   have hl:i+1≤m1.length:=by have:=((sB h2).1).length_le;omega
   exact jN h3 hl hm
theorem sH{m m':List Nat}{vs vs':List AV}{cs:List CB}(h:Jy g m vs=some (vs',cs,m'))(hm:∀b∈m',g' b=g b):Jy g' m vs=some (vs',cs,m'):=by
 unfold Jy at h ⊢
 simp only[abH,ajQ]at h ⊢
 obtain⟨⟨v1,m1⟩,h1,⟨c1,m2⟩,h2,h3⟩:=h
 simp at h3
 obtain⟨rfl,rfl,rfl⟩:=h3
 exact⟨_,h1,_,jN h2 (Nat.zero_le _) hm,rfl⟩
theorem fA:∀{l:List Nat},(∀b∈l,g' b=g b)→Dx g' l=Dx g l
 | [],_=>rfl
 |b::l,h=>by
  simp only[Dx]
  rw[h b (acM ..),fA (fun x hx=>h x (ab1 _ hx))]
theorem nN{base:Nat}{lent m:List Nat}{cs:List CB}{out:Ec}{h':Aa}{d:Ky}(h:Ln g base lent m cs out h'=some d):d.fs=(lent++m).map .blk:=by
 unfold Ln at h
 simp only[abH]at h
 obtain⟨v,_,ps,_,ns,_,h⟩:=h
 simp at h
 subst h;simp
theorem xA{base:Nat}{f:Us}{args:List AV}{d:Ky}(h:Ea O g base f args=some d)(ha:∀x∈d.fs,Di g g' x):
 Ea O g' base f args=some d∧As (Ie 12 g') args=As (Ie 12 g) args∧∀vs vs' cs m,As (Ie 12 g) args=some vs→Jy g' [] vs=some (vs',cs,m)→Jy g [] vs=some (vs',cs,m):=by
 unfold Ea at h ⊢
 simp only[abH]at h
 obtain⟨vs,hvs,⟨vs',cs,m⟩,hp,h⟩:=h
 simp only at h
 split at h
 ·simp at h
 ·rename_i hlm
  simp only[abH]at h
  obtain⟨⟨out,h'⟩,hc,hu⟩:=h
  simp only at hu
  have hfs:=nN hu
  have hl:∀b∈args.flatMap (Au 12 g),g' b=g b:=fun b hb=>ha (.blk b) (by rw[hfs];exact ajR.2 ⟨b,aoC _ hb,rfl⟩)
  have hm:∀b∈m,g' b=g b:=fun b hb=>ha (.blk b) (by rw[hfs];exact ajR.2 ⟨b,anP _ hb,rfl⟩)
  have hin:∀x∈args,Gi 12 g' x=Gi 12 g x∧Au 12 g' x=Au 12 g x:=fun x hx=>Xw fun b hb=>hl b (adK.2 ⟨x,hx,hb⟩)
  have hlen:args.flatMap (Au 12 g')=args.flatMap (Au 12 g):=Js fun x hx=>(hin x hx).2
  have harg:As (Ie 12 g') args=As (Ie 12 g) args:=Or fun x hx=>jG fun b hb=>hl b (adK.2 ⟨x,hx,hb⟩)
  have hp':=sH hp hm
  refine⟨?_,harg,fun vs1 vs1' cs1 m1 q1 q2=>?_⟩
  ·simp only[abH]
   refine⟨vs,by rw[harg];exact hvs,(vs',cs,m),hp',?_⟩
   simp only[hlen]
   rw[if_neg hlm]
   simp only[abH]
   refine⟨(out,h'),hc,?_⟩
   simp only
   unfold Ln at hu ⊢
   rw[fA hl]
   exact hu
  ·rw[hvs]at q1;cases q1
   rw[hp']at q2
   rw[hp];exact q2
theorem eM{base:Nat}{f:Us}{args:List AV}{d:Ky}(h:Jq O g base f args=some d):d.fs=[.all]:=by
 unfold Jq at h
 obtain⟨_,_,h⟩:=abH.1 h
 obtain⟨_,_,h⟩:=abH.1 h
 obtain⟨_,_,rfl⟩:=ajQ.1 h
 rfl
theorem aa3{base:Nat}{f:Us}{args:List AV}{d:Ky}(h:Fz O g base f args=some d)(ha:∀x∈d.fs,Di g g' x):
 Fz O g' base f args=some d∧As (Ie 12 g') args=As (Ie 12 g) args∧∀vs vs' cs m,As (Ie 12 g) args=some vs→Jy g' [] vs=some (vs',cs,m)→Jy g [] vs=some (vs',cs,m):=by
 have sh:Jq O g base f args=some d→g'=g:=fun h=>ha .all (by rw[eM h];simp)
 by_cases hp:Xg O f args
 ·obtain⟨n,_,k2⟩:=hp.eq
  rw[k2]at h ⊢
  exact xA h ha
 ·rw[Wc hp]at h ⊢
  have:=sh h
  subst this
  exact⟨h,rfl,fun _ _ _ _ _ q=>q⟩
end
section
variable {P:Program} {O:Fe}
def lI(O:Fe)(P:Program)(ops:List Oper)(t:List AV)(g:HF)(base:Nat)(o:Oper):Option Jl:=
 match Fg ops t o with
 |none=>none
 |some false=>some ⟨.tup [],[],[]⟩
 |some true=>
  match Gm o.op with
  | .call c=>(callee t c).bind fun(f,args)=>(Fz O g base f args).bind fun d=>match d.out with
    | .ret v=>some ⟨v,d.es,d.fs⟩
    | .pan _=>none
  | .panic _=>none
  | .other=>exec P g base t o.op
inductive jK(O:Fe)(P:Program)(ops:List Oper):List (Oper × Jl)→St→St→Prop
 |nil (s:St):jK O P ops [] s s
 |cons {o:Oper} {d:Jl} {l:List (Oper × Jl)} {s s':St}:lI O P ops s.tmps (hf s.h) s.h.length o=some d→Eg s.h d.es→jK O P ops l ⟨put s.tmps o.dst d.v,Ar s.h d.es⟩ s'→jK O P ops ((o,d)::l) s s'
theorem lZ{ops:List Oper}{gs:List Nat}{k:St→Xr→R}{r:Ex × St}:∀{rest:List Oper} {i:Nat} {s:St} {log:Xr},Fq O P ops gs rest i s log k (fun _ _=>none)=some r→
 ∃recs s',jK O P ops recs s s'∧recs.map (·.1)=rest∧k s' (log++recs.map fun x=>(x.2.es,x.2.fs))=some r
 | [],i,s,log,h=>⟨[],s,.nil s,rfl,by simpa [Fq]using h⟩
 |o::rest,i,s,log,h=>by
  have fin:∀(d:Jl),lI O P ops s.tmps (hf s.h) s.h.length o=some d→Eg s.h d.es→Fq O P ops gs rest (i+1) ⟨put s.tmps o.dst d.v,Ar s.h d.es⟩ (log++[(d.es,d.fs)]) k (fun _ _=>none)=some r→
   ∃recs s',jK O P ops recs s s'∧recs.map (·.1)=o::rest∧k s' (log++recs.map fun x=>(x.2.es,x.2.fs))=some r:=fun d h1 h2 h3=>by
   obtain⟨recs,s',k1,k2,k3⟩:=lZ h3
   exact⟨(o,d)::recs,s',.cons h1 h2 k1,by simp[k2],by simpa using k3⟩
  unfold Fq at h
  split at h
  ·simp at h
  ·rename_i hw
   exact fin ⟨.tup [],[],[]⟩ (by simp only[lI,hw]) (.nil _) h
  ·rename_i hw
   cases hk:Gm o.op with
   |call c=>
    rw[hk]at h
    simp only[abH]at h
    obtain⟨⟨fc,args⟩,hcal,d,hd,h⟩:=h
    simp only at hd
    cases ho:d.out with
    |ret v=>
     rw[ho]at h
     simp only[Ft]at h
     refine fin ⟨v,d.es,d.fs⟩ ?_ (bL hd) h
     simp only[lI,hw,hk,abH]
     exact⟨(fc,args),hcal,d,hd,by simp only[ho]⟩
    |pan v=>rw[ho]at h;simp at h
   |panic x=>
    rw[hk]at h
    simp only[abH]at h
    obtain⟨v,hv,h⟩:=h
    split at h<;>simp at h
   |other=>
    rw[hk]at h
    simp only[abH,Ft]at h
    obtain⟨d,hd,h⟩:=h
    exact fin d (by simp only[lI,hw,hk];exact hd) (oJ hd) h
def tS:(Nat→Bool)→List (Oper × Jl)→List AV→List AV
 |_,[],t=>t
 |D,x::l,t=>tS (fun n=>D (n+1)) l (if D 0=true then put t x.1.dst x.2.v else t)
def gS:(Nat→Bool)→List (Oper × Jl)→HF→HF
 |_,[],g=>g
 |D,x::l,g=>gS (fun n=>D (n+1)) l (if D 0=true then Ap g x.2.es else g)
theorem tN:∀{l:List (Oper × Jl)} {D D':Nat→Bool} {t:List AV},(∀i,i<l.length→D i=D' i)→tS D l t=tS D' l t
 | [],_,_,_,_=>rfl
 |x::l,D,D',t,h=>by
  simp only[tS]
  rw[h 0 (by simp),tN (fun i hi=>h (i+1) (by simp;omega))]
theorem uX:∀{l:List (Oper × Jl)} {D D':Nat→Bool} {g:HF},(∀i,i<l.length→D i=D' i)→gS D l g=gS D' l g
 | [],_,_,_,_=>rfl
 |x::l,D,D',g,h=>by
  simp only[gS]
  rw[h 0 (by simp),uX (fun i hi=>h (i+1) (by simp;omega))]
theorem pM:∀{l:List (Oper × Jl)} {D:Nat→Bool} {t:List AV},(∀i,D i=false)→tS D l t=t
 | [],_,_,_=>rfl
 |x::l,D,t,h=>by simp only[tS];rw[h 0];exact pM (fun i=>h (i+1))
theorem iQ:∀{l:List (Oper × Jl)} {D:Nat→Bool} {g:HF},(∀i,D i=false)→gS D l g=g
 | [],_,_,_=>rfl
 |x::l,D,g,h=>by simp only[gS];rw[h 0];exact iQ (fun i=>h (i+1))
theorem sF(i:Nat):(fun n=>decide (n+1<i+1))=fun n=>decide (n<i):=by funext n;simp
theorem jK.at{ops:List Oper}:∀{recs:List (Oper × Jl)} {s s':St},jK O P ops recs s s'→∀i o d,recs[i]?=some (o,d)→
 ∃h:Aa,lI O P ops (tS (fun n=>decide (n<i)) recs s.tmps) (gS (fun n=>decide (n<i)) recs (hf s.h)) h.length o=some d∧gS (fun n=>decide (n<i)) recs (hf s.h)=hf h∧Eg h d.es∧s.h.length≤h.length∧h.length≤s'.h.length∧
  (∀b,Hk d.es b→b<s'.h.length)∧∀j o' d',j<i→recs[j]?=some (o',d')→∀b,Hk d'.es b→b<h.length
 |_,_,_,.nil s,i,o,d,h=>by simp at h
 |_,s,s',.cons (o:=o0) (d:=d0) (l:=l) h1 h2 h3,i,o,d,h=>by
  obtain⟨e1,e2,e3,e4⟩:=Vn h2.ok
  have hlast:(Ar s.h d0.es).length≤s'.h.length:=by
   have aux:∀{recs:List (Oper × Jl)} {s s':St},jK O P ops recs s s'→s.h.length≤s'.h.length:=fun hr=>by
    induction hr with
    |nil=>exact adF _
    |cons _ k2 _ ih=>exact ajS (Vn k2.ok).2.1 ih
   exact aux h3
  cases i with
  |zero=>
   simp at h
   obtain⟨rfl,rfl⟩:=h
   refine⟨s.h,?_,?_,h2,adF _,ajS e2 hlast,fun b hb=>aoD (e3 b hb) hlast,fun j _ _ hj=>by omega⟩
   ·rw[pM (fun i=>by simp),iQ (fun i=>by simp)];exact h1
   ·rw[iQ (fun i=>by simp)]
  |succ i=>
   simp at h
   obtain⟨hh,k1,k2,k3,k4,k5,k6,k7⟩:=jK.at h3 i o d h
   simp only[tS,gS,sF]
   simp only[Nat.zero_lt_succ,decide_true,if_true]
   rw[←e1]
   refine⟨hh,k1,k2,k3,ajS e2 k4,k5,k6,fun j o' d' hj hr b hb=>?_⟩
   cases j with
   |zero=>simp at hr;obtain⟨rfl,rfl⟩:=hr;exact aoD (e3 b hb) k4
   |succ j=>exact k7 j o' d' (by omega) (by simpa using hr) b hb
theorem Eg.trans{h:Aa}{es es':List Ad}(a:Eg h es)(b:Eg (Ar h es) es'):Eg h (es++es'):=by
 obtain⟨k1,k2,k3,k4⟩:=Vn a.ok
 have ok:∀(es:List Ad) (h:Aa),Yo h.length es→Yo (Ar h es).length es'→Yo h.length (es++es'):=by
  intro es
  induction es with
  |nil=>intro h _ q;exact q
  |cons e es ih=>
   intro h q1 q2
   cases e with
   |new b c=>
    obtain⟨r1,r2⟩:=q1
    exact⟨r1,by have:=ih (h++[c]) (by simpa using r2) q2;simpa using this⟩
   |put b c=>
    obtain⟨r1,r2⟩:=q1
    exact⟨r1,by have:=ih (h.set b c) (by simpa using r2) q2;simpa using this⟩
   |cells b r o vs=>
    obtain⟨r1,r2⟩:=q1
    have hl:(Cb h (.cells b r o vs)).length=h.length:=by
     simp only[Cb];split<;>simp
    exact⟨r1,by have:=ih (Cb h (.cells b r o vs)) (by rw[hl];exact r2) q2;rw[hl]at this;exact this⟩
 have fa:∀(es:List Ad) (g:HF),Ap g (es++es')=Ap (Ap g es) es':=by
  intro es
  induction es with
  |nil=>intro g;rfl
  |cons e es ih=>intro g;exact ih _
 have eid:∀b,Hk (es++es') b↔Hk es b∨Hk es' b:=fun b=>by
  constructor
  ·rintro⟨e,he,Ff⟩
   rcases anS.1 he with he|he
   ·exact .inl ⟨e,he,Ff⟩
   ·exact .inr ⟨e,he,Ff⟩
  ·rintro(⟨e,he,Ff⟩|⟨e,he,Ff⟩)
   ·exact⟨e,aoC _ he,Ff⟩
   ·exact⟨e,anP _ he,Ff⟩
 refine⟨ok es h a.ok b.ok,fun x hx hlt=>?_,fun x hx=>?_⟩
 ·rw[fa,←k1]
  by_cases h1:Hk es x
  ·refine⟨(a.touched x h1 hlt).1,fun c hc=>?_⟩
   by_cases h2:Hk es' x
   ·exact(b.touched x h2 (k3 x h1)).2 c hc
   ·rw[b.untouched x h2,k1]at hc
    exact(a.touched x h1 hlt).2 c hc
  ·have h2:Hk es' x:=((eid x).1 hx).resolve_left h1
   obtain⟨q1,q2⟩:=b.touched x h2 (aoD hlt k2)
   rw[k1,a.untouched x h1]at q1
   exact⟨q1,q2⟩
 ·have h1:¬Hk es x:=fun e=>hx ((eid x).2 (.inl e))
  have h2:¬Hk es' x:=fun e=>hx ((eid x).2 (.inr e))
  rw[fa,←k1,b.untouched x h2,k1,a.untouched x h1]
def aO(recs:List (Oper × Jl)):List Ad:=recs.flatMap (·.2.es)
theorem ac6{recs:List (Oper × Jl)}{b:Nat}:Hk (aO recs) b↔∃(j:Nat) (o:Oper) (d:Jl),recs[j]?=some (o,d)∧Hk d.es b:=by
 unfold aO
 constructor
 ·rintro⟨e,he,Ff⟩
  obtain⟨x,hx,he⟩:=adK.1 he
  obtain⟨j,hj⟩:=List.mem_iff_getElem?.1 hx
  exact⟨j,x.1,x.2,hj,e,he,Ff⟩
 ·rintro⟨j,o,d,hj,e,he,Ff⟩
  exact⟨e,adK.2 ⟨(o,d),asR hj,he⟩,Ff⟩
theorem Yy:∀{es es':List Ad} {g:Aa},Ar g (es++es')=Ar (Ar g es) es'
 | [],_,_=>rfl
 |e::es,_,_=>Yy (es:=es)
theorem ajE:∀{recs:List (Oper × Jl)} {g:HF},gS (fun _=>true) recs g=Ap g (aO recs)
 | [],g=>rfl
 |x::l,g=>by
  simp only[gS,if_true,aO,anO]
  rw[Po]
  exact ajE
theorem jK.last{ops:List Oper}{recs:List (Oper × Jl)}{s s':St}(h:jK O P ops recs s s'):s'.tmps=tS (fun _=>true) recs s.tmps∧s'.h=Ar s.h (aO recs)∧Eg s.h (aO recs):=by
 induction h with
 |nil s=>exact⟨rfl,rfl,.nil _⟩
 | @cons o d l s s' h1 h2 h3 ih=>
   obtain⟨k1,k2,k3⟩:=ih
   refine⟨?_,?_,?_⟩
   ·simp only[tS,if_true];exact k1
   ·simp only[aO,anO];rw[Yy];exact k2
   ·simp only[aO,anO];exact h2.trans k3
theorem ajZ(t:List AV)(d:Option Nat)(v:AV):(put t d v).length=t.length:=by cases d<;>simp[put]
theorem dH(t:List AV)(d:Option Nat)(v:AV)(x:Nat):Hv (put t d v) x=if d=some x∧x<t.length then v else Hv t x:=by
 cases d with
 |none=>simp[put]
 |some d=>
  simp only[put,Hv,ai4,adI.injEq]
  by_cases h:d=x
  ·subst h
   by_cases h2:d<t.length
   ·simp[h2]
   ·simp[h2]
  ·simp[h]
theorem tH{L:List Nat}:∀{l:List (Oper × Jl)} {D D':Nat→Bool} {t t':List AV},(∀j o d,l[j]?=some (o,d)→D j≠D' j→∀x,o.dst=some x→x∉L)→t.length=t'.length→(∀x∈L,Hv t x=Hv t' x)→
 ∀x∈L,Hv (tS D l t) x=Hv (tS D' l t') x
 | [],D,D',t,t',_,_,h=>h
 |y::l,D,D',t,t',hd,hl,h=>by
  simp only[tS]
  refine tH (fun j o d hj hne=>hd (j+1) o d (by simpa using hj) hne) ?_ ?_
  ·split<;>split<;>simp[ajZ,hl]
  ·intro x hx
   have h0:=hd 0 y.1 y.2 (by simp)
   cases e1:D 0<;>cases e2:D' 0
   ·simpa using h x hx
   ·simp only[adL,if_false,if_true]
    rw[dH,if_neg (fun q=>h0 (by simp[e1,e2]) x q.1 hx)]
    exact h x hx
   ·simp only[adL,if_false,if_true]
    rw[dH,if_neg (fun q=>h0 (by simp[e1,e2]) x q.1 hx)]
    exact h x hx
   ·simp only[if_true]
    rw[dH,dH,hl,h x hx]
theorem rH{f:Du}:∀{l:List (Oper × Jl)} {D D':Nat→Bool} {g g':HF},(∀j o d,l[j]?=some (o,d)→D j≠D' j→∀e∈d.es,e.foot.meets f=false)→Di g g' f→Di (gS D l g) (gS D' l g') f
 | [],D,D',g,g',_,h=>h
 |y::l,D,D',g,g',hd,h=>by
  simp only[gS]
  refine rH (fun j o d hj hne=>hd (j+1) o d (by simpa using hj) hne) ?_
  have h0:=hd 0 y.1 y.2 (by simp)
  cases e1:D 0<;>cases e2:D' 0
  ·simpa using h
  ·simp only[adL,if_false,if_true]
   exact h.trans (Di.edits _ (h0 (by simp[e1,e2])))
  ·simp only[adL,if_false,if_true]
   exact(Di.edits _ (h0 (by simp[e1,e2]))).symm.trans h
  ·simp only[if_true]
   exact Di.boths h
theorem ahG(t:List AV){x y:Option Nat}(v u:AV)(h:∀d,x=some d→y≠some d):put (put t x v) y u=put (put t y u) x v:=by
 cases x with
 |none=>rfl
 |some a=>
  cases y with
  |none=>rfl
  |some b=>simp only[put];exact List.set_comm _ _ (fun e=>h a rfl (by rw[e]))
theorem vU{x:Option Nat}{v:AV}:∀{l:List (Oper × Jl)} {D:Nat→Bool} {t:List AV},(∀j o d,l[j]?=some (o,d)→D j=true→∀c,x=some c→o.dst≠some c)→tS D l (put t x v)=put (tS D l t) x v
 | [],D,t,_=>rfl
 |y::l,D,t,h=>by
  simp only[tS]
  cases e:D 0 with
  |true=>
   simp only[if_true]
   rw[ahG t v y.2.v (h 0 y.1 y.2 (by simp) e)]
   exact vU (fun j o d hj hD=>h (j+1) o d (by simpa using hj) hD)
  |false=>exact vU (fun j o d hj hD=>h (j+1) o d (by simpa using hj) hD)
theorem afM{es:List Ad}:∀{l:List (Oper × Jl)} {D:Nat→Bool} {g:HF},(∀j o d,l[j]?=some (o,d)→D j=true→∀x∈es,∀y∈d.es,x.foot.meets y.foot=false)→gS D l (Ap g es)=Ap (gS D l g) es
 | [],D,g,_=>rfl
 |y::l,D,g,h=>by
  simp only[gS]
  cases e:D 0 with
  |true=>
   simp only[if_true]
   rw[oH g (h 0 y.1 y.2 (by simp) e)]
   exact afM (fun j o d hj hD=>h (j+1) o d (by simpa using hj) hD)
  |false=>exact afM (fun j o d hj hD=>h (j+1) o d (by simpa using hj) hD)
theorem oI:∀{l:List (Oper × Jl)} {D D':Nat→Bool} {t:List AV} {i:Nat} {o:Oper} {d:Jl},l[i]?=some (o,d)→D i=false→D' i=true→(∀j,j≠i→D' j=D j)→
 (∀j o' d',l[j]?=some (o',d')→i<j→D j=true→∀c,o.dst=some c→o'.dst≠some c)→tS D' l t=put (tS D l t) o.dst d.v
 | [],D,D',t,i,o,d,h,_,_,_,_=>by simp at h
 |y::l,D,D',t,i,o,d,h,h1,h2,h3,h4=>by
  cases i with
  |zero=>
   simp at h
   subst h
   simp only[tS,h1,h2,if_true,adL,if_false]
   rw[show(fun n=>D' (n+1))=fun n=>D (n+1)from funext fun n=>h3 (n+1) (by omega)]
   exact vU (fun j o' d' hj hD=>h4 (j+1) o' d' (by simpa using hj) (by omega) hD)
  |succ i=>
   simp only[tS]
   rw[h3 0 (by omega)]
   exact oI (by simpa using h) h1 h2 (fun j hj=>h3 (j+1) (by omega)) (fun j o' d' hj hi hD=>h4 (j+1) o' d' (by simpa using hj) (by omega) hD)
theorem mR:∀{l:List (Oper × Jl)} {D D':Nat→Bool} {g:HF} {i:Nat} {o:Oper} {d:Jl},l[i]?=some (o,d)→D i=false→D' i=true→(∀j,j≠i→D' j=D j)→
 (∀j o' d',l[j]?=some (o',d')→i<j→D j=true→∀x∈d.es,∀y∈d'.es,x.foot.meets y.foot=false)→gS D' l g=Ap (gS D l g) d.es
 | [],D,D',g,i,o,d,h,_,_,_,_=>by simp at h
 |y::l,D,D',g,i,o,d,h,h1,h2,h3,h4=>by
  cases i with
  |zero=>
   simp at h
   subst h
   simp only[gS,h1,h2,if_true,adL,if_false]
   rw[show(fun n=>D' (n+1))=fun n=>D (n+1)from funext fun n=>h3 (n+1) (by omega)]
   exact afM (fun j o' d' hj hD=>h4 (j+1) o' d' (by simpa using hj) (by omega) hD)
  |succ i=>
   simp only[gS]
   rw[h3 0 (by omega)]
   exact mR (by simpa using h) h1 h2 (fun j hj=>h3 (j+1) (by omega)) (fun j o' d' hj hi hD=>h4 (j+1) o' d' (by simpa using hj) (by omega) hD)
theorem vJ{g:HF}{e:Ad}{b:Nat}(h:Bm g e b≠none):g b≠none∨e.id=b:=by
 rw[Jp]at h
 by_cases hb:b=e.id
 ·exact .inr hb.symm
 ·rw[if_neg hb]at h;exact .inl h
theorem mS:∀{es:List Ad} {g:HF} {b:Nat},Ap g es b≠none→g b≠none∨Hk es b
 | [],g,b,h=>.inl h
 |e::es,g,b,h=>by
  rcases mS (es:=es) h with h|⟨x,hx,Ff⟩
  ·rcases vJ h with h|h
   ·exact .inl h
   ·exact .inr ⟨e,acM ..,h⟩
  ·exact .inr ⟨x,ab1 _ hx,Ff⟩
theorem zD:∀{l:List (Oper × Jl)} {D:Nat→Bool} {g:HF} {b:Nat},gS D l g b≠none→g b≠none∨∃j o d,D j=true∧l[j]?=some (o,d)∧Hk d.es b
 | [],D,g,b,h=>.inl h
 |x::l,D,g,b,h=>by
  simp only[gS]at h
  rcases zD h with h|⟨j,o,d,h1,h2,h3⟩
  ·cases e:D 0 with
   |true=>
    rw[e]at h
    simp only[if_true]at h
    rcases mS h with h|h
    ·exact .inl h
    ·exact .inr ⟨0,x.1,x.2,e,by simp,h⟩
   |false=>rw[e]at h;exact .inl h
  ·exact .inr ⟨j+1,o,d,h1,by simpa using h2,h3⟩
end
section
variable {P:Program} {G:Nat→Option Obj} {O:Fe} {F:Fence} {nn:Nat}
theorem ahD(hF:WF F)(hO:Hr P G O){ops:Array Oper}{i:Nat}{o:Oper}(ho:ops[i]?=some o){t:List AV}{g:HF}{base z:Nat}{d:Jl}{a:Act}{w:World}{S:Nat→Prop}(hI:Tf G w S){ρ:Am}
 (H:HR w S ρ g) (T:TR w S ρ t a.tmps) (hz:ρ z=.fresh) (hgf:∀b,g b≠none→ρ b≠.fresh) (hd:lI O P ops.toList t g base o=some d)
 (hmb:∀vs vs' cs m,Jy g [] vs=some (vs',cs,m)→(∀b∈m,Du.blk b∈d.fs)→∀b∈m,b<base) (hall:Du.all∈d.fs→∀b,base≤b→g b=none) (hnew:∀b c,Ad.new b c∈d.es→ρ b=.fresh)
 {Q:Exit→Act→World→Prop} {K:Act→World→Prop}
 (hK:∀cv w' S' ρ',VR w' S' ρ' d.v cv→HR w' S' ρ' (Ap g d.es)→Gu w w' S S' ρ ρ'→Wa (Hk d.es) w w' ρ ρ'→Za d.es ρ ρ'→K (a.put o.dst cv) w'):wpOpIn F nn P ops Q i K a w:=by
 have habout:∀f,o.about P w a.eval=some f→F.fn f:=fun f _=>hF.fn f
 unfold wpOpIn
 simp only[ho]
 unfold lI at hd
 split at hd
 ·simp at hd
 ·rename_i hw
  rw[Qp T hw]
  simp only[adL,if_false]
  simp at hd
  subst hd
  exact⟨habout,hK undef w S ρ Vm H (Gu.refl _ _ _) Wa.refl Za.refl⟩
 ·rename_i hw
  rw[Qp T hw]
  simp only[if_true]
  refine⟨habout,?_⟩
  cases hk:Gm o.op with
  |call c=>
   rw[hk]at hd
   simp only[abH]at hd
   obtain⟨⟨fc,args⟩,hcal,dc,hdc,hd⟩:=hd
   simp only at hdc
   have hop:o.op=.call c∧∀b,c.callee≠.builtin b:=by
    unfold Gm at hk
    split at hk<;>simp at hk
    rename_i c' hnb hop
    subst hk
    exact⟨hop,fun b e=>by obtain⟨cal,as,ts⟩:=c';simp at e;subst e;exact hnb b as ts rfl⟩
   obtain⟨hop,hnb⟩:=hop
   have hsem:o.semAt F.round a.eval=execOp a.eval o:=Oper.semAt_eq _ _ _ (fun c e=>by rw[hop]at e;cases e)
   rw[hsem]
   cases hout:dc.out with
   |pan v=>rw[hout]at hd;simp at hd
   |ret v0=>
    rw[hout]at hd
    simp at hd
    subst hd
    unfold callee at hcal
    split at hcal
    ·rename_i fo hfo
     simp only[abH]at hcal
     obtain⟨fv,hfv,vs,hvs,hcal⟩:=hcal
     have hfr:=An T hfv
     have hvr:=Jw T hvs
     generalize hfe:a.eval fo=cf at hfr
     split at hcal
     ·rename_i f fa fb
      simp only[adI.injEq,Prod.mk.injEq]at hcal
      obtain⟨rfl,rfl⟩:=hcal
      cases hfr with
      | @func _ _ _ _ va vc q1 q2 q3 q4=>
        have hlr:LR w S ρ (fa++vs++fb) (va++c.args.map a.eval++vc).toList:=by
         have e1:(va++c.args.map a.eval++vc).toList=va.toList++c.args.toList.map a.eval++vc.toList:=by simp
         rw[e1]
         exact(LR.append (LR.append ⟨by simpa using q1,fun i x v hx hv=>q3 i x v hx (by simpa using hv)⟩ hvr) ⟨by simpa using q2,fun i x v hx hv=>q4 i x v hx (by simpa using hv)⟩)
        have hmb':∀vs1 vs' cs m,As (Ie 12 g) (fa++vs++fb)=some vs1→Jy g [] vs1=some (vs',cs,m)→Xg O (Yc f (fa++vs++fb)) (fa++vs++fb)→∀b∈m,b<base:=fun vs1 vs' cs m h1 h2 h3=>by
         refine hmb vs1 vs' cs m h2 (fun b hb=>?_)
         have hdc':=hdc
         obtain⟨n3,_,h3⟩:=h3.eq
         rw[h3]at hdc'
         unfold Ea at hdc'
         simp only[abH]at hdc'
         obtain⟨vs2,r1,⟨vs3,cs3,m3⟩,r2,r3⟩:=hdc'
         rw[h1]at r1;cases r1
         rw[h2]at r2;cases r2
         simp only at r3
         split at r3
         ·simp at r3
         ·obtain⟨⟨out,h'⟩,_,r4⟩:=abH.1 r3
          show Du.blk b∈dc.fs
          rw[nN r4]
          exact ajR.2 ⟨b,anP _ hb,rfl⟩
        obtain⟨henter,hcalls⟩:=jB hO hI H hz hgf (kP _ _) hlr hmb' hdc hall hnew
        have hrun:(execOp a.eval o).run P w=.ok (.enter f (va++c.args.map a.eval++vc)) w:=by
         simp only[execOp,hop,Sem.run_bind,resolve,hfo,hfe,Deferred.ofValue,Sem.run_pure,Result.andThen_ok,invoke]
         rw[henter]
        rw[hrun]
        refine⟨fun hdp=>by rw[hF.depth]at hdp;simp at hdp,hF.calls (hcalls.mono fun e w' ⟨cv,S',ρ',he,hv,hHR,hsim,hloc,hfrs⟩=>?_)⟩
        cases e with
        |returned v=>
         obtain⟨⟨x,hx⟩,rfl⟩:=he
         rw[hout]at hv
         exact hK _ w' S' ρ' hv hHR hsim hloc hfrs
        |panicked ch=>
         obtain⟨⟨x,hx⟩,rfl⟩:=he
         rw[hout]at hx;cases hx
        |outgrown=>exact he.elim
     ·rename_i b
      simp only[adI.injEq,Prod.mk.injEq]at hcal
      obtain⟨rfl,rfl⟩:=hcal
      have hyl:∃l,cf=.func (.yield l) #[] #[]:=by cases hfr<;>exact⟨_,rfl⟩
      obtain⟨l,rfl⟩:=hyl
      have hlr:LR w S ρ (vs++[.yl b]) ((c.args.map a.eval).toList++[.func (.yield l) #[] #[]]):=LR.append (by simpa using hvr) (.cons hfr .nil)
      obtain⟨fn,tmps,asg,body,hy,hround⟩:=fE hO hI H hz hgf hlr hdc hall hnew
      have hrun:(execOp a.eval o).run P w=.ok (.round l fn tmps asg body) w:=by
       simp only[execOp,hop,Sem.run_bind,resolve,hfo,hfe,Deferred.ofValue,Sem.run_pure,Result.andThen_ok,invoke]
       simpa using hy
      rw[hrun]
      refine⟨fun hdp=>by rw[hF.depth]at hdp;simp at hdp,(hround F _ hF).mono fun e w' ⟨cv,S',ρ',he,hv,hHR,hsim,hloc,hfrs⟩=>?_⟩
      cases e with
      |returned v=>
       obtain⟨⟨x,hx⟩,rfl⟩:=he
       rw[hout]at hv
       exact hK _ w' S' ρ' hv hHR hsim hloc hfrs
      |panicked ch=>
       obtain⟨⟨x,hx⟩,rfl⟩:=he
       rw[hout]at hx;cases hx
      |outgrown=>exact he.elim
     ·simp at hcal
    ·simp at hcal
  |panic x=>rw[hk]at hd;simp at hd
  |other=>
   rw[hk]at hd
   simp only at hd
   have hsem:o.semAt F.round a.eval=execOp a.eval o:=Oper.semAt_eq _ _ _ (cB hd)
   rw[hsem]
   have hex:∃base',ρ base'=.fresh∧exec P g base' t o.op=some d:=by
    obtain⟨b1,b2⟩:=ab4 hd
    by_cases hn:∃b c,Ad.new b c∈d.es
    ·obtain⟨b,c,hbc⟩:=hn
     have:=b1 b c hbc
     subst this
     exact⟨b,hnew b c hbc,hd⟩
    ·exact⟨z,hz,b2 (fun b c hbc=>hn ⟨b,c,hbc⟩) z⟩
   obtain⟨base',hb',hd'⟩:=hex
   obtain⟨cv,w',ρ',hran,hv,hHR,hsim,hloc,hfrs⟩:=lE H hb' T hd'
   rcases hran with hran|⟨hran,rfl⟩
   ·rw[hran];exact hK cv w' S ρ' hv hHR hsim hloc hfrs
   ·rw[hran];exact hK _ w' S ρ' hv hHR hsim hloc hfrs
theorem tL{ops:List Oper}{o:Oper}{t t':List AV}(h:∀x∈looks ops o,Hv t x=Hv t' x):∀x∈o.op.operands.toList,Ah t x=Ah t' x:=fun x hx=>by
 cases x with
 |tmp y=>
  simp only[Ah]
  rw[h y (aoC _ (asS.2 ⟨_,hx,rfl⟩))]
 |_=>rfl
theorem mM{ops:List Oper}{o:Oper}{t t':List AV}(h:∀x∈looks ops o,Hv t x=Hv t' x):Fg ops t o=Fg ops t' o:=by
 unfold Fg
 cases hg:o.guard with
 |none=>rfl
 |some jw=>
  obtain⟨j,want⟩:=jw
  simp only
  cases hd:(ops[j]?).bind (·.dst)with
  |none=>rfl
  |some y=>
   simp only
   rw[h y (anP _ (by rw[hg];simp[hd]))]
theorem aeO{ops:List Oper}{o:Oper}{t t':List AV}{g g':HF}{base:Nat}{d:Jl}(h:lI O P ops t g base o=some d)(ht:∀x∈looks ops o,Hv t x=Hv t' x)(ha:∀f∈d.fs,Di g g' f):lI O P ops t' g' base o=some d:=by
 unfold lI at h ⊢
 rw[←mM ht]
 split at h
 ·simp at h
 ·exact h
 ·have hev:=tL ht
  cases hk:Gm o.op with
  |call c=>
   rw[hk]at h
   simp only[abH]at h ⊢
   obtain⟨⟨fc,args⟩,hcal,dc,hdc,hd⟩:=h
   have hop:o.op=.call c:=by
    unfold Gm at hk
    split at hk<;>simp at hk
    rename_i c' hnb hop
    subst hk
    exact hop
   refine⟨(fc,args),?_,dc,?_,hd⟩
   ·rw[←rB (fun x hx=>hev x (by rw[hop];exact hx))];exact hcal
   ·refine(aa3 hdc fun f hf=>ha f ?_).1
    cases hout:dc.out with
    |ret v=>rw[hout]at hd;simp at hd;subst hd;exact hf
    |pan v=>rw[hout]at hd;simp at hd
  |panic x=>rw[hk]at h;simp at h
  |other=>
   rw[hk]at h
   simp only at h ⊢
   rw[←acS hev]
   exact aeW h ha
theorem cP{acc:Array Nat}{i:Nat}:∀{l:List Edge} {s:Nat},(l.foldl (fun s e=>if Region.binds .any e then s|||2 ^ e.on|||acc.getD e.on 0 else s) s).testBit i=true→
 s.testBit i=true∨∃e∈l,Region.binds .any e=true∧(e.on=i∨(acc.getD e.on 0).testBit i=true)
 | [],s,h=>.inl h
 |e::l,s,h=>by
  rcases cP (l:=l) h with h|⟨e',he,k1,k2⟩
  ·simp only at h
   by_cases hb:Region.binds .any e=true
   ·rw[if_pos hb,Nat.testBit_or,Nat.testBit_or,Nat.testBit_two_pow]at h
    simp only[Bool.or_eq_true,decide_eq_true_eq]at h
    rcases h with(h|h)|h
    ·exact .inl h
    ·exact .inr ⟨e,acM ..,hb,.inl h⟩
    ·exact .inr ⟨e,acM ..,hb,.inr h⟩
   ·rw[if_neg hb]at h;exact .inl h
  ·exact .inr ⟨e',ab1 _ he,k1,k2⟩
def Ia(acc:Array Nat)(o:Oper):Array Nat:=acc.push (o.after.foldl (fun s e=>if Region.binds .any e then s|||2 ^ e.on|||acc.getD e.on 0 else s) 0)
theorem eL(l:List Oper):∀(A:Array Nat) (pre:List Oper),A.size=pre.length→
 (∀j i,(A.getD j 0).testBit i=true→∃o e,pre[j]?=some o∧e∈o.after.toList∧Region.binds .any e=true∧(e.on=i∨(e.on<j∧(A.getD e.on 0).testBit i=true)))→
 ∀j i,((l.foldl Ia A).getD j 0).testBit i=true→∃o e,(pre++l)[j]?=some o∧e∈o.after.toList∧Region.binds .any e=true∧(e.on=i∨(e.on<j∧((l.foldl Ia A).getD e.on 0).testBit i=true)):=by
 induction l with
 |nil=>intro A pre _ h j i hj;simpa using h j i hj
 |cons o l ih=>
  intro A pre hA h j i hj
  have:=ih (Ia A o) (pre++[o]) (by simp[Ia,hA]) (fun j i hj=>?_) j i hj
  ·simpa using this
  ·have hpush:∀n,n<A.size→(Ia A o).getD n 0=A.getD n 0:=fun n hn=>by
    simp only[Ia,adM,Array.getElem?_push]
    rw[if_neg (by omega)]
   rcases aoU j A.size with hlt|heq|hgt
   ·rw[hpush j hlt]at hj
    obtain⟨o',e,k1,k2,k3,k4⟩:=h j i hj
    refine⟨o',e,?_,k2,k3,?_⟩
    ·rw[asT (by omega)];exact k1
    ·rcases k4 with k4|⟨k4,k5⟩
     ·exact .inl k4
     ·exact .inr ⟨k4,by rw[hpush _ (by omega)];exact k5⟩
   ·subst heq
    have hv:(Ia A o).getD A.size 0=o.after.foldl (fun s e=>if Region.binds .any e then s|||2 ^ e.on|||A.getD e.on 0 else s) 0:=by
     simp[Ia,adM]
    rw[hv,←ao4]at hj
    rcases cP hj with hz|⟨e,k1,k2,k3⟩
    ·simp at hz
    ·refine⟨o,e,by rw[hA];simp,k1,k2,?_⟩
     rcases k3 with k3|k3
     ·exact .inl k3
     ·have hlt:e.on<A.size:=by
       rcases Nat.lt_or_ge e.on A.size with q|q
       ·exact q
       ·rw[adM,asU q]at k3;simp at k3
      exact .inr ⟨hlt,by rw[hpush _ hlt];exact k3⟩
   ·rw[adM,asU (by simp[Ia];omega)]at hj
    simp at hj
theorem sW{ops:Array Oper}{j i:Nat}(h:((Region.before ops).getD j 0).testBit i=true):
 ∃o e,ops[j]?=some o∧e∈o.after.toList∧Region.binds .any e=true∧(e.on=i∨(e.on<j∧((Region.before ops).getD e.on 0).testBit i=true)):=by
 have hb:Region.before ops=ops.toList.foldl Ia #[]:=by unfold Region.before;rw[←ao4];rfl
 rw[hb]at h ⊢
 have:=eL ops.toList #[] [] rfl (fun j i hj=>by simp at hj) j i h
 simpa using this
theorem aR{ops:Array Oper}{D:Nat→Bool}(hc:∀(j:Nat) (o:Oper),ops[j]?=some o→D j=true→∀e∈o.after.toList,Region.binds .any e=true→D e.on=true):∀(j i:Nat),D j=true→((Region.before ops).getD j 0).testBit i=true→D i=true:=by
 intro j
 induction j using anV with
 |_ j ih=>
  intro i hj h
  obtain⟨o,e,k1,k2,k3,k4⟩:=sW h
  have he:=hc j o k1 hj e k2 k3
  rcases k4 with k4|⟨k4,k5⟩
  ·rw[←k4];exact he
  ·exact ih e.on k4 i he k5
theorem aaF{ops:Array Oper}{i j:Nat}(hij:i<j)(hj:j<ops.size)(h:((Region.before ops).getD j 0).testBit i=false):(i,j)∈gW ops.toList:=by
 unfold gW
 simp only[adK,adO,asS,Array.toArray_toList]
 exact⟨j,by simpa using hj,i,hij,by rw[h];simp⟩
end
section
variable {P:Program} {G:Nat→Option Obj} {O:Fe} {F:Fence} {nn:Nat}
def InD(D:Nat→Bool)(recs:List (Oper × Jl))(b:Nat):Prop:=∃(j:Nat) (o:Oper) (d:Jl),D j=true∧recs[j]?=some (o,d)∧Hk d.es b
structure DI(s:St)(recs:List (Oper × Jl))(a0:Act)(w0:World)(S0:Nat→Prop)(ρ0:Am)(D:Nat→Bool)(a:Act)(w:World)(S:Nat→Prop)(ρ:Am):Prop where
 hr:HR w S ρ (gS D recs (hf s.h))
 tr:TR w S ρ (tS D recs s.tmps) a.tmps
 sim:Gu w0 w S0 S ρ0 ρ
 loc:Wa (InD D recs) w0 w ρ0 ρ
 frs:∀b,ρ b=.fresh↔(ρ0 b=.fresh∧¬InD D recs b)
 defers:a.defers=a0.defers
theorem Wb{x y:List Ad × List Du}(h:Qj x y=false):(∀e∈x.1,∀e'∈y.1,e.foot.meets e'.foot=false)∧(∀e∈x.1,∀f∈y.2,e.foot.meets f=false)∧(∀e∈y.1,∀f∈x.2,e.foot.meets f=false):=by
 unfold Qj at h
 simp only[Bool.or_eq_false_iff,anY,ajR,anS]at h
 obtain⟨h1,h2⟩:=h
 refine⟨fun e he e' he'=>?_,fun e he f hf=>?_,fun e he f hf=>?_⟩
 ·have:=h1 e.foot ⟨e,he,rfl⟩
  simp only[aqV,anY,anS,ajR]at this
  exact this e'.foot (.inl ⟨e',he',rfl⟩)
 ·have:=h1 e.foot ⟨e,he,rfl⟩
  simp only[aqV,anY,anS,ajR]at this
  exact this f (.inr hf)
 ·have:=h2 e.foot ⟨e,he,rfl⟩
  simp only[aqV,anY]at this
  exact this f hf
theorem Zp{ops:List Oper}{x y:Oper}(h:dP ops x y=true):(∀d,x.dst=some d→d∉looks ops y∧y.dst≠some d)∧(∀d,y.dst=some d→d∉looks ops x):=by
 unfold dP at h
 rw[adP]at h
 obtain⟨h1,h2⟩:=h
 refine⟨fun d hd=>?_,fun d hd=>?_⟩
 ·rw[hd]at h1;simpa using h1
 ·rw[hd]at h2;simpa using h2
theorem vM{b:Nat}{c:CB}{e:Ad}(h:e.id=b):(Ad.new b c).foot.meets e.foot=true:=by
 cases e<;>simp[Ad.id]at h<;>subst h<;>simp[Ad.foot,Du.meets]
theorem mX{l:Array Bool}{i:Nat}(h:l.getD i true=false):i<l.size∧l.getD i false=false:=by
 rw[adM]at h ⊢
 cases e:l[i]? with
 |none=>rw[e]at h;simp at h
 |some b=>rw[e]at h;simp at h;subst h;exact⟨(adN.1 e).1,rfl⟩
theorem ahN{l:List Nat}{p q:Nat→Bool}(hq:∀x,q x=true→p x=true){i:Nat}(hi:i∈l)(h1:p i=true)(h2:q i=false):(l.filter q).length<(l.filter p).length:=by
 induction l with
 |nil=>simp at hi
 |cons x l ih=>
  have hle:(l.filter q).length≤(l.filter p).length:=by
   clear ih hi
   induction l with
   |nil=>simp
   |cons y l ih=>
    cases e1:q y with
    |true=>rw[aiK e1,aiK (hq y e1)];simpa using ih
    |false=>
     rw[ajT (by simp[e1])]
     cases e2:p y with
     |true=>rw[aiK e2];simp only[an2];omega
     |false=>rw[ajT (by simp[e2])];exact ih
  rcases List.mem_cons.1 hi with rfl|hi
  ·rw[aiK h1,ajT (by simp[h2])];simp only[an2];omega
  ·have:=ih hi
   cases e1:q x with
   |true=>rw[aiK e1,aiK (hq x e1)];simp only[an2];omega
   |false=>
    rw[ajT (by simp[e1])]
    cases e2:p x with
    |true=>rw[aiK e2];simp only[an2];omega
    |false=>rw[ajT (by simp[e2])];exact this
theorem uE(hm:P.follows .mixedOrders=true)(hO:Hr P G O):dI P G O:=by
 intro ops B k r s a0 w0 S0 ρ0 id F nn hF hst hev hI hs
 obtain⟨recs,s',hruns,hmap,hk⟩:=lZ hev
 simp only[asV]at hk
 have hdk:Ez ops.toList (recs.map fun x=>(x.2.es,x.2.fs))=true∧k s' (recs.map fun x=>(x.2.es,x.2.fs))=some r:=by
  unfold Hi at hk
  cases e:Ez ops.toList (recs.map fun x=>(x.2.es,x.2.fs))with
  |true=>rw[e]at hk;exact⟨rfl,hk⟩
  |false=>rw[e]at hk;simp at hk
 obtain⟨hdyn,hk⟩:=hdk
 have hlen:recs.length=ops.size:=by have:=congrArg List.length hmap;simpa using this
 have hget:∀(i:Nat) o d,recs[i]?=some (o,d)→ops[i]?=some o:=fun i o d h=>by
  have:(recs.map (·.1))[i]?=some o:=by rw[ajU,h];rfl
  rw[hmap]at this;simpa using this
 unfold Ol at hst
 rw[adP]at hst
 obtain⟨hedge,hap⟩:=hst
 have pair:∀(i j:Nat) x y,i<j→recs[i]?=some x→recs[j]?=some y→((Region.before ops).getD j 0).testBit i=false→dP ops.toList x.1 y.1=true∧Qj (x.2.es,x.2.fs) (y.2.es,y.2.fs)=false:=fun i j x y hij hi hj hb=>by
  have hjl:j<ops.size:=by rw[←hlen];exact(adA.1 hj).1
  have hmem:=aaF hij hjl hb
  refine⟨?_,?_⟩
  ·have:=acZ.1 hap _ hmem
   have e1:=hget i x.1 x.2 hi
   have e2:=hget j y.1 y.2 hj
   simp only[asW,e1,e2]at this
   exact this
  ·have:=acZ.1 hdyn _ hmem
   simp only[ajU,hi,hj,adJ]at this
   simpa using this
 have FF:=hs.1
 have step:∀(D:Nat→Bool) (i:Nat) (o:Oper) (d:Jl),recs[i]?=some (o,d)→D i=false→
  (∀(j:Nat) (o:Oper),ops[j]?=some o→(D j=true∨j=i)→∀e∈o.after.toList,Region.binds .any e=true→D e.on=true)→
  ∀a w S ρ,DI s recs a0 w0 S0 ρ0 D a w S ρ→∀(Q:Exit→Act→World→Prop) (K:Act→World→Prop) (D':Nat→Bool),D' i=true→(∀j,j≠i→D' j=D j)→
  (∀a' w' S' ρ',DI s recs a0 w0 S0 ρ0 D' a' w' S' ρ'→K a' w')→wpOpIn F nn P ops Q i K a w:=by
  intro D i o d hi hDi hcl a w S ρ hDI Q K D' hD'i hD' hK
  obtain⟨h,t1,t2,t3,t4,t5,t6,t7⟩:=hruns.at i o d hi
  have hil:i<ops.size:=by rw[←hlen];exact(adA.1 hi).1
  have hclD:∀(j:Nat) (o:Oper),ops[j]?=some o→D j=true→∀e∈o.after.toList,Region.binds .any e=true→D e.on=true:=fun j o hj hd=>hcl j o hj (.inl hd)
  have hclD':∀(j:Nat) (o:Oper),ops[j]?=some o→D' j=true→∀e∈o.after.toList,Region.binds .any e=true→D' e.on=true:=fun j o hj hd e he hb=>by
   have hD:D e.on=true:=by
    by_cases hji:j=i
    ·exact hcl j o hj (.inr hji) e he hb
    ·exact hcl j o hj (.inl (by rw[←hD' j hji];exact hd)) e he hb
   have hne:e.on≠i:=fun q=>by rw[q,hDi]at hD;cases hD
   rw[hD' _ hne];exact hD
  have later:∀j o' d',recs[j]?=some (o',d')→i<j→D j=true→dP ops.toList o o'=true∧Qj (d.es,d.fs) (d'.es,d'.fs)=false:=fun j o' d' hj hij hDj=>by
   refine pair i j (o,d) (o',d') hij hi hj ?_
   cases hb:((Region.before ops).getD j 0).testBit i with
   |false=>rfl
   |true=>have:=aR hclD j i hDj hb;rw[hDi]at this;cases this
  have earlier:∀j o' d',recs[j]?=some (o',d')→j<i→D j=false→dP ops.toList o' o=true∧Qj (d'.es,d'.fs) (d.es,d.fs)=false:=fun j o' d' hj hij hDj=>by
   refine pair j i (o',d') (o,d) hij hj hi ?_
   cases hb:((Region.before ops).getD i 0).testBit j with
   |false=>rfl
   |true=>
    have:=aR hclD' i j hD'i hb
    rw[hD' j (by omega),hDj]at this;cases this
  have hdiff:∀j o' d',recs[j]?=some (o',d')→decide (j<i)≠D j→(∀x,o'.dst=some x→x∉looks ops.toList o)∧∀e∈d'.es,∀f∈d.fs,e.foot.meets f=false:=fun j o' d' hj hne=>by
   by_cases hji:j<i
   ·have hDj:D j=false:=by
     cases e:D j with
     |false=>rfl
     |true=>rw[e]at hne;simp[hji]at hne
    obtain⟨q1,q2⟩:=earlier j o' d' hj hji hDj
    exact⟨fun x hx=>((Zp q1).1 x hx).1,fun e he f hf=>(Wb q2).2.1 e he f hf⟩
   ·have hDj:D j=true:=by
     cases e:D j with
     |true=>rfl
     |false=>rw[e]at hne;simp[hji]at hne
    have hij:i<j:=by
     rcases aoU i j with q|q|q
     ·exact q
     ·subst q;rw[hDi]at hDj;cases hDj
     ·omega
    obtain⟨q1,q2⟩:=later j o' d' hj hij hDj
    exact⟨fun x hx=>(Zp q1).2 x hx,fun e he f hf=>(Wb q2).2.2 e he f hf⟩
  have hta:∀x∈looks ops.toList o,Hv (tS (fun n=>decide (n<i)) recs s.tmps) x=Hv (tS D recs s.tmps) x:=
   tH (fun j o' d' hj hne=>(hdiff j o' d' hj hne).1) rfl (fun _ _=>rfl)
  have hga:∀f∈d.fs,Di (gS (fun n=>decide (n<i)) recs (hf s.h)) (gS D recs (hf s.h)) f:=fun f hf=>
   rH (fun j o' d' hj hne e he=>(hdiff j o' d' hj hne).2 e he f hf) (Di.refl _ _)
  have hd:=aeO t1 hta hga
  have hfresh:∀b c,Ad.new b c∈d.es→ρ b=.fresh:=fun b c hb=>by
   have hbl:=Vh t3.ok b c hb
   refine(hDI.frs b).2 ⟨FF.dom b (ajS t4 hbl),fun⟨j,o',d',hDj,hj,hE⟩=>?_⟩
   rcases aoU i j with q|q|q
   ·obtain⟨e,he,Ff⟩:=hE
    have:=(Wb (later j o' d' hj q hDj).2).1 _ hb e he
    rw[vM Ff]at this;cases this
   ·subst q;rw[hDi]at hDj;cases hDj
   ·have:=t7 j o' d' q hj b hE;omega
  have hz:ρ s'.h.length=.fresh:=(hDI.frs _).2 ⟨FF.dom _ (ajS t4 t5),fun⟨j,o',d',hDj,hj,hE⟩=>by
   obtain⟨_,_,_,_,_,_,u6,_⟩:=hruns.at j o' d' hj
   have:=u6 _ hE;omega⟩
  have hgf:∀b,gS D recs (hf s.h) b≠none→ρ b≠.fresh:=fun b hb hfr=>by
   obtain⟨f1,f2⟩:=(hDI.frs b).1 hfr
   rcases zD hb with q|q
   ·have hlt:b<s.h.length:=by
     cases e:hf s.h b with
     |none=>exact(q e).elim
     |some c=>exact La e
    exact FF.all b hlt f1
   ·exact f2 q
  refine ahD hF hO (hget i o d hi) (hI.sim (FF.sim.trans hDI.sim)) hDI.hr hDI.tr hz hgf hd ?_ (fun hm b hb=>by
   have e:gS D recs (hf s.h)=gS (fun n=>decide (n<i)) recs (hf s.h):=hga .all hm
   rw[e,t2];exact qG hb) hfresh ?_
  ·intro vs vs' cs m hp hblk b hb
   have:=sH (g:=gS D recs (hf s.h)) (g':=gS (fun n=>decide (n<i)) recs (hf s.h)) hp (fun b' hb'=>(hga (.blk b') (hblk b' hb')).symm)
   rw[t2]at this
   exact yF this b hb
  ·intro cv w' S' ρ' hv hHR hsim hloc hfrs
   have ht:tS D' recs s.tmps=put (tS D recs s.tmps) o.dst d.v:=oI hi hDi hD'i hD' (fun j o' d' hj hij hDj c hc=>((Zp (later j o' d' hj hij hDj).1).1 c hc).2)
   have hg:gS D' recs (hf s.h)=Ap (gS D recs (hf s.h)) d.es:=mR hi hDi hD'i hD' (fun j o' d' hj hij hDj=>(Wb (later j o' d' hj hij hDj).2).1)
   have hin:∀b,InD D' recs b↔InD D recs b∨Hk d.es b:=fun b=>by
    constructor
    ·rintro⟨j,o',d',q1,q2,q3⟩
     by_cases hji:j=i
     ·subst hji;rw[hi]at q2;cases q2;exact .inr q3
     ·exact .inl ⟨j,o',d',by rw[←hD' j hji];exact q1,q2,q3⟩
    ·rintro(⟨j,o',d',q1,q2,q3⟩|q)
     ·by_cases hji:j=i
      ·subst hji;rw[hDi]at q1;cases q1
      ·exact⟨j,o',d',by rw[hD' j hji];exact q1,q2,q3⟩
     ·exact⟨i,o,d,hD'i,hi,q⟩
   refine hK _ w' S' ρ' ⟨?_,?_,hDI.sim.trans hsim,?_,fun b=>?_,by rw[jP];exact hDI.defers⟩
   ·rw[hg];exact hHR
   ·rw[ht];exact nU (LR.sim hsim hDI.tr) o.dst hv
   ·exact(hDI.loc.trans hloc).mono (fun b hb=>(hin b).2 hb)
   ·rw[hfrs b,hDI.frs b,hin b]
    constructor
    ·rintro⟨⟨q1,q2⟩,q3⟩;exact⟨q1,fun q=>q.elim q2 q3⟩
    ·rintro⟨q1,q2⟩;exact⟨⟨q1,fun q=>q2 (.inl q)⟩,fun q=>q2 (.inr q)⟩
 have fin:∀(D:Nat→Bool) a w S ρ,(∀i,i<ops.size→D i=true)→DI s recs a0 w0 S0 ρ0 D a w S ρ→OQ B k (fun _ _=>none) r .normal a w:=by
  intro D a w S ρ hall hDI
  obtain⟨l1,l2,l3⟩:=hruns.last
  have hgA:gS D recs (hf s.h)=Ap (hf s.h) (aO recs):=by
   rw[←ajE];exact uX (fun i hi=>hall i (by omega))
  have htA:tS D recs s.tmps=s'.tmps:=by rw[l1];exact tN (fun i hi=>hall i (by omega))
  have hinA:∀b,InD D recs b↔Hk (aO recs) b:=fun b=>by
   rw[ac6]
   constructor
   ·rintro⟨j,o,d,_,h1,h2⟩;exact⟨j,o,d,h1,h2⟩
   ·rintro⟨j,o,d,h1,h2⟩;exact⟨j,o,d,hall j (by rw[←hlen];exact(adA.1 h1).1),h1,h2⟩
  have hFI:=FF.step l3 (by rw[←hgA];exact hDI.hr) hDI.sim (hDI.loc.mono fun b hb=>(hinA b).1 hb) (fun b=>by rw[hDI.frs b,hinA b])
  rw[←l2]at hFI
  refine⟨s',recs.map fun x=>(x.2.es,x.2.fs),S,ρ,hk,hFI,?_,?_,?_⟩
  ·rw[←htA];exact hDI.tr
  ·rw[hDI.defers];exact hs.2.2.1.later hs.1.hr hDI.sim
  ·rw[hDI.defers]
   refine⟨hs.2.2.2.1,fun l hl=>?_⟩
   obtain⟨r,hr⟩:=hs.2.2.2.2 l hl
   obtain⟨st,pe,k⟩:=hDI.sim.loops l r hr
   exact⟨_,k⟩
 have main:∀fuel (listed:Array Bool) a w S ρ,listed.size=ops.size→((an8 ops.size).filter fun i=> !listed.getD i false).length≤fuel→
  (∀(j:Nat) (o:Oper),ops[j]?=some o→listed.getD j false=true→∀e∈o.after.toList,Region.binds .any e=true→listed.getD e.on false=true)→
  DI s recs a0 w0 S0 ρ0 (fun i=>listed.getD i false) a w S ρ→wpAnyIn F nn P .any ops (OQ B k (fun _ _=>none) r) fuel listed a w:=by
  intro fuel
  induction fuel with
  |zero=>
   intro listed a w S ρ hsz hcnt hcl hDI
   have hall:∀i,i<ops.size→listed.getD i false=true:=fun i hi=>by
    cases e:listed.getD i false with
    |true=>rfl
    |false=>
     have:i∈(an8 ops.size).filter fun i=> !listed.getD i false:=asA.2 ⟨adO.2 hi,by simp only[e];rfl⟩
     rw[List.length_eq_zero_iff.1 (Nat.le_zero.1 hcnt)]at this;simp at this
   refine⟨?_,fin _ a w S ρ hall hDI⟩
   unfold Region.ready
   rw[List.filter_eq_nil_iff]
   intro i hi hr
   rw[adP]at hr
   have h1:=(mX (l:=listed) (i:=i) (by simpa using hr.1)).2
   rw[hall i (adO.1 hi)]at h1;cases h1
  |succ fuel ih=>
   intro listed a w S ρ hsz hcnt hcl hDI
   refine⟨fun hnil=>fin _ a w S ρ (fun i hi=>?_) hDI,fun i hi=>?_⟩
   ·
    induction i using anV with
    |_ i ihi=>
     cases e:listed.getD i false with
     |true=>rfl
     |false=>
      have hmem:i∈Region.ready .any ops listed:=by
       unfold Region.ready
       refine asA.2 ⟨adO.2 hi,?_⟩
       rw[adP]
       refine⟨?_,?_⟩
       ·have hlt:i<listed.size:=by omega
        rw[adM,asX hlt]at e ⊢
        simp at e ⊢;exact e
       ·have ho:ops[i]?=some ops[i]:=asX hi
        rw[ho]
        simp only[adJ,asY,asL]
        intro ed hed
        have hE:=acZ.1 hedge i (adO.2 (by simpa using hi))
        simp only[asW,ho,asL]at hE
        have:=hE ed hed
        cases hb:Region.binds .any ed with
        |false=>rfl
        |true=>
         rw[hb]at this
         simp at this
         simp only[Bool.not_true,Bool.false_or]
         exact ihi ed.on this (by omega)
      rw[hnil]at hmem;simp at hmem
   ·have hi':=hi
    unfold Region.ready at hi'
    obtain⟨hir,hrd⟩:=asA.1 hi'
    rw[adP]at hrd
    have hir:=adO.1 hir
    obtain⟨g1,g2⟩:=mX (l:=listed) (i:=i) (by simpa using hrd.1)
    have hrec:∃o d,recs[i]?=some (o,d):=⟨_,_,anN (by omega:i<recs.length)⟩
    obtain⟨o,d,hrec⟩:=hrec
    have ho:=hget i o d hrec
    have hafter:∀e∈o.after.toList,Region.binds .any e=true→listed.getD e.on false=true:=fun e he hb=>by
     have:=hrd.2
     rw[ho]at this
     simp only[adJ,asY,asL]at this
     have:=this e (by simpa using he)
     rw[hb]at this
     simpa using this
    have hset:∀j,j≠i→(listed.setIfInBounds i true).getD j false=listed.getD j false:=fun j hj=>getD_set_ne false (Ne.symm hj)
    have hseti:(listed.setIfInBounds i true).getD i false=true:=by
     rw[adM,Array.getElem?_setIfInBounds_self_of_lt g1];rfl
    refine step (fun i=>listed.getD i false) i o d hrec g2 ?_ a w S ρ hDI _ _ (fun j=>(listed.setIfInBounds i true).getD j false) hseti hset ?_
    ·intro j o' hj hor e he hb
     rcases hor with hor|rfl
     ·exact hcl j o' hj hor e he hb
     ·rw[ho]at hj;cases hj;exact hafter e he hb
    ·intro a' w' S' ρ' hDI'
     refine ih (listed.setIfInBounds i true) a' w' S' ρ' (by simpa using hsz) ?_ ?_ hDI'
     ·have:=ahN (l:=an8 ops.size) (p:=fun i=> !listed.getD i false) (q:=fun j=> !(listed.setIfInBounds i true).getD j false) (fun x hx=>by
       by_cases hxi:x=i
       ·subst hxi;rw[hseti]at hx;simp at hx
       ·rw[hset x hxi]at hx;exact hx) (adO.2 hir) (by rw[g2];rfl) (by rw[hseti];rfl)
      omega
     ·intro j o' hj hor e he hb
      have hD:listed.getD e.on false=true:=by
       by_cases hji:j=i
       ·subst hji;rw[ho]at hj;cases hj;exact hafter e he hb
       ·exact hcl j o' hj (by rw[←hset j hji];exact hor) e he hb
      exact getD_set_true hD
 refine wpIn_region_any hm (main ops.size (asM ops.size false) a0 w0.drew S0 ρ0 (by simp) ?_ ?_ ?_)
 ·exact ajS (List.length_filter_le _ _) (by simp)
 ·intro j o _ hj
  rw[adM,asZ]at hj
  split at hj<;>simp at hj
 ·have hno:∀i,(asM ops.size false).getD i false=false:=fun i=>by
   rw[adM,asZ]
   split<;>rfl
  have hnoD:∀b,¬InD (fun i=>(asM ops.size false).getD i false) recs b:=fun b ⟨j,_,_,q,_⟩=>by have h0:=hno j;simp only[h0]at q;cases q
  refine⟨?_,?_,Gu.drew _ _ _,fun b cb co st sz h _=>⟨h,rfl⟩,fun b=>⟨fun h=>⟨h,hnoD b⟩,fun h=>h.1⟩,rfl⟩
  ·rw[iQ hno];exact FF.hr.drew
  ·rw[pM hno];exact LR.sim (Gu.drew _ _ _) hs.2.1
end
section
variable {P:Program} {G:Nat→Option Obj} {O:Fe}
theorem fU{w:World}{S:Nat→Prop}{ρ:Am}:∀{ps:List Nat} {vs:List AV} {cs:List Value} {tmps:List AV} {ct:Array Value},LR w S ρ vs cs→ps.length=vs.length→LR w S ρ tmps ct.toList→
 LR w S ρ (Rk tmps ps vs) ((ps.zip cs).foldl (fun t (p:Nat × Value)=>t.setIfInBounds p.1 p.2) ct).toList
 | [],vs,cs,tmps,ct,_,_,h=>by simpa [Rk]using h
 |p::ps,[],cs,tmps,ct,_,hl,_=>by simp at hl
 |p::ps,v::vs,cs,tmps,ct,hv,hl,h=>by
  obtain⟨c,cs',rfl,h1,h2⟩:=hv.cons_inv
  simp only[Rk,List.zip_cons_cons,List.foldl_cons]
  exact fU h2 (by simpa using hl) (by rw[Array.toList_setIfInBounds];exact h.set p h1)
theorem Gu.loop{w:World}{S:Nat→Prop}{ρ:Am}{b l:Nat}(hb:ρ b=.lp l)(hS:¬S l){r:Loop}(hr:w.heap[l]?=some (.loop r))(st:LoopState)(pe:Option Code):
 Gu w (Ev.setB w l (.loop { r with state:=st,pending:=pe })) S S ρ ρ where
 size:=by simp[Ev.setB]
 os:=rfl
 tape:=rfl
 output:=rfl
 keep:=fun b hb=>Ba (fun e=>hS (e▸hb))
 sub:=fun _ h=>h
 le:=ρ.le_refl
 other:=fun b' _ _ hn=>Ba (fun e=>hn b (by rw[e];exact hb))
 rng:=fun id _ co st sz h=>.inr ⟨id,co,st,sz,h⟩
 grow:=fun _ h=>.inl h
 objs:=fun b o' hb ho=>by rw[Ba (fun e=>by rw[e,hr]at hb;cases hb;simp[Vr]at ho)];exact hb
 loops:=fun b' r' hb'=>by
  by_cases e:b'=l
  ·subst e;rw[hr]at hb';cases hb'
   exact⟨st,pe,Vw hr⟩
  ·exact⟨r'.state,r'.pending,by rw[Ba e];exact hb'⟩
 lrng:=fun id _ h=>.inr ⟨id,h⟩
theorem HR.loop{w:World}{S:Nat→Prop}{ρ:Am}{g:HF}(H:HR w S ρ g){b l:Nat}(hb:ρ b=.lp l){r:Loop}(hr:w.heap[l]?=some (.loop r)){ps:List Nat}{asg body:Code}{tmps:List AV}{st:Qh}
 (hg:g b=some (.lp ps asg body tmps st)) {st':Qh} {x:LoopState} {y:Option Code} (hh:st'.holds x y):HR (Ev.setB w l (.loop { r with state:=x,pending:=y })) S ρ (Jg g b (.lp ps asg body tmps st')):=by
 have hs:=Gu.loop hb (H.lnS b l hb) hr x y
 refine⟨fun b' cb co st sz h=>?_,fun b' h=>?_,H.inj,fun b' h=>by have:=H.old b' h;simpa [Ev.setB]using this,fun b' l' h=>?_,H.linj,H.lnS⟩
 ·obtain⟨c,e,fz,fl,rows,h1,h2,h3,h4⟩:=H.at_ b' cb co st sz h
  have hne:b'≠b:=fun e=>by rw[e,hb]at h;cases h
  refine⟨c,e,fz,fl,rows,by rw[Ba (fun e=>by rw[e,hr]at h1;cases h1)];exact h1,h2,h3.sim hs,by simpa [Jg,hne]using h4⟩
 ·have hne:b'≠b:=fun e=>by rw[e,hb]at h;cases h
  simpa [Jg,hne]using H.dead b' h
 ·by_cases e:b'=b
  ·subst e
   rw[hb]at h;cases h
   obtain⟨r1,ps1,asg1,body1,tmps1,st1,h1,h2,h3⟩:=H.lps _ _ hb
   rw[hr]at h1;cases h1
   rw[hg]at h2;cases h2
   exact⟨_,ps,asg,body,tmps,st',Vw hr,by simp[Jg],h3.params,h3.assign,h3.body,LR.sim hs h3.tmps,hh⟩
  ·obtain⟨r1,ps1,asg1,body1,tmps1,st1,h1,h2,h3⟩:=H.lps _ _ h
   have hne:l'≠l:=fun q=>e (H.linj _ _ _ h (q▸hb))
   exact⟨r1,ps1,asg1,body1,tmps1,st1,by rw[Ba hne];exact h1,by simpa [Jg,e]using h2,h3.sim hs⟩
theorem FI.loop{h0:Aa}{w0:World}{S0:Nat→Prop}{ρ0:Am}{h:Aa}{w:World}{S:Nat→Prop}{ρ:Am}(F:FI h0 w0 S0 ρ0 h w S ρ){b l:Nat}(hb:ρ b=.lp l){r:Loop}(hr:w.heap[l]?=some (.loop r)){ps:List Nat}{asg body:Code}{tmps:List AV}{st:Qh}
 (hg:h[b]?=some (.lp ps asg body tmps st)) {st':Qh} {x:LoopState} {y:Option Code} (hh:st'.holds x y):
 FI h0 w0 S0 ρ0 (h.set b (.lp ps asg body tmps st')) (Ev.setB w l (.loop { r with state:=x,pending:=y })) S ρ:=by
 have hlt:b<h.length:=(adA.1 hg).1
 have hg':hf h b=some (.lp ps asg body tmps st):=hg
 have hes:Eg h [.put b (.lp ps asg body tmps st')]:=by
  refine⟨⟨hlt,trivial⟩,fun b' ⟨e,he,Ff⟩ _=>?_,fun b' hn=>?_⟩
  ·simp at he;subst he;simp[Ad.id]at Ff;subst Ff
   refine⟨⟨_,hg',rfl⟩,fun c hc=>?_⟩
   simp[Ap,Bm,Jg]at hc;subst hc;rfl
  ·simp only[Ap,Bm,Jg]
   rw[if_neg (fun e=>hn ⟨_,acT.2 rfl,e.symm⟩)]
 have:=F.step hes (w':=Ev.setB w l (.loop { r with state:=x,pending:=y })) (S':=S) (ρ':=ρ) (F.hr.loop hb hr hg' hh) (Gu.loop hb (F.hr.lnS b l hb) hr x y)
  (fun b' cb co st sz h' _=>⟨h',Ba (fun e=>by
    obtain⟨_,_,_,_,_,q,_⟩:=F.hr.at_ _ _ _ _ _ h'
    rw[e,hr]at q;cases q)⟩)
  (fun b'=>⟨fun h'=>⟨h',fun⟨e,he,Ff⟩=>by
    simp at he;subst he;simp[Ad.id]at Ff;subst Ff;rw[hb]at h';cases h'⟩,fun h'=>h'.1⟩)
 exact this
theorem WF.inRound{F:Fence}(h:WF F)(l:Nat):WF (F.inRound l):=by
 rcases h with rfl|⟨l',rfl⟩
 ·exact .inr ⟨l,rfl⟩
 ·exact .inr ⟨l,rfl⟩
theorem kU{h h':Aa}{b:Nat}{ok:Qh→Bool}{st:Qh}(hs:Qk h b ok st=some h'):∃ps asg body tmps st',h[b]?=some (.lp ps asg body tmps st')∧ok st'=true∧h'=h.set b (.lp ps asg body tmps st):=by
 unfold Qk at hs
 split at hs
 ·rename_i ps asg body tmps st' hb
  split at hs
  ·rename_i hok;simp at hs;exact⟨ps,asg,body,tmps,st',hb,hok,hs.symm⟩
  ·simp at hs
 ·simp at hs
theorem FI.lpAt{h0:Aa}{w0:World}{S0:Nat→Prop}{ρ0:Am}{h:Aa}{w:World}{S:Nat→Prop}{ρ:Am}(F:FI h0 w0 S0 ρ0 h w S ρ){b l:Nat}(hb:ρ0 b=.lp l){ps:List Nat}{asg body:Code}{tmps:List AV}{st:Qh}
 (hg:h[b]?=some (.lp ps asg body tmps st)):ρ b=.lp l∧∃r,w.heap[l]?=some (.loop r)∧st.holds r.state r.pending:=by
 have hρ:ρ b=.lp l:=by
  rcases F.sim.le b with q|q|q
  ·rw[hb]at q;cases q
  ·rw[q,hb]
  ·have:=F.hr.dead b q
   rw[show hf h b=some _ from hg]at this;cases this
 obtain⟨r,_,_,_,_,_,h1,h2,h3⟩:=F.hr.lps b l hρ
 rw[show hf h b=some _ from hg]at h2;cases h2
 exact⟨hρ,r,h1,h3.state⟩
theorem mI(hO:Hr P G O)(hL:cC P G O)(hD:dI P G O)(hR:Yz P G O){args:List AV}{h h':Aa}{out:Ec}(he:Nx O P args h=some (out,h')){w:World}{S:Nat→Prop}{ρ:Am}{cargs:Array Value}{l:Nat}
 (hI:Tf G w S) (H:HR w S ρ (hf h)) (dom:∀b,h.length≤b→ρ b=.fresh) (all:∀b,b<h.length→ρ b≠.fresh) (hargs:LR w S ρ args (cargs.toList++[.func (.yield l) #[] #[]])):
 ∃fn tmps asg body,(Instr.yield l cargs).run P w=.ok (.round l fn tmps asg body) w∧∀F nn,WF F→RoundIn F nn P l fn tmps asg body w (Og h w S ρ out h'):=by
 unfold Nx at he
 split at he
 ·rename_i b vs hrev
  have ha:args=vs.reverse++[.yl b]:=by have:=congrArg List.reverse hrev;simpa using this
  subst ha
  have hlen:vs.reverse.length=cargs.toList.length:=by have:=hargs.1;simpa using this
  have hvs:LR w S ρ vs.reverse cargs.toList:=by have:=hargs.take vs.reverse.length;rw[as0,hlen,as0]at this<;>first|exact this|rfl
  have hyl:VR w S ρ (.yl b) (.func (.yield l) #[] #[]):=hargs.2 vs.reverse.length _ _ (by simp) (by rw[hlen];simp)
  split at he
  ·rename_i ps asg body tmps st0 hb
   have hρ:ρ b=.lp l:=by
    cases hyl with
    |yl q=>exact q
    |ylD q=>have:=H.dead b q;rw[show hf h b=some _ from hb]at this;cases this
   obtain⟨r,ps1,asg1,body1,tmps1,st1,h1,h2,h3⟩:=H.lps b l hρ
   rw[show hf h b=some _ from hb]at h2;cases h2
   split at he
   ·rename_i hps
    have hsz:cargs.size=r.params.size:=by
     have e1:=congrArg List.length h3.params
     simp at e1 hlen;omega
    refine⟨_,_,_,_,run_yield h1 hsz,fun F nn hF=>roundIn_of_wpIn (hF.fn _) ?_⟩
    rw[h3.assign,h3.body]
    obtain⟨⟨e1,s1⟩,hm1,he⟩:=abH.1 he
    simp only at he
    have hT:TR w S ρ (Rk tmps ps vs.reverse) ((r.params.zip cargs).foldl (fun tmps (t,a)=>tmps.setIfInBounds t a) r.tmps):=by
     have:=fU (ps:=ps) hvs (by simpa using hps) h3.tmps
     rw[←ao4,Array.toList_zip,h3.params]
     exact this
    have hs:Rh ⟨h,w,S,ρ,some l⟩ ⟨Rk tmps ps vs.reverse,h⟩ { tmps:=(r.params.zip cargs).foldl (fun tmps (t,a)=>tmps.setIfInBounds t a) r.tmps,defers:=[] } w S ρ:=
     ⟨FI.start H dom all,hT,fun d hd=>by simp at hd,List.Pairwise.nil,fun l' hl'=>by cases hl';exact⟨r,h1⟩⟩
    refine wpIn_mono (Vt (hF.inRound l) hO hL hD hR rfl hI Nb hm1 hs) (fun ex a1 w1 hk=>?_)
    obtain⟨m,_,e',s',hp,S1,ρ1,hs1,hex⟩:=hk
    simp only[Cj,adI.injEq,Prod.mk.injEq]at hp
    obtain⟨rfl,rfl⟩:=hp
    cases e' with
    |normal=>
     cases ex<;>simp[jA]at hex
     obtain⟨hb1,hset1,he⟩:=abH.1 he
     obtain⟨⟨e2,s2⟩,hm2,he⟩:=abH.1 he
     obtain⟨⟨rb,st2⟩,hre,he⟩:=abH.1 he
     obtain⟨hb2,hset2,he⟩:=abH.1 he
     simp only[adI.injEq,Prod.mk.injEq]at he
     obtain⟨rfl,rfl⟩:=he
     obtain⟨qs,qa,qb,qt,qst,g1,g2,rfl⟩:=kU hset1
     obtain⟨hρ1,r1,hr1,hst1⟩:=hs1.1.lpAt (show(⟨h,w,S,ρ,some l⟩:zP).ρ0 b=.lp l from hρ) g1
     have hready:qst=.ready:=by cases qst<;>simp[Qh.isReady]at g2;rfl
     subst hready
     refine⟨_,run_beginRound hr1 hst1.1,?_⟩
     have hFI1:=hs1.1.loop (st':=.busy) (x:=.busy) (y:=r1.pending) hρ1 hr1 g1 ⟨rfl,hst1.2⟩
     have hs2:Rh ⟨h,w,S,ρ,some l⟩ ⟨s'.tmps,s'.h.set b (.lp qs qa qb qt .busy)⟩ a1 (Ev.setB w1 l (.loop { r1 with state:=.busy,pending:=r1.pending })) S1 ρ1:=
      hs1.later hFI1 (Gu.loop hρ1 (hs1.1.hr.lnS b l hρ1) hr1 .busy r1.pending)
     refine wpIn_mono (Vt (hF.inRound l) hO hL hD hR rfl hI Nb hm2 hs2) (fun ex2 a2 w2 hk2=>?_)
     obtain⟨m',_,e3,s3,hp2,S2,ρ2,hs3,hex2⟩:=hk2
     simp only[Cj,adI.injEq,Prod.mk.injEq]at hp2
     obtain⟨rfl,rfl⟩:=hp2
     obtain⟨us,ua,ub,ut,ust,j1,j2,rfl⟩:=kU hset2
     obtain⟨hρ2,r2,hr2,hst2⟩:=hs3.1.lpAt (show(⟨h,w,S,ρ,some l⟩:zP).ρ0 b=.lp l from hρ) j1
     have last:∀(jump:Option Code),st2.holds (if jump.isNone then .ready else .done) jump→rb=jump.isNone→
      ∃v w',(Instr.endRound l jump).run P w2=.ok v w'∧Og h w S ρ (.ret (.bool rb)) (s3.h.set b (.lp us ua ub ut st2)) (.returned v) w':=fun jump hh hrb=>by
      refine⟨_,_,run_endRound jump hr2,?_⟩
      have hFI2:=hs3.1.loop hρ2 hr2 j1 hh
      subst hrb
      exact⟨_,S2,ρ2,⟨⟨_,rfl⟩,rfl⟩,hFI2.post (VR.bool _)⟩
     cases e3 with
     |normal=>
      cases ex2<;>simp[jA]at hex2
      simp[Py]at hre
      obtain⟨rfl,rfl⟩:=hre
      exact last none ⟨rfl,rfl⟩ rfl
     |ret=>
      cases ex2<;>simp[jA]at hex2
      simp[Py]at hre
      obtain⟨rfl,rfl⟩:=hre
      exact last (some .ret) ⟨rfl,rfl⟩ rfl
     |exit i=>
      cases ex2<;>simp[jA]at hex2
      subst hex2
      simp[Py]at hre
      obtain⟨rfl,rfl⟩:=hre
      exact last (some (.exit i)) ⟨rfl,rfl⟩ rfl
     |pan v=>simp[Py]at hre
    |_=>simp at he
   ·simp at he
  ·simp at he
 ·simp at he
end
section
variable {P:Program} {G:Nat→Option Obj} {O:Fe}
theorem HR.endLoop{w:World}{S:Nat→Prop}{ρ:Am}{g:HF}(H:HR w S ρ g){b l:Nat}(hb:ρ b=.lp l){r:Loop}(hr:w.heap[l]?=some (.loop r))(x:LoopState)(y:Option Code):
 HR (Ev.setB w l (.loop { r with state:=x,pending:=y })) S (ρ.put b .dead) (Jg g b .dead):=by
 have hs:=(Gu.loop hb (H.lnS b l hb) hr x y).trans (Gu.kill _ S ρ b)
 have off:∀b',∀z,z≠.dead→ρ.put b .dead b'=z→b'≠b∧ρ b'=z:=fun b' z hz h=>by
  by_cases e:b'=b
  ·subst e;rw[Am.put_same]at h;exact(hz h.symm).elim
  ·rw[Am.put_other _ _ e]at h;exact⟨e,h⟩
 refine⟨fun b' cb co st sz h=>?_,fun b' h=>?_,fun b1 b2 cb co st sz co' st' sz' h1 h2=>?_,fun b' h=>by have:=H.old b' h;simpa [Ev.setB]using this,fun b' l' h=>?_,fun b1 b2 l' h1 h2=>?_,fun b' l' h=>?_⟩
 ·obtain⟨hne,h⟩:=off b' _ (by simp) h
  obtain⟨c,e,fz,fl,rows,h1,h2,h3,h4⟩:=H.at_ b' cb co st sz h
  exact⟨c,e,fz,fl,rows,by rw[Ba (fun e=>by rw[e,hr]at h1;cases h1)];exact h1,h2,h3.sim hs,by simpa [Jg,hne]using h4⟩
 ·by_cases e:b'=b
  ·subst e;simp[Jg]
  ·rw[Am.put_other _ _ e]at h;simpa [Jg,e]using H.dead b' h
 ·exact H.inj _ _ _ _ _ _ _ _ _ (off b1 _ (by simp) h1).2 (off b2 _ (by simp) h2).2
 ·obtain⟨hne,h⟩:=off b' _ (by simp) h
  obtain⟨r1,ps1,asg1,body1,tmps1,st1,h1,h2,h3⟩:=H.lps _ _ h
  have hnl:l'≠l:=fun q=>hne (H.linj _ _ _ h (q▸hb))
  exact⟨r1,ps1,asg1,body1,tmps1,st1,by rw[Ba hnl];exact h1,by simpa [Jg,hne]using h2,h3.sim hs⟩
 ·exact H.linj _ _ _ (off b1 _ (by simp) h1).2 (off b2 _ (by simp) h2).2
 ·exact H.lnS _ _ (off b' _ (by simp) h).2
theorem FI.endLoop{h0:Aa}{w0:World}{S0:Nat→Prop}{ρ0:Am}{h:Aa}{w:World}{S:Nat→Prop}{ρ:Am}(F:FI h0 w0 S0 ρ0 h w S ρ){b l:Nat}(hb:ρ b=.lp l){r:Loop}(hr:w.heap[l]?=some (.loop r)){ps:List Nat}{asg body:Code}{tmps:List AV}{st:Qh}
 (hg:h[b]?=some (.lp ps asg body tmps st)) (x:LoopState) (y:Option Code):
 FI h0 w0 S0 ρ0 (h.set b .dead) (Ev.setB w l (.loop { r with state:=x,pending:=y })) S (ρ.put b .dead)∧Gu w (Ev.setB w l (.loop { r with state:=x,pending:=y })) S S ρ (ρ.put b .dead):=by
 have hlt:b<h.length:=(adA.1 hg).1
 have hg':hf h b=some (.lp ps asg body tmps st):=hg
 have hs:=(Gu.loop hb (F.hr.lnS b l hb) hr x y).trans (Gu.kill _ S ρ b)
 have hes:Eg h [.put b .dead]:=by
  refine⟨⟨hlt,trivial⟩,fun b' ⟨e,he,Ff⟩ _=>?_,fun b' hn=>?_⟩
  ·simp at he;subst he;simp[Ad.id]at Ff;subst Ff
   refine⟨⟨_,hg',rfl⟩,fun c hc=>?_⟩
   simp[Ap,Bm,Jg]at hc;subst hc;rfl
  ·simp only[Ap,Bm,Jg]
   rw[if_neg (fun e=>hn ⟨_,acT.2 rfl,e.symm⟩)]
 refine⟨F.step hes (w':=Ev.setB w l (.loop { r with state:=x,pending:=y })) (S':=S) (ρ':=ρ.put b .dead) (F.hr.endLoop hb hr x y) hs (fun b' cb co st sz h' _=>⟨?_,Ba (fun e=>?_)⟩) (fun b'=>⟨fun h'=>?_,fun h'=>?_⟩),hs⟩
 ·rw[Am.put_other _ _ (fun e=>by rw[e,hb]at h';cases h')];exact h'
 ·obtain⟨_,_,_,_,_,q,_⟩:=F.hr.at_ _ _ _ _ _ h'
  rw[e,hr]at q;cases q
 ·by_cases e:b'=b
  ·subst e;rw[Am.put_same]at h';cases h'
  ·rw[Am.put_other _ _ e]at h'
   exact⟨h',fun⟨x,hx,Ff⟩=>by simp at hx;subst hx;exact e Ff.symm⟩
 ·rw[Am.put_other _ _ (fun e=>by rw[e,hb]at h';cases h'.1)];exact h'.1
theorem Gu.extra{w:World}{S:Nat→Prop}{ρ:Am}(hS:∀b,S b→b<w.heap.size)(o:Obj):Gu w (w.alloc o) S S ρ ρ where
 size:=by simp
 os:=rfl
 tape:=rfl
 output:=rfl
 keep:=fun b hb=>Ed (hS b hb)
 sub:=fun _ h=>h
 le:=ρ.le_refl
 other:=fun b h _ _=>Ed h
 rng:=fun id _ co st sz h=>.inr ⟨id,co,st,sz,h⟩
 grow:=fun _ h=>.inl h
 objs:=fun b o' hb _=>by rw[Ed (adN.1 hb).1];exact hb
 loops:=fun b r hb=>⟨r.state,r.pending,by rw[Ed (adN.1 hb).1];exact hb⟩
 lrng:=fun id _ h=>.inr ⟨id,h⟩
theorem HR.extra{w:World}{S:Nat→Prop}{ρ:Am}{g:HF}(H:HR w S ρ g)(o:Obj):HR (w.alloc o) S ρ g where
 at_:=fun b cb co st sz h=>by
  obtain⟨c,e,fz,fl,rows,h1,h2,h3,h4⟩:=H.at_ b cb co st sz h
  exact⟨c,e,fz,fl,rows,by rw[Ed (adN.1 h1).1];exact h1,h2,h3.sim (Gu.extra H.old o),h4⟩
 dead:=H.dead
 inj:=H.inj
 old:=fun b h=>by have:=H.old b h;simp;omega
 lps:=fun b l h=>by
  obtain⟨r,ps,asg,body,tmps,st,h1,h2,h3⟩:=H.lps b l h
  exact⟨r,ps,asg,body,tmps,st,by rw[Ed (adN.1 h1).1];exact h1,h2,h3.sim (Gu.extra H.old o)⟩
 linj:=H.linj
 lnS:=H.lnS
theorem FI.extra{h0:Aa}{w0:World}{S0:Nat→Prop}{ρ0:Am}{h:Aa}{w:World}{S:Nat→Prop}{ρ:Am}(F:FI h0 w0 S0 ρ0 h w S ρ)(o:Obj):FI h0 w0 S0 ρ0 h (w.alloc o) S ρ:=
 F.step (Eg.nil h) (F.hr.extra o) (Gu.extra F.hr.old o) (fun b cb co st sz hb _=>⟨hb,Ed (F.hr.lt hb)⟩) (fun b=>⟨fun h=>⟨h,fun⟨e,he,_⟩=>by simp at he⟩,fun h=>h.1⟩)
theorem FI.newLoop{h0:Aa}{w0:World}{S0:Nat→Prop}{ρ0:Am}{h:Aa}{w:World}{S:Nat→Prop}{ρ:Am}(F:FI h0 w0 S0 ρ0 h w S ρ){tmps:List AV}{ct:Array Value}(T:TR w S ρ tmps ct)(fn:FuncId)(ps:Array Tmp)(asg body:Code)(D:Nat):
 FI h0 w0 S0 ρ0 (h++[.lp ps.toList asg body tmps .ready]) (w.alloc (.loop { state:=.ready,pending:=none,fn,tmps:=ct,params:=ps,assign:=asg,body,defers:=D })) S (ρ.put h.length (.lp w.heap.size))∧
 Gu w (w.alloc (.loop { state:=.ready,pending:=none,fn,tmps:=ct,params:=ps,assign:=asg,body,defers:=D })) S S ρ (ρ.put h.length (.lp w.heap.size)):=by
 have hfr:ρ h.length=.fresh:=F.dom _ (adF _)
 generalize ho:Obj.loop { state:=.ready,pending:=none,fn,tmps:=ct,params:=ps,assign:=asg,body,defers:=D }=o
 have hs:Gu w (w.alloc o) S S ρ (ρ.put h.length (.lp w.heap.size)):=by
  have s:=Gu.extra (w:=w) (ρ:=ρ) F.hr.old o
  refine⟨s.size,s.os,s.tape,s.output,s.keep,s.sub,Am.le_put_fresh hfr _,s.other,fun id cb co st sz hi=>?_,s.grow,s.objs,s.loops,fun id l hi=>?_⟩
  ·by_cases e:id=h.length
   ·rw[e,Am.put_same]at hi;cases hi
   ·rw[Am.put_other _ _ e]at hi;exact .inr ⟨id,co,st,sz,hi⟩
  ·by_cases e:id=h.length
   ·rw[e,Am.put_same]at hi;cases hi;exact .inl (adF _)
   ·rw[Am.put_other _ _ e]at hi;exact .inr ⟨id,hi⟩
 have H:=F.hr
 have lplt:∀b l,ρ b=.lp l→l<w.heap.size:=fun b l hb=>by
  obtain⟨_,_,_,_,_,_,h1,_⟩:=H.lps b l hb;exact(adN.1 h1).1
 have hH:HR (w.alloc o) S (ρ.put h.length (.lp w.heap.size)) (Jg (hf h) h.length (.lp ps.toList asg body tmps .ready)):=by
  refine⟨fun b cb co st sz hb=>?_,fun b hb=>?_,fun b1 b2 cb co st sz co' st' sz' h1 h2=>?_,fun b hb=>by have:=H.old b hb;simp;omega,fun b l hb=>?_,fun b1 b2 l h1 h2=>?_,fun b l hb hS=>?_⟩
  ·by_cases e:b=h.length
   ·rw[e,Am.put_same]at hb;cases hb
   ·rw[Am.put_other _ _ e]at hb
    obtain⟨c,e',fz,fl,rows,h1,h2,h3,h4⟩:=H.at_ b cb co st sz hb
    exact⟨c,e',fz,fl,rows,by rw[Ed (adN.1 h1).1];exact h1,h2,h3.sim hs,by simpa [Jg,e]using h4⟩
  ·by_cases e:b=h.length
   ·rw[e,Am.put_same]at hb;cases hb
   ·rw[Am.put_other _ _ e]at hb;simpa [Jg,e]using H.dead b hb
  ·have off:∀x c1 s1 z1,ρ.put h.length (.lp w.heap.size) x=.pl cb c1 s1 z1→ρ x=.pl cb c1 s1 z1:=fun x c1 s1 z1 hx=>by
    by_cases e:x=h.length
    ·rw[e,Am.put_same]at hx;cases hx
    ·rw[Am.put_other _ _ e]at hx;exact hx
   exact H.inj _ _ _ _ _ _ _ _ _ (off _ _ _ _ h1) (off _ _ _ _ h2)
  ·by_cases e:b=h.length
   ·subst e;rw[Am.put_same]at hb;cases hb
    rw[←ho]at hs ⊢
    exact⟨_,ps.toList,asg,body,tmps,.ready,dR,by simp[Jg],rfl,rfl,rfl,LR.sim hs T,rfl,rfl⟩
   ·rw[Am.put_other _ _ e]at hb
    obtain⟨r,ps',asg',body',tmps',st,h1,h2,h3⟩:=H.lps b l hb
    exact⟨r,ps',asg',body',tmps',st,by rw[Ed (adN.1 h1).1];exact h1,by simpa [Jg,e]using h2,h3.sim hs⟩
  ·by_cases e1:b1=h.length<;>by_cases e2:b2=h.length
   ·rw[e1,e2]
   ·rw[e1,Am.put_same]at h1;cases h1;rw[Am.put_other _ _ e2]at h2;have:=lplt _ _ h2;omega
   ·rw[e2,Am.put_same]at h2;cases h2;rw[Am.put_other _ _ e1]at h1;have:=lplt _ _ h1;omega
   ·rw[Am.put_other _ _ e1]at h1;rw[Am.put_other _ _ e2]at h2;exact H.linj _ _ _ h1 h2
  ·by_cases e:b=h.length
   ·rw[e,Am.put_same]at hb;cases hb;have:=H.old _ hS;omega
   ·rw[Am.put_other _ _ e]at hb;exact H.lnS _ _ hb hS
 refine⟨?_,hs⟩
 exact F.step (Eg.new h (.lp ps.toList asg body tmps .ready)) hH hs (fun b cb co st sz hb _=>⟨by rw[Am.put_other _ _ (fun e=>by rw[e,hfr]at hb;cases hb)];exact hb,Ed (H.lt hb)⟩)
  (fun b=>⟨fun hb=>by
    by_cases e:b=h.length
    ·rw[e,Am.put_same]at hb;cases hb
    ·rw[Am.put_other _ _ e]at hb;exact⟨hb,fun⟨x,hx,Ff⟩=>by simp at hx;subst hx;exact e Ff.symm⟩,fun⟨h1,h2⟩=>by
    rw[Am.put_other _ _ (show b≠h.length from fun e=>h2 ⟨_,acT.2 rfl,e.symm⟩)];exact h1⟩)
theorem jU(hO:Hr P G O){F:Fence}{nn:Nat}(hF:WF F){f:Operand}{ps:Array Nat}{asg body:Code}{s:St}{g:Nat}{fa fb:List AV}{d:Ky}{v:AV}{ps':List Nat}{asg' body':Code}{tm':List AV}{st:Qh}{e:Ex}
 (hf:Ah s.tmps f=some (.func (.func g) fa fb))
 (hc:Fz O (Ev.hf (s.h++[.lp ps.toList asg body s.tmps .ready])) (s.h.length+1) (Yc g (fa++[.yl s.h.length]++fb)) (fa++[.yl s.h.length]++fb)=some d) (hout:d.out=.ret v)
 (hlp:(Ar (s.h++[.lp ps.toList asg body s.tmps .ready]) d.es)[s.h.length]?=some (.lp ps' asg' body' tm' st)) (hex:Wg st=some e)
 {B:zP} {a:Act} {w:World} {S:Nat→Prop} {ρ:Am} (hI:Tf G B.w0 B.S0) (hs:Rh B s a w S ρ) (fn:FuncId) (D:Nat):
 ∃dd args,(resolve a.eval (rangeCall f w.heap.size) 0).run P (w.alloc (.loop { state:=.ready,pending:=none,fn,tmps:=a.tmps,params:=ps,assign:=asg,body,defers:=D }))=.ok dd (w.alloc (.loop { state:=.ready,pending:=none,fn,tmps:=a.tmps,params:=ps,assign:=asg,body,defers:=D }))∧
  (invoke dd.target dd.args).run P (w.alloc (.loop { state:=.ready,pending:=none,fn,tmps:=a.tmps,params:=ps,assign:=asg,body,defers:=D }))=.ok (.enter g args) (w.alloc (.loop { state:=.ready,pending:=none,fn,tmps:=a.tmps,params:=ps,assign:=asg,body,defers:=D }))∧
  CallsIn F (nn-1) P g args (w.alloc (.loop { state:=.ready,pending:=none,fn,tmps:=a.tmps,params:=ps,assign:=asg,body,defers:=D }))
   (rangePost F nn P w.heap.size (tG B e ⟨s.tmps,(Ar (s.h++[.lp ps.toList asg body s.tmps .ready]) d.es).set s.h.length .dead⟩) a):=by
 obtain⟨hFI,hsim⟩:=hs.1.newLoop hs.2.1 fn ps asg body D
 generalize hw1:w.alloc (.loop { state:=.ready,pending:=none,fn,tmps:=a.tmps,params:=ps,assign:=asg,body,defers:=D })=w1 at *
 have hs1:=hs.later hFI hsim
 have hfr:=An hs1.2.1 hf
 generalize hfe:a.eval f=cf at hfr
 cases hfr with
 | @func _ _ _ _ va vc q1 q2 q3 q4=>
   have hlr:LR w1 S (ρ.put s.h.length (.lp w.heap.size)) (fa++[.yl s.h.length]++fb) (va++#[Value.func (.yield w.heap.size) #[] #[]]++vc).toList:=by
    have e1:(va++#[Value.func (.yield w.heap.size) #[] #[]]++vc).toList=va.toList++[Value.func (.yield w.heap.size) #[] #[]]++vc.toList:=by simp
    rw[e1]
    exact(LR.append (LR.append ⟨by simpa using q1,fun i x v hx hv=>q3 i x v hx (by simpa using hv)⟩ (.cons (.yl (Am.put_same _ _ _)) .nil)) ⟨by simpa using q2,fun i x v hx hv=>q4 i x v hx (by simpa using hv)⟩)
   obtain⟨henter,hcalls⟩:=fF hO hI hFI (kP _ _) hlr (by simpa using hc)
   refine⟨{ target:=.fn (.func g) vc,args:=va++#[Value.func (.yield w.heap.size) #[] #[]] },va++#[Value.func (.yield w.heap.size) #[] #[]]++vc,?_,?_,?_⟩
   ·simp only[resolve,rangeCall,hfe]
    try simp[go_sem]
   ·simp[invoke,go_sem,henter]
   ·refine hF.calls (hcalls.mono fun en w' ⟨cv,S',ρ',he,hv,hFI2,hsim2⟩=>?_)
    cases en with
    |panicked ch=>obtain⟨⟨x,hx⟩,_⟩:=he;rw[hout]at hx;cases hx
    |outgrown=>exact he.elim
    |returned rv=>
     have hρ':ρ' s.h.length=.lp w.heap.size:=by
      rcases hsim2.le s.h.length with q|q|q
      ·rw[Am.put_same]at q;cases q
      ·rw[q,Am.put_same]
      ·have:=hFI2.hr.dead _ q
       rw[show Ev.hf _ s.h.length=some _ from hlp]at this;cases this
     obtain⟨r,_,_,_,_,_,hr,h2,h3⟩:=hFI2.hr.lps _ _ hρ'
     rw[show Ev.hf _ s.h.length=some _ from hlp]at h2;cases h2
     have hnb:r.state≠.busy:=by
      cases st with
      |ready=>rw[h3.state.1];simp
      |busy=>simp[Wg]at hex
      |done c=>rw[h3.state.1];simp
     refine⟨r.pending,_,run_endLoop hr hnb,?_⟩
     obtain⟨hFI3,hsim3⟩:=hFI2.endLoop hρ' hr hlp .exhausted r.pending
     have hs3:=(hs1.later hFI2 hsim2).later hFI3 hsim3
     cases st with
     |ready=>
      rw[h3.state.2]at hs3 ⊢
      simp[Wg]at hex;subst hex
      exact⟨_,_,hs3,trivial⟩
     |busy=>simp[Wg]at hex
     |done c=>
      rw[h3.state.2]at hs3 ⊢
      cases c<;>simp[Wg]at hex<;>subst hex
      ·exact wpIn_exit ⟨_,_,hs3,rfl⟩
      ·exact wpIn_ret ⟨_,_,hs3,trivial⟩
theorem nK(hO:Hr P G O):Yz P G O:=by
 intro f ps asg body s g fa fb d v ps' asg' body' tm' st e hf hc hout hlp hex F nn hF B a w S ρ hB hI hs
 refine wpIn_rangeFunc (fun fn _=>?_)
 rcases hF with rfl|⟨l,rfl⟩
 ·have hs':Rh B s { a with defers:={ target:=.collected w.heap.size,args:=#[] }::a.defers } (w.alloc (.deferred (some []))) S ρ:=by
   have hm:=hs.later (hs.1.extra (.deferred (some []))) (Gu.extra hs.1.hr.old _)
   refine⟨hm.1,hm.2.1,fun d hd=>?_,?_,hm.2.2.2.2⟩
   ·rcases List.mem_cons.1 hd with rfl|hd
    ·exact⟨w.heap.size,rfl,dR,fun h=>Nat.lt_irrefl _ (hs.1.hr.old _ h),hs.1.sim.size⟩
    ·exact hm.2.2.1 d hd
   ·refine List.pairwise_cons.2 ⟨fun d hd=>?_,hs.2.2.2.1⟩
    obtain⟨r,rfl,k2,_⟩:=hs.2.2.1 d hd
    have:=(adN.1 k2).1
    simp[tZ];omega
  obtain⟨dd,args,k1,k2,k3⟩:=jU (nn:=nn) hO (.inl rfl) hf hc hout hlp hex hI hs' fn w.heap.size
  have hsz:(w.alloc (.deferred (some []))).heap.size=w.heap.size+1:=by simp
  rw[hsz]at k1 k3
  exact⟨_,_,_,dd,_,g,args,_,run_enterLoop_outer _ _ _ _ _,k1,fun _ _=>trivial,k2,fun h=>by simp[Fence.wide]at h,k3⟩
 ·obtain⟨r₀,hr₀⟩:=hs.2.2.2.2 l hB
  obtain⟨dd,args,k1,k2,k3⟩:=jU (nn:=nn) hO (F:=Fence.wide.inRound l) (.inr ⟨l,rfl⟩) hf hc hout hlp hex hI hs fn r₀.defers
  exact⟨_,_,_,dd,_,g,args,_,run_enterLoop_inner hr₀ _ _ _ _ _,k1,fun _ _=>trivial,k2,fun h=>by simp[Fence.wide,Fence.inRound]at h,k3⟩
end
section
variable {P:Program} {G:Nat→Option Obj}
def pV(P:Program)(G:Nat→Option Obj)(pr:Oh):Prop:=∀f p,pr f=some p→∀args h out h',p args h=some (out,h')→
 (∀args w,(callFunc f args).run P w=.ok (.enter f args) w)∧
 ∀w S ρ (cargs:Array Value),Tf G w S→HR w S ρ (hf h)→(∀b,h.length≤b→ρ b=.fresh)→(∀b,b<h.length→ρ b≠.fresh)→LR w S ρ args cargs.toList→Calls P f cargs w (Og h w S ρ out h')
theorem vV(hN:abO P){pr:Oh}(hP:pV P G pr)(hM:P.follows .mixedOrders=true):∀n,Hr P G (Vf P pr n)∧cC P G (Vf P pr n):=by
 intro n
 induction n using anV with
 |_ n IH=>
  constructor
  ·cases n with
   |zero=>exact⟨fun f args h out h' hc=>by simp[Vf]at hc,fun args h out h' hc=>by simp[Vf]at hc,fun f args h out h' hc=>by simp[Vf]at hc⟩
   |succ n=>
    obtain⟨i1,i2⟩:=IH n (by omega)
    have i3:=uE hM i1
    have i4:=nK i1
    refine⟨fun f args h out h' hc=>?_,fun args h out h' hc w S ρ cargs l hI H dom all hargs=>?_,fun f args h out h' hc=>?_⟩
    ·simp only[Vf]at hc
     split at hc
     ·rename_i p hp;exact hP f p hp args h out h' hc
     ·exact aaK hN i1 i2 i3 i4 hc
    ·simp only[Vf]at hc
     exact mI i1 i2 i3 i4 hc hI H dom all hargs
    ·simp only[Vf]at hc
     split at hc
     ·simp at hc
     ·exact adG hN i1 i2 i3 i4 hc
  ·intro c s e s' hl F nn hF B a w S ρ hB hG hs
   let I:Act→World→Prop:=fun a w=>∃m,m≤n∧∃s S ρ,(Vf P pr m).loop c s=some (e,s')∧Rh B s a w S ρ
   let Q:Act→World→Nat→Prop:=fun a w m=>m≤n∧∃s S ρ,(Vf P pr m).loop c s=some (e,s')∧Rh B s a w S ρ
   have least:∀p:Act × World,∃m,(∃k,Q p.1 p.2 k)→Q p.1 p.2 m∧∀k,Q p.1 p.2 k→m≤k:=fun p=>by
    by_cases hex:∃k,Q p.1 p.2 k
    ·obtain⟨k,hk⟩:=hex
     induction k using anV with
     |_ k ih=>
      by_cases hlt:∃j,j<k∧Q p.1 p.2 j
      ·obtain⟨j,hj,hq⟩:=hlt;exact ih j hj hq
      ·exact⟨k,fun _=>⟨hk,fun j hq=>Nat.le_of_not_lt (fun h=>hlt ⟨j,h,hq⟩)⟩⟩
    ·exact⟨0,fun h=>(hex h).elim⟩
   obtain⟨f,hf⟩:=Classical.axiomOfChoice least
   have μle:∀a w m,Q a w m→f (a,w)≤m:=fun a w m hq=>(hf (a,w) ⟨m,hq⟩).2 m hq
   have μq:∀a w,(∃m,Q a w m)→Q a w (f (a,w)):=fun a w hex=>(hf (a,w) hex).1
   refine wpIn_loop I (fun a w=>f (a,w)) ⟨n,adF _,s,S,ρ,hl,hs⟩ (fun a w hI=>?_)
   obtain⟨hm,s1,S1,ρ1,hl1,hs1⟩:=μq a w (by obtain⟨m,hm,rest⟩:=hI;exact⟨m,hm,rest⟩)
   generalize hmu:f (a,w)=m at hm hl1
   cases m with
   |zero=>simp[Vf]at hl1
   |succ m=>
    obtain⟨i1,i2⟩:=IH m (by omega)
    have i3:=uE hM i1
    have i4:=nK i1
    simp only[Vf,Zc]at hl1
    split at hl1
    ·rename_i e1 s2 hm1
     refine wpIn_mono (Vt hF i1 i2 i3 i4 hB hG Nb hm1 hs1) (fun ex a' w' hk=>?_)
     obtain⟨m',_,e2,s3,hp,S2,ρ2,hs2,hex⟩:=hk
     simp only[Cj,adI.injEq,Prod.mk.injEq]at hp
     obtain⟨rfl,rfl⟩:=hp
     cases e2 with
     |normal=>
      cases ex<;>simp[jA]at hex
      have hq:Q a' w' m:=⟨by omega,s3,S2,ρ2,hl1,hs2⟩
      refine⟨⟨m,hq⟩,?_⟩
      have:=μle a' w' m hq
      omega
     |exit i=>
      cases ex<;>simp[jA]at hex
      simp only[adI.injEq,Prod.mk.injEq]at hl1
      obtain⟨rfl,rfl⟩:=hl1
      exact⟨S2,ρ2,hs2,hex⟩
     |ret=>
      cases ex<;>simp[jA]at hex
      simp only[adI.injEq,Prod.mk.injEq]at hl1
      obtain⟨rfl,rfl⟩:=hl1
      exact⟨S2,ρ2,hs2,trivial⟩
     |pan v=>
      cases ex with
      |panic ch=>
       simp only[adI.injEq,Prod.mk.injEq]at hl1
       obtain⟨rfl,rfl⟩:=hl1
       exact⟨S2,ρ2,hs2,hex⟩
      |_=>simp[jA]at hex
    ·simp at hl1
end
def dO(p:Nat→Prop):Prop:=∃N,∀m,N≤m→p m
theorem dO.mono{p q:Nat→Prop}(h:dO p)(k:∀m,p m→q m):dO q:=by
 obtain⟨N,h⟩:=h;exact⟨N,fun m hm=>k m (h m hm)⟩
theorem dO.and{p q:Nat→Prop}(h:dO p)(k:dO q):dO fun m=>p m∧q m:=by
 obtain⟨N,h⟩:=h;obtain⟨M,k⟩:=k
 exact⟨max N M,fun m hm=>⟨h m (by omega),k m (by omega)⟩⟩
theorem dO.of{p:Nat→Prop}(h:∀m,p m):dO p:=⟨0,fun m _=>h m⟩
structure Cov(O:Fe)(F:Nat→Fe):Prop where
 call:∀{f a h r},O.call f a h=some r→dO fun m=>(F m).call f a h=some r
 loop:∀{c s r},O.loop c s=some r→dO fun m=>(F m).loop c s=some r
 md:∀m,(F m).md=O.md
section
variable {P:Program} {G:Nat→Option Obj} {O:Fe} {F:Nat→Fe}
theorem jY(hC:Cov O F){g:HF}{base:Nat}{f:Us}{args:List AV}{d:Ky}(h:Ea O g base f args=some d):dO fun m=>Ea (F m) g base f args=some d:=by
 unfold Ea at h
 simp only[abH]at h
 obtain⟨vs,h1,⟨vs',cs,m⟩,h2,h⟩:=h
 simp only at h
 split at h
 ·simp at h
 ·rename_i hn
  simp only[abH]at h
  obtain⟨⟨out,h'⟩,h3,h4⟩:=h
  refine(hC.call h3).mono fun n hn'=>?_
  unfold Ea
  simp only[h1,h2,abI,hn,hn']
  simpa using h4
theorem lM(hC:Cov O F){g:HF}{base:Nat}{f:Us}{args:List AV}{d:Ky}(h:Jq O g base f args=some d):dO fun m=>Jq (F m) g base f args=some d:=by
 unfold Jq at h
 obtain⟨h0,h1,h⟩:=abH.1 h
 obtain⟨⟨out,h'⟩,h2,h⟩:=abH.1 h
 refine(hC.call h2).mono fun n hn=>?_
 unfold Jq
 rw[h1,abI,hn]
 exact h
theorem Vk(hC:Cov O F){g:HF}{base:Nat}{f:Us}{args:List AV}{d:Ky}(h:Fz O g base f args=some d):dO fun m=>Fz (F m) g base f args=some d:=by
 cases f with
 |fn f=>exact jY hC h
 |round=>exact lM hC h
 |sh f=>
  cases hq:(kB args||O.md f)with
  |true=>
   simp only[Fz,hq,cond_true]at h
   refine(lM hC h).mono fun m hm=>?_
   simp only[Fz,hC.md m,hq,cond_true];exact hm
  |false=>
   simp only[Fz,hq,cond_false]at h
   refine(jY hC h).mono fun m hm=>?_
   simp only[Fz,hC.md m,hq,cond_false];exact hm
theorem Vj(hC:Cov O F){ops:List Oper}{gs:List Nat}{r:Ex × St}{k:St→Xr→R}{k':Nat→St→Xr→R}{kp:AV→St→R}{kp':Nat→AV→St→R}
 (hk:∀s log,k s log=some r→dO fun m=>k' m s log=some r) (hkp:∀v s,kp v s=some r→dO fun m=>kp' m v s=some r):
 ∀{rest:List Oper} {i:Nat} {s:St} {log:Xr},Fq O P ops gs rest i s log k kp=some r→dO fun m=>Fq (F m) P ops gs rest i s log (k' m) (kp' m)=some r
 | [],i,s,log,h=>hk s log h
 |o::rest,i,s,log,h=>by
  unfold Fq at h
  split at h
  ·simp at h
  ·rename_i hw
   unfold Fq
   simp only[hw]
   exact Vj hC hk hkp h
  ·rename_i hw
   unfold Fq
   simp only[hw]
   cases hkd:Gm o.op with
   |call c=>
    rw[hkd]at h
    simp only[abH,Ft]at h ⊢
    obtain⟨⟨f,args⟩,h1,d,h2,h⟩:=h
    simp only at h2
    cases hout:d.out with
    |ret v=>
     rw[hout]at h
     exact((Vk hC h2).and (Vj hC hk hkp h)).mono fun m hm=>⟨_,h1,d,hm.1,by rw[hout];exact hm.2⟩
    |pan v=>
     rw[hout]at h
     exact((Vk hC h2).and (hkp _ _ h)).mono fun m hm=>⟨_,h1,d,hm.1,by rw[hout];exact hm.2⟩
   |panic x=>
    rw[hkd]at h
    simp only[abH]at h ⊢
    obtain⟨v,h1,h⟩:=h
    split at h
    ·exact(hkp _ _ h).mono fun m hm=>⟨_,h1,hm⟩
    ·simp at h
   |other=>
    rw[hkd]at h
    simp only[abH,Ft]at h ⊢
    obtain⟨d,h1,h⟩:=h
    exact(Vj hC hk hkp h).mono fun m hm=>⟨_,h1,hm⟩
theorem Nr{ev:Code→List Ai→St→R}{ev':Nat→Code→List Ai→St→R}{r:Ex × St}(he:∀c k s,ev c k s=some r→dO fun m=>ev' m c k s=some r):
 ∀{k:List Ai} {e:Ex} {s:St},Cj ev k e s=some r→dO fun m=>Cj (ev' m) k e s=some r
 | [],e,s,h=>.of fun _=>h
 | .code c::k,.normal,s,h=>he c k s h
 | .code c::k,.exit i,s,h=>Nr he (k:=k) h
 | .code c::k,.ret,s,h=>Nr he (k:=k) h
 | .code c::k,.pan v,s,h=>Nr he (k:=k) h
 | .blk id::k,.normal,s,h=>Nr he (k:=k) h
 | .blk id::k,.ret,s,h=>Nr he (k:=k) h
 | .blk id::k,.pan v,s,h=>Nr he (k:=k) h
 | .blk id::k,.exit i,s,h=>by
   simp only[Cj]at h ⊢
   cases hi:(i==id)with
   |true=>rw[hi]at h;exact Nr he (k:=k) h
   |false=>rw[hi]at h;exact Nr he (k:=k) h
theorem Nq(hC:Cov O F){r:Ex × St}:∀(n:Nat) {c:Code} {k:List Ai} {s:St},Db O P n c k s=some r→dO fun m=>Db (F m) P n c k s=some r
 |0,c,k,s,h=>by simp[Db]at h
 |n+1,c,k,s,h=>by
  have IH:∀c k s,Db O P n c k s=some r→dO fun m=>Db (F m) P n c k s=some r:=fun c k s h=>Nq hC n h
  have pop:∀{k:List Ai} {e:Ex} {s:St},Cj (Db O P n) k e s=some r→dO fun m=>Cj (Db (F m) P n) k e s=some r:=fun h=>Nr IH h
  cases c with
  |skip=>exact pop h
  |label l=>exact pop h
  |region id ops draw=>
   cases draw with
   |false=>exact Vj hC (fun s log h=>pop h) (fun v s h=>pop h) h
   |true=>
    simp only[Db,Hi]at h ⊢
    cases hd:Ol ops.toList with
    |false=>rw[hd]at h;simp at h
    |true=>
     rw[hd]at h
     refine Vj hC (fun s log h=>?_) (fun v s h=>by simp at h) h
     cases hdd:Ez ops.toList log with
     |false=>rw[hdd]at h;simp at h
     |true=>rw[hdd]at h;exact pop h
  |seq a b=>exact IH a _ s h
  |cond oc a b=>
   simp only[Db,zU]at h ⊢
   cases he:Ah s.tmps oc with
   |none=>rw[he]at h;simp at h
   |some v=>
    rw[he]at h
    cases v with
    |bool b=>
     cases b with
     |true=>exact IH a k s h
     |false=>exact IH _ k s h
    |_=>simp at h
  |block id c=>exact IH c _ s h
  |loop c=>
   simp only[Db,Zc]at h ⊢
   cases hl:O.loop c s with
   |none=>rw[hl]at h;simp at h
   |some x=>
    obtain⟨e,s'⟩:=x
    rw[hl]at h
    exact((hC.loop hl).and (pop h)).mono fun m hm=>by rw[hm.1];exact hm.2
  |exit id=>exact pop h
  |ret=>exact pop h
  |rangeFunc f ps asg body=>
   simp only[Db,abH]at h ⊢
   obtain⟨fv,h1,h⟩:=h
   split at h
   ·obtain⟨d,h2,h⟩:=abH.1 h
    have fin:∀{e:Ex} {s':St},Cj (Db O P n) k e s'=some r→dO fun m=>Cj (Db (F m) P n) k e s'=some r:=fun h=>pop h
    cases hout:d.out with
    |pan v=>rw[hout]at h;simp at h
    |ret v=>
     rw[hout]at h
     simp only at h
     split at h
     ·rename_i hb
      exact((Vk hC h2).and (fin h)).mono fun m hm=>⟨_,h1,by simp only[hm.1,abI,hout,hb];exact hm.2⟩
     ·rename_i hb
      exact((Vk hC h2).and (fin h)).mono fun m hm=>⟨_,h1,by simp only[hm.1,abI,hout,hb];exact hm.2⟩
     ·rename_i hb
      exact((Vk hC h2).and (fin h)).mono fun m hm=>⟨_,h1,by simp only[hm.1,abI,hout,hb];exact hm.2⟩
     ·simp at h
   ·simp at h
  |scope b=>exact IH b _ s h
  |goto l=>simp[Db]at h
  |refuse s=>simp[Db]at h
theorem yU(hC:Cov O F){f:Nat}{args:List AV}{h:Aa}{r:Ec × Aa}(he:evF O P f args h=some r):dO fun m=>evF (F m) P f args h=some r:=by
 unfold evF at he ⊢
 cases hfn:P.funcs[f]? with
 |none=>rw[hfn]at he;simp at he
 |some fn=>
  rw[hfn]at he
  simp only at he ⊢
  cases hb:fn.body with
  |none=>rw[hb]at he;simp at he
  |some c=>
   rw[hb]at he
   simp only at he ⊢
   obtain⟨x,h1,h2⟩:=abH.1 he
   exact(Nq hC _ h1).mono fun m hm=>by rw[hm];exact h2
theorem zR(hC:Cov O F){f:Nat}{args:List AV}{h:Aa}{r:Ec × Aa}(he:evS O P f args h=some r):dO fun m=>evS (F m) P f args h=some r:=by
 unfold evS at he ⊢
 cases hfn:P.funcs[f]? with
 |none=>rw[hfn]at he;simp at he
 |some fn=>
  rw[hfn]at he
  simp only at he ⊢
  cases hb:fn.body with
  |none=>rw[hb]at he;simp at he
  |some c=>
   rw[hb]at he
   simp only at he ⊢
   obtain⟨x,h1,h2⟩:=abH.1 he
   exact(Nq hC _ h1).mono fun m hm=>by rw[hm];exact h2
theorem gP(hC:Cov O F){args:List AV}{h:Aa}{r:Ec × Aa}(he:Nx O P args h=some r):dO fun m=>Nx (F m) P args h=some r:=by
 unfold Nx at he
 split at he
 ·rename_i b vs hrev
  unfold Nx
  simp only[hrev]
  split at he
  ·rename_i ps asg body tmps st hb
   split at he
   ·rename_i hl
    obtain⟨⟨e,s⟩,h1,h2⟩:=abH.1 he
    cases e with
    |normal=>
     simp only at h2
     obtain⟨x,h3,h4⟩:=abH.1 h2
     obtain⟨y,h5,h6⟩:=abH.1 h4
     exact((Nq hC _ h1).and (Nq hC _ h5)).mono fun m hm=>by
      rw[if_pos hl,hm.1];simp only[abI,h3];rw[hm.2];exact h6
    |_=>simp at h2
   ·simp at he
  ·simp at he
 ·simp at he
def cE(P:Program)(pr:Oh)(O:Fe):Fe where
 call:=fun f args h=>match f with
  | .round=>Nx O P args h
  | .sh f=>match pr f with
    |some _=>none
    |none=>evS O P f args h
  | .fn f=>match pr f with
    |some p=>p args h
    |none=>evF O P f args h
 loop:=fun c s=>Zc (Db O P Nb c [] s) fun e s=>match e with
  | .normal=>O.loop c s
  |e=>some (e,s)
 md:=pr.md
variable {pr:Oh}
theorem afT(n:Nat):Vf P pr (n+1)=cE P pr (Vf P pr n):=rfl
theorem nY(hC:Cov O F):Cov (cE P pr O) (fun m=>cE P pr (F m)) where
 call:=fun {f a h r} hc=>by
  cases f with
  |round=>exact gP hC hc
  |fn f=>
   simp only[cE]at hc ⊢
   cases hp:pr f with
   |some p=>rw[hp]at hc;exact .of fun _=>hc
   |none=>rw[hp]at hc;exact yU hC hc
  |sh f=>
   simp only[cE]at hc ⊢
   cases hp:pr f with
   |some p=>rw[hp]at hc;simp at hc
   |none=>rw[hp]at hc;exact zR hC hc
 loop:=fun {c s r} hl=>by
  simp only[cE,Zc]at hl ⊢
  cases hm:Db O P Nb c [] s with
  |none=>rw[hm]at hl;simp at hl
  |some x=>
   obtain⟨e,s'⟩:=x
   rw[hm]at hl
   cases e with
   |normal=>exact((Nq hC _ hm).and (hC.loop hl)).mono fun m hm=>by rw[hm.1];exact hm.2
   |exit i=>exact(Nq hC _ hm).mono fun m hm=>by rw[hm];exact hl
   |ret=>exact(Nq hC _ hm).mono fun m hm=>by rw[hm];exact hl
   |pan v=>exact(Nq hC _ hm).mono fun m hm=>by rw[hm];exact hl
 md:=fun _=>rfl
theorem dO.const{p:Prop}(h:dO fun _=>p):p:=by
 obtain⟨N,h⟩:=h;exact h N (adF _)
theorem lP:∀(n:Nat),Cov (Vf P pr n) (fun _=>Vf P pr (n+1))
 |0=>⟨fun h=>by simp[Vf]at h,fun h=>by simp[Vf]at h,fun _=>rfl⟩
 |n+1=>nY (lP n)
theorem fM{n m:Nat}(hnm:n≤m){f:Us}{a:List AV}{h:Aa}{r:Ec × Aa}(hc:(Vf P pr n).call f a h=some r):(Vf P pr m).call f a h=some r:=by
 induction hnm with
 |refl=>exact hc
 |step _ ih=>exact((lP _).call ih).const
theorem gB{n m:Nat}(hnm:n≤m){c:Code}{s:St}{r:Ex × St}(hc:(Vf P pr n).loop c s=some r):(Vf P pr m).loop c s=some r:=by
 induction hnm with
 |refl=>exact hc
 |step _ ih=>exact((lP _).loop ih).const
open Classical in
noncomputable def lim{α:Type}(x:Nat→Option α):Option α:=if h:∃n r,x n=some r then x h.choose else none
theorem rP{α:Type}{x:Nat→Option α}(hm:∀n m r,n≤m→x n=some r→x m=some r){r:α}:lim x=some r↔∃n,x n=some r:=by
 unfold lim
 constructor
 ·intro h
  split at h
  ·exact⟨_,h⟩
  ·simp at h
 ·rintro⟨n,hn⟩
  have hex:∃n r,x n=some r:=⟨n,r,hn⟩
  rw[dif_pos hex]
  obtain⟨r',hr'⟩:=hex.choose_spec
  rcases Nat.le_total n hex.choose with h|h
  ·exact hm _ _ _ h hn
  ·have:=hm _ _ _ h hr'
   rw[hn]at this;cases this;exact hr'
noncomputable def om(P:Program)(pr:Oh):Fe where
 call:=fun f a h=>lim fun n=>(Vf P pr n).call f a h
 loop:=fun c s=>lim fun n=>(Vf P pr n).loop c s
 md:=pr.md
theorem Ui{f:Us}{a:List AV}{h:Aa}{r:Ec × Aa}:(om P pr).call f a h=some r↔∃n,(Vf P pr n).call f a h=some r:=rP fun _ _ _ h k=>fM h k
theorem pW{c:Code}{s:St}{r:Ex × St}:(om P pr).loop c s=some r↔∃n,(Vf P pr n).loop c s=some r:=rP fun _ _ _ h k=>gB h k
theorem eO:Cov (om P pr) (Vf P pr) where
 call:=fun h=>by obtain⟨n,hn⟩:=Ui.1 h;exact⟨n,fun m hm=>fM hm hn⟩
 loop:=fun h=>by obtain⟨n,hn⟩:=pW.1 h;exact⟨n,fun m hm=>gB hm hn⟩
 md:=fun m=>by cases m<;>rfl
theorem anM{f:Nat}(hp:pr f=none){a:List AV}{h:Aa}{r:Ec × Aa}(he:evF (om P pr) P f a h=some r):(om P pr).call (.fn f) a h=some r:=by
 obtain⟨N,hN⟩:=yU eO he
 refine Ui.2 ⟨N+1,?_⟩
 have:=hN N (adF _)
 simp only[Vf,hp];exact this
theorem an5{f:Nat}(hp:pr f=none){a:List AV}{h:Aa}{r:Ec × Aa}(he:evS (om P pr) P f a h=some r):(om P pr).call (.sh f) a h=some r:=by
 obtain⟨N,hN⟩:=zR eO he
 refine Ui.2 ⟨N+1,?_⟩
 have:=hN N (adF _)
 simp only[Vf,hp];exact this
theorem amP{f:Nat}{p:List AV→Aa→Option (Ec × Aa)}(hp:pr f=some p){a:List AV}{h:Aa}{r:Ec × Aa}(he:p a h=some r):(om P pr).call (.fn f) a h=some r:=
 Ui.2 ⟨1,by simp only[Vf,hp];exact he⟩
theorem sE{a:List AV}{h:Aa}{r:Ec × Aa}(he:Nx (om P pr) P a h=some r):(om P pr).call .round a h=some r:=by
 obtain⟨N,hN⟩:=gP eO he
 exact Ui.2 ⟨N+1,hN N (adF _)⟩
theorem Xh{c:Code}{s s':St}{r:Ex × St}(hb:Db (om P pr) P Nb c [] s=some (.normal,s'))(hr:(om P pr).loop c s'=some r):(om P pr).loop c s=some r:=by
 obtain⟨N,hN⟩:=Nq eO _ hb
 obtain⟨M,hM⟩:=eO.loop hr
 refine pW.2 ⟨max N M+1,?_⟩
 simp only[Vf,Zc,hN _ (Nat.le_max_left ..)]
 exact hM _ (Nat.le_max_right ..)
theorem Hu{c:Code}{s s':St}{e:Ex}(hb:Db (om P pr) P Nb c [] s=some (e,s'))(he:e≠.normal):(om P pr).loop c s=some (e,s'):=by
 obtain⟨N,hN⟩:=Nq eO _ hb
 refine pW.2 ⟨N+1,?_⟩
 have h1:=hN N (adF _)
 simp only[Vf,Zc]
 rw[h1]
 cases e<;>first|rfl|exact(he rfl).elim
theorem avN(hN:abO P)(hP:pV P G pr)(hM:P.follows .mixedOrders=true):Hr P G (om P pr):=by
 refine⟨fun f args h out h' hc=>?_,fun args h out h' hc=>?_,fun f args h out h' hc=>?_⟩
 ·obtain⟨n,hn⟩:=Ui.1 hc
  exact(vV hN hP hM n).1.1 f args h out h' hn
 ·obtain⟨n,hn⟩:=Ui.1 hc
  exact(vV hN hP hM n).1.2.1 args h out h' hn
 ·obtain⟨n,hn⟩:=Ui.1 hc
  exact(vV hN hP hM n).1.2.2 f args h out h' hn
end
abbrev Tm:=Nat→AV
def mk(n:Nat)(t:Tm):List AV:=(an8 n).map t
def up(t:Tm)(d:Nat)(v:AV):Tm:=fun i=>if i=d then v else t i
def Dn(args:List AV):Tm:=fun i=>(args[i]?).getD (.tup [])
theorem avW(t:Tm)(d:Nat)(v:AV)(i:Nat):up t d v i=if i=d then v else t i:=aaE rfl rfl
theorem ajD(a:AV)(l:List AV):Dn (a::l) 0=a:=aaE rfl rfl
theorem aeX(a:AV)(l:List AV)(i:Nat):Dn (a::l) (i+1)=Dn l i:=by simp[Dn]
theorem akZ(n:Nat)(t:Tm)(i:Nat):Hv (mk n t) i=if i<n then t i else .tup []:=by
 unfold Hv mk
 rw[ajU]
 split
 ·rename_i h;rw[asN h];rfl
 ·rename_i h;rw[ajV (by simpa using h)];rfl
theorem af7(n:Nat)(t:Tm)(d:Nat)(v:AV):(mk n t).set d v=mk n (up t d v):=by
 refine alB fun i=>?_
 unfold mk up
 rw[ai4]
 simp only[List.length_map,List.length_range,ajU]
 by_cases hi:i<n
 ·rw[asN hi]
  by_cases hd:d=i
  ·subst hd;simp[hi]
  ·have:¬i=d:=fun e=>hd e.symm
   simp[hd,this]
 ·rw[ajV (by simpa using hi)]
  by_cases hd:d=i
  ·subst hd;simp[hi]
  ·simp[hd]
theorem ao3(n:Nat)(t:Tm)(d:Nat)(v:AV):put (mk n t) (some d) v=mk n (up t d v):=af7 n t d v
theorem aiM(l:List AV)(v:AV):put l none v=l:=aaE rfl rfl
theorem ah6(n:Nat)(args:List AV)(h:args.length≤n):args++List.replicate (n-args.length) (.tup [])=mk n (Dn args):=by
 refine alB fun i=>?_
 unfold mk Dn
 rw[ajU]
 by_cases hi:i<n
 ·rw[asN hi]
  by_cases hj:i<args.length
  ·rw[asT hj];simp[hj]
  ·rw[List.getElem?_append_right (by omega),List.getElem?_replicate,if_pos (by omega),adJ,ajV (by omega:args.length≤i)];rfl
 ·rw[ajV (by simp;omega),ajV (by simpa using hi)];rfl
section
variable {P:Program} {O:Fe}
def Em(O:Fe)(P:Program)(t:List AV)(h:Aa)(op:Op):Option (Ec × List Ad):=
 match Gm op with
 | .call c=>(callee t c).bind fun(f,args)=>(Fz O (hf h) h.length f args).map fun d=>(d.out,d.es)
 | .panic x=>(Ah t x).bind fun v=>match v with
   | .iface _ _=>some (.pan v,[])
   |_=>none
 | .other=>(exec P (hf h) h.length t op).map fun d=>(.ret d.v,d.es)
def rg(O:Fe)(P:Program)(n:Nat)(k:List Ai)(ops rest:List Oper)(i:Nat)(t:List AV)(h:Aa):R:=
 Fq O P ops (Vd ops) rest i ⟨t,h⟩ [] (fun s _=>Cj (Db O P n) k .normal s) (fun v s=>Cj (Db O P n) k (.pan v) s)
def rgD(O:Fe)(P:Program)(n:Nat)(k:List Ai)(ops rest:List Oper)(i:Nat)(d:Option Nat)(x:Option (Ec × List Ad))(t:List AV)(h:Aa):R:=
 match x with
 |some (.ret v,es)=>rg O P n k ops rest i (put t d v) (Ar h es)
 |some (.pan v,es)=>Cj (Db O P n) k (.pan v) ⟨t,Ar h es⟩
 |none=>none
theorem Qx{ops:List Oper}{gs:List Nat}{k:St→R}{kp:AV→St→R}:∀{rest:List Oper} {i:Nat} {s:St} (log log':Xr),Fq O P ops gs rest i s log (fun s _=>k s) kp=Fq O P ops gs rest i s log' (fun s _=>k s) kp
 | [],i,s,log,log'=>rfl
 |o::rest,i,s,log,log'=>by
  unfold Fq
  split
  ·rfl
  ·exact Qx _ _
  ·split
   ·congr 1;funext x
    obtain⟨f,args⟩:=x
    simp only
    congr 1;funext d
    split
    ·simp only[Ft];exact Qx _ _
    ·rfl
   ·rfl
   ·congr 1;funext d
    simp only[Ft];exact Qx _ _
theorem atB(n:Nat)(k:List Ai)(ops rest:List Oper)(i:Nat)(t:List AV)(h:Aa)(o:Oper)(hw:Fg ops t o=some true):
 rg O P n k ops (o::rest) i t h=rgD O P n k ops rest (i+1) o.dst (Em O P t h o.op) t h:=by
 unfold rg Fq
 simp only[hw]
 unfold Em
 cases hk:Gm o.op with
 |call c=>
  simp only
  cases hc:callee t c with
  |none=>rfl
  |some x=>
   obtain⟨f,args⟩:=x
   cases ha:Fz O (hf h) h.length f args with
   |none=>simp[rgD,ha]
   |some d=>
    simp only[abI,ha,adJ,rgD]
    cases ho:d.out with
    |ret v=>simp only[Ft];exact Qx _ _
    |pan v=>rfl
 |panic x=>
  simp only
  cases he:Ah t x with
  |none=>rfl
  |some v=>cases v<;>simp[rgD,Ar]
 |other=>
  simp only
  cases he:exec P (hf h) h.length t o.op with
  |none=>simp[rgD]
  |some d=>simp only[abI,adJ,rgD,Ft];exact Qx _ _
theorem am6(n:Nat)(k:List Ai)(ops rest:List Oper)(i:Nat)(t:List AV)(h:Aa)(o:Oper)(hw:Fg ops t o=some false):
 rg O P n k ops (o::rest) i t h=rg O P n k ops rest (i+1) (put t o.dst (.tup [])) h:=by
 unfold rg
 conv=>lhs;unfold Fq
 simp only[hw]
 exact Qx _ _
def cdK(O:Fe)(P:Program)(n:Nat)(a b:Code)(k:List Ai)(v:Option AV)(s:St):R:=
 match v with
 |some (.bool true)=>Db O P n a k s
 |some (.bool false)=>Db O P n b k s
 |_=>none
theorem aeN(n:Nat)(a b:Code)(k:List Ai)(s:St):cdK O P n a b k (some (.bool true)) s=Db O P n a k s:=aaE rfl rfl
theorem ac2(n:Nat)(a b:Code)(k:List Ai)(s:St):cdK O P n a b k (some (.bool false)) s=Db O P n b k s:=aaE rfl rfl
def lpK(O:Fe)(P:Program)(n:Nat)(k:List Ai)(x:R):R:=
 match x with
 |some (e,s)=>Cj (Db O P n) k e s
 |none=>none
theorem aiU(n:Nat)(k:List Ai)(s:St):Db O P (n+1) .skip k s=Cj (Db O P n) k .normal s:=aaE rfl rfl
theorem alH(n:Nat)(a b:Code)(k:List Ai)(s:St):Db O P (n+1) (.seq a b) k s=Db O P n a (.code b::k) s:=aaE rfl rfl
theorem aiI(n:Nat)(c:Operand)(a b:Code)(k:List Ai)(t:List AV)(h:Aa):Db O P (n+1) (.cond c a b) k ⟨t,h⟩=cdK O P n a b k (Ah t c) ⟨t,h⟩:=by
 simp only[Db,zU,cdK]
 cases Ah t c with
 |none=>rfl
 |some v=>
  cases v with
  |bool g=>cases g<;>rfl
  |_=>rfl
theorem aaB(n:Nat)(id:Nat)(c:Code)(k:List Ai)(s:St):Db O P (n+1) (.block id c) k s=Db O P n c (.blk id::k) s:=aaE rfl rfl
theorem ai3(n:Nat)(c:Code)(k:List Ai)(s:St):Db O P (n+1) (.loop c) k s=lpK O P n k (O.loop c s):=by
 simp only[Db,Zc,lpK]
 cases O.loop c s<;>rfl
theorem ag6(n:Nat)(id:Nat)(k:List Ai)(s:St):Db O P (n+1) (.exit id) k s=Cj (Db O P n) k (.exit id) s:=aaE rfl rfl
theorem al2(n:Nat)(k:List Ai)(s:St):Db O P (n+1) .ret k s=Cj (Db O P n) k .ret s:=aaE rfl rfl
theorem aiJ(ev:Code→List Ai→St→R)(e:Ex)(s:St):Cj ev [] e s=some (e,s):=aaE rfl rfl
theorem aaS(n:Nat)(c:Code)(k:List Ai)(s:St):Cj (Db O P n) (.code c::k) .normal s=Db O P n c k s:=aaE rfl rfl
theorem kO(ev:Code→List Ai→St→R)(c:Code)(k:List Ai)(i:Nat)(s:St):Cj ev (.code c::k) (.exit i) s=Cj ev k (.exit i) s:=aaE rfl rfl
theorem mD(ev:Code→List Ai→St→R)(c:Code)(k:List Ai)(s:St):Cj ev (.code c::k) .ret s=Cj ev k .ret s:=aaE rfl rfl
theorem agW(ev:Code→List Ai→St→R)(id:Nat)(k:List Ai)(s:St):Cj ev (.blk id::k) .normal s=Cj ev k .normal s:=aaE rfl rfl
theorem qJ(ev:Code→List Ai→St→R)(id:Nat)(k:List Ai)(s:St):Cj ev (.blk id::k) .ret s=Cj ev k .ret s:=aaE rfl rfl
theorem mO(ev:Code→List Ai→St→R)(id i:Nat)(k:List Ai)(s:St):Cj ev (.blk id::k) (.exit i) s=if i=id then Cj ev k .normal s else Cj ev k (.exit i) s:=by
 simp only[Cj]
 by_cases h:i=id
 ·subst h;simp
 ·have:(i==id)=false:=by simpa using h
  rw[this];simp[h]
def fnK(P:Program)(k:Nat)(rs:List ResultVar)(x:R):Option (Ec × Aa):=
 match x with
 |some (.normal,s)|some (.ret,s)=>(Rq P s rs).bind fun vs=>(Qg k (Rl vs) s.h).map fun(v,h)=>(.ret v,h)
 |some (.pan v,s)=>(Qg k v s.h).map fun(v,h)=>(.pan v,h)
 |_=>none
def ahL(k:Nat)(vs:Option (List AV))(h:Aa):Option (Ec × Aa):=vs.bind fun vs=>(Qg k (Rl vs) h).map fun(v,h)=>(.ret v,h)
theorem aqB{f:Nat}{fn:Func}(hf:P.funcs[f]?=some fn){c:Code}(hb:fn.body=some c){args:List AV}(hl:args.length≤fn.ntmps)(h:Aa):
 evF O P f args h=fnK P h.length fn.results.toList (Db O P Nb c [] ⟨mk fn.ntmps (Dn args),h⟩):=by
 unfold evF
 simp only[hf,hb]
 rw[ah6 _ _ hl]
 cases Db O P Nb c [] ⟨mk fn.ntmps (Dn args),h⟩with
 |none=>rfl
 |some x=>
  obtain⟨e,s⟩:=x
  cases e<;>rfl
structure CO where
 dst:Option Nat
 op:Op
 g:Option (Option Nat × Bool)
def Ic(ops:List Oper)(o:Oper):CO:=⟨o.dst,o.op,o.guard.map fun(j,w)=>((ops[j]?).bind (·.dst),w)⟩
def rc(O:Fe)(P:Program)(n:Nat)(k:List Ai):List CO→List AV→Aa→R
 | [],t,h=>Cj (Db O P n) k .normal ⟨t,h⟩
 |c::cs,t,h=>
  match(match c.g with
   |none=>some true
   |some (none,_)=>none
   |some (some q,w)=>match Hv t q with
    | .bool b=>some (b==w)
    | .tup []=>some false
    |_=>none)with
  |none=>none
  |some false=>rc O P n k cs (put t c.dst (.tup [])) h
  |some true=>match Em O P t h c.op with
   |some (.ret v,es)=>rc O P n k cs (put t c.dst v) (Ar h es)
   |some (.pan v,es)=>Cj (Db O P n) k (.pan v) ⟨t,Ar h es⟩
   |none=>none
def rcD(O:Fe)(P:Program)(n:Nat)(k:List Ai)(d:Option Nat)(cs:List CO)(x:Option (Ec × List Ad))(t:List AV)(h:Aa):R:=
 match x with
 |some (.ret v,es)=>rc O P n k cs (put t d v) (Ar h es)
 |some (.pan v,es)=>Cj (Db O P n) k (.pan v) ⟨t,Ar h es⟩
 |none=>none
def rcG(O:Fe)(P:Program)(n:Nat)(k:List Ai)(d:Option Nat)(op:Op)(cs:List CO)(v:AV)(w:Bool)(t:List AV)(h:Aa):R:=
 match v with
 | .bool b=>match b==w with
   |true=>rcD O P n k d cs (Em O P t h op) t h
   |false=>rc O P n k cs (put t d (.tup [])) h
 | .tup []=>rc O P n k cs (put t d (.tup [])) h
 |_=>none
theorem ad7{n:Nat}{k:List Ai}{ops:List Oper}:∀{rest:List Oper} {i:Nat} {t:List AV} {h:Aa},rg O P n k ops rest i t h=rc O P n k (rest.map (Ic ops)) t h
 | [],i,t,h=>rfl
 |o::rest,i,t,h=>by
  simp only[List.map_cons]
  have hw:(match(Ic ops o).g with
   |none=>some true
   |some (none,_)=>none
   |some (some q,w)=>match Hv t q with
    | .bool b=>some (b==w)
    | .tup []=>some false
    |_=>none)=Fg ops t o:=by
   unfold Ic Fg
   cases o.guard with
   |none=>rfl
   |some x=>
    obtain⟨j,w⟩:=x
    simp only[adJ]
    cases(ops[j]?).bind (·.dst)with
    |none=>rfl
    |some q=>
     simp only
     cases Hv t q<;>first|rfl|(rename_i l;cases l<;>rfl)
  unfold rc
  rw[hw]
  cases hwa:Fg ops t o with
  |none=>unfold rg Fq;simp only[hwa]
  |some b=>
   cases b with
   |false=>rw[am6 n k ops rest i t h o hwa];exact ad7
   |true=>
    rw[atB n k ops rest i t h o hwa]
    show rgD O P n k ops rest (i+1) o.dst (Em O P t h o.op) t h=match Em O P t h o.op with
     |some (.ret v,es)=>rc O P n k (rest.map (Ic ops)) (put t o.dst v) (Ar h es)
     |some (.pan v,es)=>Cj (Db O P n) k (.pan v) ⟨t,Ar h es⟩
     |none=>none
    cases Em O P t h o.op with
    |none=>rfl
    |some x=>
     obtain⟨out,es⟩:=x
     cases out with
     |ret v=>exact ad7
     |pan v=>rfl
theorem aqU(n:Nat)(k:List Ai)(t:List AV)(h:Aa):rc O P n k [] t h=Cj (Db O P n) k .normal ⟨t,h⟩:=aaE rfl rfl
theorem avT(n:Nat)(k:List Ai)(d:Option Nat)(op:Op)(cs:List CO)(t:List AV)(h:Aa):rc O P n k (⟨d,op,none⟩::cs) t h=rcD O P n k d cs (Em O P t h op) t h:=aaE rfl rfl
theorem atW(n:Nat)(k:List Ai)(d:Option Nat)(op:Op)(cs:List CO)(q:Nat)(w:Bool)(t:List AV)(h:Aa):rc O P n k (⟨d,op,some (some q,w)⟩::cs) t h=rcG O P n k d op cs (Hv t q) w t h:=by
 unfold rc rcG
 simp only
 cases Hv t q with
 |bool b=>simp only;cases(b==w)<;>rfl
 |tup l=>cases l<;>rfl
 |_=>rfl
theorem alD(n:Nat)(k:List Ai)(d:Option Nat)(cs:List CO)(v:AV)(es:List Ad)(t:List AV)(h:Aa):rcD O P n k d cs (some (.ret v,es)) t h=rc O P n k cs (put t d v) (Ar h es):=aaE rfl rfl
theorem arZ(n:Nat)(k:List Ai)(d:Option Nat)(op:Op)(cs:List CO)(t:List AV)(h:Aa):rcG O P n k d op cs (.bool true) true t h=rcD O P n k d cs (Em O P t h op) t h:=aaE rfl rfl
theorem aq1(n:Nat)(k:List Ai)(d:Option Nat)(op:Op)(cs:List CO)(t:List AV)(h:Aa):rcG O P n k d op cs (.bool false) false t h=rcD O P n k d cs (Em O P t h op) t h:=aaE rfl rfl
theorem aqG(n:Nat)(k:List Ai)(d:Option Nat)(op:Op)(cs:List CO)(t:List AV)(h:Aa):rcG O P n k d op cs (.bool true) false t h=rc O P n k cs (put t d (.tup [])) h:=aaE rfl rfl
theorem apY(n:Nat)(k:List Ai)(d:Option Nat)(op:Op)(cs:List CO)(t:List AV)(h:Aa):rcG O P n k d op cs (.bool false) true t h=rc O P n k cs (put t d (.tup [])) h:=aaE rfl rfl
theorem arU(n:Nat)(k:List Ai)(d:Option Nat)(op:Op)(cs:List CO)(w:Bool)(t:List AV)(h:Aa):rcG O P n k d op cs (.tup []) w t h=rc O P n k cs (put t d (.tup [])) h:=aaE rfl rfl
theorem asH(n:Nat)(id:Nat)(ops:Array Oper)(k:List Ai)(t:List AV)(h:Aa):Db O P (n+1) (.region id ops false) k ⟨t,h⟩=rc O P n k (ops.toList.map (Ic ops.toList)) t h:=ad7
end
section
variable {P:Program} {O:Fe}
abbrev OE:=Option (Ec × List Ad)
def r1(x:Option AV):OE:=x.map fun v=>(.ret v,[])
theorem dJ(v:AV):r1 (some v)=some (.ret v,[]):=aaE rfl rfl
def rD(x:Option Jl):OE:=x.map fun d=>(.ret d.v,d.es)
theorem anD(v:AV)(es:List Ad)(fs:List Du):rD (some ⟨v,es,fs⟩)=some (.ret v,es):=aaE rfl rfl
theorem Gt(x:Option AV):rD (Ha x)=r1 x:=by cases x<;>rfl
theorem Do(t:List AV)(h:Aa)(op:Op)(hk:Gm op=.other):Em O P t h op=rD (exec P (hf h) h.length t op):=by unfold Em;rw[hk];rfl
theorem alO(t:List AV)(h:Aa)(x:Operand):Em O P t h (.move x)=r1 (Ah t x):=by rw[Do _ _ _ rfl];exact Gt _
theorem aa9(t:List AV)(h:Aa)(x:Operand):Em O P t h (.assign x)=r1 (Ah t x):=by rw[Do _ _ _ rfl];exact Gt _
def pk(c a b:Option AV):OE:=
 match c,a,b with
 |some (.bool true),some a,some _=>some (.ret a,[])
 |some (.bool false),some _,some b=>some (.ret b,[])
 |_,_,_=>none
theorem akE(a b:AV):pk (some (.bool true)) (some a) (some b)=some (.ret a,[]):=aaE rfl rfl
theorem ai8(a b:AV):pk (some (.bool false)) (some a) (some b)=some (.ret b,[]):=aaE rfl rfl
theorem anB(t:List AV)(h:Aa)(c a b:Operand):Em O P t h (.pick c a b)=pk (Ah t c) (Ah t a) (Ah t b):=by
 rw[Do _ _ _ rfl]
 simp only[exec]
 cases Ah t c with
 |none=>rfl
 |some v=>
  cases Ah t a with
  |none=>cases v<;>first|rfl|(rename_i q;cases q<;>rfl)
  |some x=>
   cases Ah t b with
   |none=>cases v<;>first|rfl|(rename_i q;cases q<;>rfl)
   |some y=>cases v<;>first|rfl|(rename_i q;cases q<;>rfl)
def bn(P:Program)(op:BinOp)(ty:TypeId)(a b:Option AV):Option AV:=a.bind fun a=>b.bind fun b=>Kx P op ty a b
theorem alX(op:BinOp)(ty:TypeId)(a b:AV):bn P op ty (some a) (some b)=Kx P op ty a b:=aaE rfl rfl
theorem ap6(t:List AV)(h:Aa)(op:BinOp)(ty:TypeId)(x y:Operand)(u:TypeId):Em O P t h (.binOp op ty x y u)=r1 (bn P op ty (Ah t x) (Ah t y)):=by
 rw[Do _ _ _ rfl]
 simp only[exec,bn]
 cases Ah t x with
 |none=>rfl
 |some a=>
  cases Ah t y with
  |none=>rfl
  |some b=>exact Gt _
section bins
variable (P:Program) (ty:TypeId) (k:IntKind) (a b:Int)
theorem au8:Kx P .add ty (.int k a) (.int k b)=some (.int k (k.wrap (a+b))):=by simp[Kx,Jz]
theorem as1:Kx P .sub ty (.int k a) (.int k b)=some (.int k (k.wrap (a-b))):=by simp[Kx,Jz]
theorem av2:Kx P .mul ty (.int k a) (.int k b)=some (.int k (k.wrap (a*b))):=by simp[Kx,Jz]
theorem auW:Kx P .quo ty (.int k a) (.int k b)=if b=0 then none else some (.int k (k.wrap (a.tdiv b))):=by simp[Kx,Jz]
theorem auH:Kx P .eql ty (.int k a) (.int k b)=some (.bool (a==b)):=by simp[Kx,Jz]
theorem avP:Kx P .neq ty (.int k a) (.int k b)=some (.bool !(a==b)):=by simp[Kx,Jz,bne]
theorem auL:Kx P .lss ty (.int k a) (.int k b)=some (.bool (decide (a<b))):=by simp[Kx,Jz]
theorem auP:Kx P .leq ty (.int k a) (.int k b)=some (.bool (decide (a≤b))):=by simp[Kx,Jz]
theorem awB:Kx P .gtr ty (.int k a) (.int k b)=some (.bool (decide (b<a))):=by simp[Kx,Jz]
theorem atX:Kx P .geq ty (.int k a) (.int k b)=some (.bool (decide (b≤a))):=by simp[Kx,Jz]
end bins
theorem av5(t:List AV)(h:Aa)(op:UnOp)(ty:TypeId)(x:Operand):Em O P t h (.unOp op ty x)=r1 ((Ah t x).bind (aUn op)):=by
 rw[Do _ _ _ rfl]
 simp only[exec]
 cases Ah t x with
 |none=>rfl
 |some a=>exact Gt _
def Kw(c:Option CB)(r:Nat):Option (List AV):=
 match c with
 |some (.live _ _ _ rows)=>rows[r]?
 |some (.frz _ _ rows)=>rows[r]?
 |_=>none
theorem abY(st:Nat)(fl w:Bool)(rows:List (List AV))(r:Nat):Kw (some (.live st fl w rows)) r=rows[r]?:=aaE rfl rfl
theorem rS(h:Aa)(b r:Nat):aM (hf h) b r=Kw (h[b]?) r:=by
 unfold aM Kw hf
 cases h[b]? with
 |none=>rfl
 |some c=>cases c<;>rfl
def ldC(cs:Option (List AV))(o:Nat):OE:=cs.bind fun cs=>r1 (cs[o]?)
def ldR(cs:Option (List AV))(o n:Nat):OE:=cs.bind fun cs=>if o+n≤cs.length then some (.ret (.agg ((cs.drop o).take n)),[])else none
theorem ah3(cs:List AV)(o:Nat):ldC (some cs) o=r1 (cs[o]?):=aaE rfl rfl
theorem agU(cs:List AV)(o n:Nat):ldR (some cs) o n=if o+n≤cs.length then some (.ret (.agg ((cs.drop o).take n)),[])else none:=aaE rfl rfl
def ld(P:Program)(ty:TypeId)(h:Aa)(p:Option AV):OE:=p.bind fun p=>rD (Px P (hf h) ty p)
theorem amV(t:List AV)(h:Aa)(ty:TypeId)(a:Operand):Em O P t h (.load ty a)=ld P ty h (Ah t a):=by
 rw[Do _ _ _ rfl]
 simp only[exec,ld]
 cases Ah t a<;>rfl
def avL(P:Program)(ty:TypeId):Prop:=gY P ty=some false∧∃n,Vg P ty=some n
def avO(P:Program)(ty:TypeId)(n:Nat):Prop:=gY P ty=some true∧Vg P ty=some n
theorem aI{ty:TypeId}(hs:avL P ty)(h:Aa)(b r o:Nat):ld P ty h (some (.ptr b r o))=ldC (Kw (h[b]?) r) o:=by
 obtain⟨h1,n,h2⟩:=hs
 simp only[ld,abI,Px,h1,h2,rS]
 cases Kw (h[b]?) r with
 |none=>rfl
 |some cs=>simp only[abI,ldC];cases cs[o]?<;>rfl
theorem afQ{ty:TypeId}(hs:avL P ty)(h:Aa)(c:AV)(cs:List AV):ld P ty h (some (.iptr (c::cs)))=some (.ret c,[]):=by
 obtain⟨h1,n,h2⟩:=hs
 simp only[ld,abI,Px,h1,h2,anD]
theorem aU{ty:TypeId}{n:Nat}(hs:avO P ty n)(h:Aa)(b r o:Nat):ld P ty h (some (.ptr b r o))=ldR (Kw (h[b]?) r) o n:=by
 obtain⟨h1,h2⟩:=hs
 simp only[ld,abI,Px,h1,h2,rS]
 cases Kw (h[b]?) r with
 |none=>rfl
 |some cs=>simp only[abI,ldR];split<;>rfl
theorem rF{ty:TypeId}{n:Nat}(hs:avO P ty n)(h:Aa)(cs:List AV):ld P ty h (some (.iptr cs))=if n≤cs.length then some (.ret (.agg (cs.take n)),[])else none:=by
 obtain⟨h1,h2⟩:=hs
 simp only[ld,abI,Px,h1,h2]
 split<;>rfl
def sv(n:Nat)(c:Option CB)(b r o:Nat)(v:List AV):OE:=
 match c with
 |some (.live _ _ _ rows)=>(rows[r]?).bind fun cs=>if v.length=n∧o+n≤cs.length∧v.all AV.isCell=true then some (.ret (.tup []),[.cells b r o v])else none
 |_=>none
theorem am7(n:Nat)(st:Nat)(fl w:Bool)(rows:List (List AV))(b r o:Nat)(v:List AV):sv n (some (.live st fl w rows)) b r o v=(rows[r]?).bind fun cs=>if v.length=n∧o+n≤cs.length∧v.all AV.isCell=true then some (.ret (.tup []),[.cells b r o v])else none:=aaE rfl rfl
def vE(P:Program)(ty:TypeId)(h:Aa)(p v:Option AV):OE:=p.bind fun p=>v.bind fun v=>rD (Sm P (hf h) ty p v)
theorem afI(t:List AV)(h:Aa)(ty:TypeId)(a x:Operand):Em O P t h (.store ty a x)=vE P ty h (Ah t a) (Ah t x):=by
 rw[Do _ _ _ rfl]
 simp only[exec,vE]
 cases Ah t a with
 |none=>rfl
 |some p=>cases Ah t x<;>rfl
theorem Qi{ty:TypeId}{n:Nat}(hs:Vg P ty=some n)(h:Aa)(b r o:Nat)(v:AV):vE P ty h (some (.ptr b r o)) (some v)=sv n (h[b]?) b r o (acells v):=by
 simp only[vE,abI,Sm,hs,hf,sv]
 cases h[b]? with
 |none=>rfl
 |some c=>
  cases c with
  |live st fl w rows=>
   simp only
   cases rows[r]? with
   |none=>rfl
   |some cs=>simp only[abI];split<;>rfl
  |_=>rfl
def nw(h:Aa)(v:Option AV):OE:=v.bind fun v=>if(acells v).all AV.isCell=true then some (.ret (.ptr h.length 0 0),[.new h.length (.live (acells v).length ((acells v).all AV.flat) false [acells v])])else none
theorem amO(h:Aa)(v:AV):nw h (some v)=if(acells v).all AV.isCell=true then some (.ret (.ptr h.length 0 0),[.new h.length (.live (acells v).length ((acells v).all AV.flat) false [acells v])])else none:=aaE rfl rfl
theorem ajB(t:List AV)(h:Aa)(ty:TypeId):Em O P t h (.alloc ty)=nw h (Kr P ty):=by
 rw[Do _ _ _ rfl]
 simp only[exec,nw]
 cases Kr P ty with
 |none=>rfl
 |some z=>simp only[abI,eI];split<;>rfl
theorem aoJ(t:List AV)(h:Aa)(ty:TypeId)(x:Operand):Em O P t h (.box ty x)=nw h (Ah t x):=by
 rw[Do _ _ _ rfl]
 simp only[exec,nw]
 cases Ah t x with
 |none=>rfl
 |some z=>simp only[abI,eI];split<;>rfl
theorem ajF(t:List AV)(h:Aa)(ty:TypeId)(ps:Array (Nat × Operand)):Em O P t h (.build ty ps)=r1 ((Bw t (ps.toList.map (·.2))).bind fun vs=>dX P ty (Rr ps.toList vs)):=by
 rw[Do _ _ _ rfl]
 simp only[exec]
 cases Bw t (ps.toList.map (·.2))with
 |none=>rfl
 |some vs=>exact Gt _
theorem mF(t:List AV)(h:Aa)(ty:TypeId)(len:Nat)(ps:Array (Nat × Operand)):Em O P t h (.buildSlice ty len ps)=rD ((Bw t (ps.toList.map (·.2))).bind fun vs=>Dh P h.length ty len (Rr ps.toList vs)):=Do _ _ _ rfl
def fa(P:Program)(ty:TypeId)(x:Option AV)(f:Nat):OE:=r1 (x.bind fun x=>Om P ty x f)
theorem auI(t:List AV)(h:Aa)(ty:TypeId)(x:Operand)(f:Nat):Em O P t h (.fieldAddr ty x f)=fa P ty (Ah t x) f:=by
 rw[Do _ _ _ rfl]
 simp only[exec,fa]
 cases Ah t x with
 |none=>rfl
 |some a=>exact Gt _
def Bl(P:Program)(ty:TypeId)(f off n:Nat):Prop:=∃fs fd,P.underlying ty=some (.struct fs)∧fs[f]?=some fd∧fd.offset=off∧Vg P fd.type=some n∧n≠0
theorem Be{ty:TypeId}{f off n:Nat}(hf:Bl P ty f off n)(b r o:Nat):fa P ty (some (.ptr b r o)) f=some (.ret (.ptr b r (o+off)),[]):=by
 obtain⟨fs,fd,h1,h2,h3,h4,h5⟩:=hf
 simp only[fa,abI,Om,h1,h2,h4,h5,if_false,h3,dJ]
theorem Le{ty:TypeId}{f off n:Nat}(hf:Bl P ty f off n)(cs:List AV):fa P ty (some (.iptr cs)) f=if off+n≤cs.length then some (.ret (.iptr (cs.drop off)),[])else none:=by
 obtain⟨fs,fd,h1,h2,h3,h4,h5⟩:=hf
 simp only[fa,abI,Om,h1,h2,h4,h5,if_false,h3]
 split<;>rfl
def ia(P:Program)(ty:TypeId)(x i:Option AV):OE:=r1 (x.bind fun x=>i.bind fun i=>Lp P ty x i)
theorem au0(t:List AV)(h:Aa)(ty:TypeId)(x i:Operand):Em O P t h (.indexAddr ty x i)=ia P ty (Ah t x) (Ah t i):=by
 rw[Do _ _ _ rfl]
 simp only[exec,ia]
 cases Ah t x with
 |none=>rfl
 |some a=>
  cases Ah t i with
  |none=>rfl
  |some b=>exact Gt _
def SlT(P:Program)(ty:TypeId)(n:Nat):Prop:=∃e,P.underlying ty=some (.slice e)∧Vg P e=some n
theorem ahH{ty:TypeId}{n:Nat}(hs:SlT P ty n)(fl:Bool)(rows:List (List AV))(k:IntKind)(i:Int):ia P ty (some (.imm n fl rows)) (some (.int k i))=if 0≤i then r1 ((rows[i.toNat]?).map .iptr)else none:=by
 obtain⟨e,h1,h2⟩:=hs
 simp only[ia,abI,Lp,h1,h2,true_and]
 split<;>rfl
theorem wN{ty:TypeId}{n:Nat}(hs:SlT P ty n)(b r len:Nat)(k:IntKind)(i:Int):ia P ty (some (.slr n b r len)) (some (.int k i))=if 0≤i∧i<len then some (.ret (.ptr b (r+i.toNat) 0),[])else none:=by
 obtain⟨e,h1,h2⟩:=hs
 simp only[ia,abI,Lp,h1,h2,true_and]
 split<;>rfl
theorem vY(t:List AV)(h:Aa)(x:Operand)(i:Nat):Em O P t h (.extract x i)=r1 ((Ah t x).bind fun x=>match x with| .tup vs=>vs[i]?|_=>none):=by
 rw[Do _ _ _ rfl]
 simp only[exec]
 cases Ah t x with
 |none=>rfl
 |some a=>cases a<;>first|rfl|exact Gt _
def ln(P:Program)(ty:TypeId)(x:Option AV):OE:=r1 (x.bind (pG P ty))
theorem ao0(t:List AV)(h:Aa)(x:Operand)(ty:TypeId):Em O P t h (.call ⟨.builtin .len,#[x],#[ty]⟩)=ln P ty (Ah t x):=by
 rw[Do _ _ _ rfl]
 simp only[exec,Bw,ln]
 cases Ah t x with
 |none=>rfl
 |some a=>exact Gt _
theorem agR{ty:TypeId}{n:Nat}(hs:SlT P ty n)(st:Nat)(fl:Bool)(rows:List (List AV)):ln P ty (some (.imm st fl rows))=some (.ret (.int .i64 rows.length),[]):=by
 obtain⟨e,h1,h2⟩:=hs
 simp only[ln,abI,pG,h1,dJ]
theorem vN{ty:TypeId}{n:Nat}(hs:SlT P ty n)(st b r len:Nat):ln P ty (some (.slr st b r len))=some (.ret (.int .i64 len),[]):=by
 obtain⟨e,h1,h2⟩:=hs
 simp only[ln,abI,pG,h1,dJ]
theorem iR{ty:TypeId}{n:Nat}(hs:SlT P ty n):ln P ty (some .nils)=some (.ret (.int .i64 0),[]):=by
 obtain⟨e,h1,h2⟩:=hs
 simp only[ln,abI,pG,h1,dJ]
theorem amA(t:List AV)(h:Aa)(x y:Operand)(ts:Array TypeId):Em O P t h (.call ⟨.builtin .min,#[x,y],ts⟩)=r1 ((Ah t x).bind fun a=>(Ah t y).bind fun b=>dA a b):=by
 rw[Do _ _ _ rfl]
 simp only[exec,Bw]
 cases Ah t x with
 |none=>rfl
 |some a=>
  cases Ah t y with
  |none=>rfl
  |some b=>exact Gt _
theorem alK(t:List AV)(h:Aa)(x y:Operand)(ts:Array TypeId):Em O P t h (.call ⟨.builtin .max,#[x,y],ts⟩)=r1 ((Ah t x).bind fun a=>(Ah t y).bind fun b=>lH a b):=by
 rw[Do _ _ _ rfl]
 simp only[exec,Bw]
 cases Ah t x with
 |none=>rfl
 |some a=>
  cases Ah t y with
  |none=>rfl
  |some b=>exact Gt _
def cr(x:Option Ky):OE:=x.map fun d=>(d.out,d.es)
theorem alP(o:Ec)(es:List Ad)(fs:List Du):cr (some ⟨o,es,fs⟩)=some (o,es):=aaE rfl rfl
def oN:List AV→Bool
 | .ptr _ _ _::_=>true
 | .yl _::_=>true
 |_=>false
theorem kV(f:Nat)(args:List AV):Yc f args=if oN args=true then .sh f else .fn f:=by
 unfold Yc
 split
 ·rfl
 ·rfl
 ·rename_i h1 h2
  rw[if_neg]
  intro hc
  unfold oN at hc
  split at hc
  ·exact h1 _ _ _ _ rfl
  ·exact h2 _ _ rfl
  ·cases hc
theorem arL:oN []=false:=aaE rfl rfl
theorem aoT(b r o:Nat)(l:List AV):oN (.ptr b r o::l)=true:=aaE rfl rfl
theorem asB(k:IntKind)(n:Int)(l:List AV):oN (.int k n::l)=false:=aaE rfl rfl
theorem am8(l:List AV):oN (.nils::l)=false:=aaE rfl rfl
theorem aoI(n:Nat)(fl:Bool)(rows:List (List AV))(l:List AV):oN (.imm n fl rows::l)=false:=aaE rfl rfl
theorem ap4(a b r n:Nat)(l:List AV):oN (.slr a b r n::l)=false:=aaE rfl rfl
theorem apB(c:List AV)(l:List AV):oN (.agg c::l)=false:=aaE rfl rfl
def shK(h:Aa)(x:Option (Ec × Aa)):OE:=x.bind fun(out,h')=>(Ef 0 h h').map fun es=>(out,es)
def dN(h:Aa):Aa:=h.map CB.clean
def shC(O:Fe)(h:Aa)(f:Nat)(args:List AV):OE:=if(kB args||O.md f)=true then shK h (O.call (.sh f) args (dN h))else cr (Ea O (hf h) h.length (.fn f) args)
theorem anW(h:Aa)(f:Us)(args:List AV):cr (Jq O (hf h) h.length f args)=shK h (O.call f args (dN h)):=by
 unfold Jq shK cr dN
 rw[aiY,abI]
 cases O.call f args (h.map CB.clean)with
 |none=>rfl
 |some x=>
  obtain⟨out,h'⟩:=x
  simp only[abI]
  cases Ef 0 h h'<;>rfl
def cl(O:Fe)(h:Aa)(f:Option AV)(vs:Option (List AV)):OE:=f.bind fun f=>vs.bind fun vs=>
 match f with
 | .func (.func f) a b=>if oN (a++vs++b)=true then shC O h f (a++vs++b)else cr (Ea O (hf h) h.length (.fn f) (a++vs++b))
 | .yl b=>shK h (O.call .round (vs++[.yl b]) (dN h))
 |_=>none
theorem aoB(h:Aa)(f:Nat)(a b vs:List AV):cl O h (some (.func (.func f) a b)) (some vs)=if oN (a++vs++b)=true then shC O h f (a++vs++b)else cr (Ea O (hf h) h.length (.fn f) (a++vs++b)):=aaE rfl rfl
theorem au4(h:Aa)(b:Nat)(vs:List AV):cl O h (some (.yl b)) (some vs)=shK h (O.call .round (vs++[.yl b]) (dN h)):=aaE rfl rfl
theorem afH(h:Aa)(f:Nat)(args:List AV):cr (Fz O (hf h) h.length (Yc f args) args)=if oN args=true then shC O h f args else cr (Ea O (hf h) h.length (.fn f) args):=by
 rw[kV]
 split
 ·unfold shC
  cases hq:(kB args||O.md f)with
  |true=>simp only[Fz,hq,cond_true,if_true,anW]
  |false=>simp only[Fz,hq,cond_false,adL,if_false]
 ·rfl
theorem am2(t:List AV)(h:Aa)(f:Operand)(args:Array Operand)(ts:Array TypeId):Em O P t h (.call ⟨.value f,args,ts⟩)=cl O h (Ah t f) (Bw t args.toList):=by
 simp only[Em,Gm,callee,cl]
 cases Ah t f with
 |none=>rfl
 |some fv=>
  cases Bw t args.toList with
  |none=>rfl
  |some vs=>
   simp only[abI]
   cases fv with
   |func fn a b=>
    cases fn with
    |func f=>exact afH h f _
    |_=>rfl
   |yl b=>exact anW h .round _
   |_=>rfl
def Az:Nat→AV→Bool
 |0,_=>false
 |d+1,v=>
  match v with
  | .ptr _ _ _=>false
  | .slr _ _ _ _=>false
  | .yl _=>false
  | .agg cs=>cs.all (Az d)
  | .tup cs=>cs.all (Az d)
  | .iface _ x=>Az d x
  | .func _ a b=>a.all (Az d)&&b.all (Az d)
  |_=>true
theorem Oq{f:AV→Option AV}:∀{l:List AV},(∀x∈l,f x=some x)→As f l=some l
 | [],_=>rfl
 |a::l,h=>by
  simp only[As,h a (acM ..),Oq (fun x hx=>h x (ab1 _ hx)),abI,adJ]
theorem Jb(g:HF):∀{d e:Nat} {v:AV},d≤e→Az d v=true→Ie e g v=some v
 |0,e,v,_,h=>by simp[Az]at h
 |d+1,0,v,he,h=>by omega
 |d+1,e+1,v,he,h=>by
  cases v with
  |ptr b r o=>simp[Az]at h
  |slr a b c d=>simp[Az]at h
  |agg cs=>
   simp only[Az,acZ]at h
   simp only[Ie]
   rw[Oq fun x hx=>Jb g (by omega) (h x hx)];rfl
  |iface t x=>
   simp only[Az]at h
   simp only[Ie]
   rw[Jb g (by omega) h];rfl
  |_=>rfl
theorem Ix(g:HF):∀{d e:Nat} {v:AV},d≤e→Az d v=true→Au e g v=[]
 |0,e,v,_,h=>by simp[Az]at h
 |d+1,0,v,he,h=>by omega
 |d+1,e+1,v,he,h=>by
  cases v with
  |ptr b r o=>simp[Az]at h
  |slr a b c d=>simp[Az]at h
  |agg cs=>
   simp only[Az,acZ]at h
   simp only[Au]
   rw[atL]
   exact fun x hx=>Ix g (by omega) (h x hx)
  |iface t x=>
   simp only[Az]at h
   simp only[Au]
   exact Ix g (by omega) h
  |_=>rfl
theorem Nh{f:List Nat→AV→Option (AV × List Nat)}{m:List Nat}:∀{l:List AV},(∀x∈l,f m x=some (x,m))→Dz.refL f m l=some (l,m)
 | [],_=>rfl
 |a::l,h=>by
  simp only[Dz.refL,h a (acM ..),Nh (fun x hx=>h x (ab1 _ hx)),abI,adJ]
theorem Ko(m:List Nat):∀{d:Nat} {v:AV},Az d v=true→Dz d m v=some (v,m)
 |0,v,h=>by simp[Az]at h
 |d+1,v,h=>by
  cases v with
  |ptr b r o=>simp[Az]at h
  |slr a b c d=>simp[Az]at h
  |yl b=>simp[Az]at h
  |agg cs=>
   simp only[Az,acZ]at h
   simp only[Dz]
   rw[Nh fun x hx=>Ko m (h x hx)];rfl
  |tup cs=>
   simp only[Az,acZ]at h
   simp only[Dz]
   rw[Nh fun x hx=>Ko m (h x hx)];rfl
  |iface t x=>
   simp only[Az]at h
   simp only[Dz]
   rw[Ko m h];rfl
  |func fn a b=>
   simp only[Az,adP,acZ]at h
   simp only[Dz]
   rw[Nh fun x hx=>Ko m (h.1 x hx)]
   simp only[abI]
   rw[Nh fun x hx=>Ko m (h.2 x hx)];rfl
  |_=>rfl
theorem Ni(f:Nat→Nat):∀{d:Nat} {v:AV},Az d v=true→Ci d f v=some v
 |0,v,h=>by simp[Az]at h
 |d+1,v,h=>by
  cases v with
  |ptr b r o=>simp[Az]at h
  |slr a b c d=>simp[Az]at h
  |yl b=>simp[Az]at h
  |agg cs=>
   simp only[Az,acZ]at h
   simp only[Ci]
   rw[Oq fun x hx=>Ni f (h x hx)];rfl
  |tup cs=>
   simp only[Az,acZ]at h
   simp only[Ci]
   rw[Oq fun x hx=>Ni f (h x hx)];rfl
  |iface t x=>
   simp only[Az]at h
   simp only[Ci]
   rw[Ni f h];rfl
  |func fn a b=>
   simp only[Az,adP,acZ]at h
   simp only[Ci]
   rw[Oq fun x hx=>Ni f (h.1 x hx)]
   simp only[abI]
   rw[Oq fun x hx=>Ni f (h.2 x hx)];rfl
  |_=>rfl
def ac0(base:Nat)(x:Option (Ec × Aa)):Option Ky:=x.bind fun(out,h')=>
 (Ci 8 (fun i=>base+i) out.v).bind fun v=>(Iq (fun i=>base+i) base h').map fun ns=>⟨out.map fun _=>v,ns,[]⟩
theorem fW{g:HF}{base:Nat}{f:Us}{args:List AV}(hp:args.all (Az 8)=true):Ea O g base f args=ac0 base (O.call f args []):=by
 rw[acZ]at hp
 have h1:As (Ie 12 g) args=some args:=Oq fun x hx=>Jb g (by omega) (hp x hx)
 have h2:Jy g [] args=some (args,[],[]):=by
  unfold Jy
  rw[Nh fun x hx=>Ko [] (hp x hx)]
  rfl
 have h3:args.flatMap (Au 12 g)=[]:=by
  rw[atL]
  exact fun x hx=>Ix g (by omega) (hp x hx)
 have h4:Fp [] base=fun i=>base+i:=by funext i;simp[Fp]
 unfold Ea
 simp only[h1,h2,h3,abI,List.any_nil,adL,if_false,List.map_nil]
 unfold ac0
 cases O.call f args []with
 |none=>rfl
 |some x=>
  obtain⟨out,h'⟩:=x
  simp only[abI,Ln,h4,List.length_nil,List.take_zero,List.drop_zero,Ho,List.isEmpty_nil,Bool.true_or,if_true,asV,List.append_nil,List.map_nil]
  cases Ci 8 (fun i=>base+i) out.v with
  |none=>rfl
  |some v=>
   simp only[abI]
   cases Iq (fun i=>base+i) base h'<;>rfl
theorem afB{base:Nat}{v:AV}(hv:Az 8 v=true):ac0 base (some (.ret v,[]))=some ⟨.ret v,[],[]⟩:=by
 simp only[ac0,abI,Ec.v,Ni _ hv,Iq,adJ,Ec.map]
theorem aa7{vs:List AV}{h:Aa}(hv:Az 8 (Rl vs)=true):ahL 0 (some vs) h=some (.ret (Rl vs),[]):=by
 simp only[ahL,abI,Qg,List.range_zero]
 unfold Jy
 rw[Nh (l:=[Rl vs]) (fun x hx=>by simp at hx;subst hx;exact Ko [] hv)]
 rfl
theorem ajL(s:St):Rq P s []=some []:=aaE rfl rfl
theorem agS(t:List AV)(h:Aa)(q:Nat)(rs:List ResultVar):Rq P ⟨t,h⟩ (.tmp q::rs)=(Rq P ⟨t,h⟩ rs).map fun vs=>Hv t q::vs:=aaE rfl rfl
theorem afU{pr:Oh}{f:Nat}{fn:Func}{c:Code}{args:List AV}{h:Aa}{r:Ec × Aa}(hp:pr f=none)(hf:P.funcs[f]?=some fn)(hb:fn.body=some c)(hl:Nat.ble args.length fn.ntmps=true)
 (he:fnK P h.length fn.results.toList (Db (om P pr) P 5000 c [] ⟨mk fn.ntmps (Dn args),h⟩)=some r):(om P pr).call (.fn f) args h=some r:=
 anM hp ((aqB hf hb (Nat.le_of_ble_eq_true hl) h).trans he)
def ac1(base:Nat)(x:Option (Ec × Aa)):Option Ky:=ac0 base x
theorem aoZ(base:Nat)(v:AV):ac0 base (some (.ret v,[]))=if Az 8 v=true then some ⟨.ret v,[],[]⟩else ac1 base (some (.ret v,[])):=by
 split
 ·rename_i h;exact afB h
 ·rfl
theorem ak0(b:Bool):aUn .not (.bool b)=some (.bool !b):=aaE rfl rfl
theorem ajX(k:IntKind)(n:Int):aUn .neg (.int k n)=some (.int k (k.wrap (0-n))):=aaE rfl rfl
theorem aeD(k k':IntKind)(x y:Int):dA (.int k x) (.int k' y)=some (.int k (if y<x then y else x)):=aaE rfl rfl
theorem aeT(k k':IntKind)(x y:Int):lH (.int k x) (.int k' y)=some (.int k (if y>x then y else x)):=aaE rfl rfl
def Bj(n:Nat)(fl nn:Bool):List (List AV)→AV
 | []=>bif nn then .imm n fl []else .nils
 |r::rs=>.imm n fl (r::rs)
theorem mC(n:Nat)(fl nn:Bool)(r:List AV)(rs:List (List AV)):Bj n fl nn (r::rs)=.imm n fl (r::rs):=aaE rfl rfl
theorem Es(d n:Nat)(fl nn:Bool)(rows:List (List AV)):Az (d+1) (Bj n fl nn rows)=true:=by
 cases rows with
 |nil=>cases nn<;>rfl
 |cons r rs=>rfl
theorem ap1(n:Nat)(fl nn:Bool)(rows:List (List AV))(l:List AV):oN (Bj n fl nn rows::l)=false:=by
 cases rows with
 |nil=>cases nn<;>rfl
 |cons r rs=>rfl
theorem ajP(n:Nat)(fl nn:Bool)(rows:List (List AV)):AV.isCell (Bj n fl nn rows)=true:=by
 cases rows with
 |nil=>cases nn<;>rfl
 |cons r rs=>rfl
theorem ae1(n:Nat)(fl nn:Bool)(rows:List (List AV)):AV.flat (Bj n fl nn rows)=false:=by
 cases rows with
 |nil=>cases nn<;>rfl
 |cons r rs=>rfl
theorem wJ(n:Nat)(fl nn:Bool)(rows:List (List AV)):acells (Bj n fl nn rows)=[Bj n fl nn rows]:=by
 cases rows with
 |nil=>cases nn<;>rfl
 |cons r rs=>rfl
theorem eT{ty:TypeId}{n:Nat}(hs:SlT P ty n)(fl nn:Bool)(rows:List (List AV)):ln P ty (some (Bj n fl nn rows))=some (.ret (.int .i64 rows.length),[]):=by
 cases rows with
 |nil=>cases nn
       ·exact iR hs
       ·exact agR hs _ _ _
 |cons r rs=>exact agR hs _ _ _
theorem eA{ty:TypeId}{n:Nat}(hs:SlT P ty n)(fl nn:Bool)(rows:List (List AV))(k:IntKind)(i:Int):ia P ty (some (Bj n fl nn rows)) (some (.int k i))=if 0≤i then r1 ((rows[i.toNat]?).map .iptr)else none:=by
 cases rows with
 |nil=>
  cases nn
  ·obtain⟨e,h1,h2⟩:=hs
   simp[ia,Bj,Lp,h1,r1]
  ·exact ahH hs _ _ _ _
 |cons r rs=>exact ahH hs _ _ _ _
theorem Ae{n:Int}(h1: -9223372036854775808≤n)(h2:n<9223372036854775808):IntKind.i64.wrap n=n:=by
 simp only[IntKind.wrap,IntKind.bits,IntKind.signed]
 simp
 omega
end
section
variable {P:Program} {O:Fe} {pr:Oh}
theorem atD{C:R→Prop}{n:Nat}{k:List Ai}{d:Option Nat}{op:Op}{cs:List CO}{b w:Bool}{t:List AV}{h:Aa}
 (h1:b=true→C (rcG O P n k d op cs (.bool true) w t h)) (h2:b=false→C (rcG O P n k d op cs (.bool false) w t h)):C (rcG O P n k d op cs (.bool b) w t h):=by
 cases b with
 |true=>exact h1 rfl
 |false=>exact h2 rfl
theorem at7{C:R→Prop}{n:Nat}{x y:Code}{k:List Ai}{g:Bool}{s:St}
 (h1:g=true→C (Db O P n x k s)) (h2:g=false→C (Db O P n y k s)):C (cdK O P n x y k (some (.bool g)) s):=by
 cases g with
 |true=>exact h1 rfl
 |false=>exact h2 rfl
def LpQ(O:Fe)(c:Code)(s:St)(Q:Ex→St→Prop):Prop:=∃e s',O.loop c s=some (e,s')∧Q e s'
def at0(O:Fe)(c:Code)(Q:Ex→St→Prop):R→Prop
 |some (.normal,s)=>LpQ O c s Q
 |some (e,s)=>Q e s
 |none=>False
theorem LpQ.of{c:Code}{s:St}{Q:Ex→St→Prop}(h:at0 (om P pr) c Q (Db (om P pr) P 5000 c [] s)):LpQ (om P pr) c s Q:=by
 cases hm:Db (om P pr) P 5000 c [] s with
 |none=>rw[hm]at h;exact h.elim
 |some x=>
  obtain⟨e,s'⟩:=x
  rw[hm]at h
  cases e with
  |normal=>
   obtain⟨e,s'',h1,h2⟩:=h
   exact⟨e,s'',Xh hm h1,h2⟩
  |exit i=>exact⟨_,_,Hu hm (by simp),h⟩
  |ret=>exact⟨_,_,Hu hm (by simp),h⟩
  |pan v=>exact⟨_,_,Hu hm (by simp),h⟩
def FnE(P:Program)(q:Nat)(rs:List ResultVar)(Q:Ec→Aa→Prop)(x:R):Prop:=∃o h,fnK P q rs x=some (o,h)∧Q o h
def Rt(q:Nat)(vs:Option (List AV))(h:Aa)(Q:Ec→Aa→Prop):Prop:=∃o h',ahL q vs h=some (o,h')∧Q o h'
theorem ai7(q:Nat)(rs:List ResultVar)(Q:Ec→Aa→Prop)(t:List AV)(h:Aa):FnE P q rs Q (some (.ret,⟨t,h⟩))=Rt q (Rq P ⟨t,h⟩ rs) h Q:=aaE rfl rfl
theorem aaJ(q:Nat)(rs:List ResultVar)(Q:Ec→Aa→Prop)(t:List AV)(h:Aa):FnE P q rs Q (some (.normal,⟨t,h⟩))=Rt q (Rq P ⟨t,h⟩ rs) h Q:=aaE rfl rfl
def Rt1(q:Nat)(vs:Option (List AV))(h:Aa)(Q:Ec→Aa→Prop):Prop:=Rt q vs h Q
theorem atJ(vs:List AV)(h:Aa)(Q:Ec→Aa→Prop):Rt 0 (some vs) h Q=if Az 8 (Rl vs)=true then Q (.ret (Rl vs)) []else Rt1 0 (some vs) h Q:=by
 split
 ·rename_i hv
  unfold Rt
  rw[aa7 hv]
  exact propext ⟨fun⟨o,h',e,q⟩=>by cases e;exact q,fun q=>⟨_,_,rfl,q⟩⟩
 ·rfl
def Vo(O:Fe)(f:Nat)(args:List AV)(h:Aa)(Q:Ec→Aa→Prop):Prop:=∃o h',O.call (.fn f) args h=some (o,h')∧Q o h'
theorem Vo.start{f:Nat}{fn:Func}{c:Code}{args:List AV}{h:Aa}{Q:Ec→Aa→Prop}(hp:pr f=none)(hf:P.funcs[f]?=some fn)(hb:fn.body=some c)(hl:Nat.ble args.length fn.ntmps=true)
 (he:FnE P h.length fn.results.toList Q (Db (om P pr) P 5000 c [] ⟨mk fn.ntmps (Dn args),h⟩)):Vo (om P pr) f args h Q:=by
 obtain⟨o,h',e,q⟩:=he
 exact⟨o,h',afU hp hf hb hl e,q⟩
theorem Vo.eq{f:Nat}{args:List AV}{h:Aa}{o:Ec}{h':Aa}(k:Vo O f args h fun o1 h1=>(o1,h1)=(o,h')):O.call (.fn f) args h=some (o,h'):=by
 obtain⟨o1,h1,e,q⟩:=k
 rw[e,q]
def ad1(O:Fe)(g:HF)(base:Nat)(f:Us)(args:List AV):Option Ky:=Ea O g base f args
theorem afF(g:HF)(base:Nat)(f:Us)(args:List AV):Ea O g base f args=if args.all (Az 8)=true then ac0 base (O.call f args [])else ad1 O g base f args:=by
 split
 ·rename_i h;exact fW h
 ·rfl
theorem am0(d:Nat)(b:Bool):Az (d+1) (.bool b)=true:=aaE rfl rfl
theorem Ut(d:Nat)(k:IntKind)(n:Int):Az (d+1) (.int k n)=true:=aaE rfl rfl
theorem akN(d:Nat):Az (d+1) .nils=true:=aaE rfl rfl
theorem arW(d n:Nat)(fl:Bool)(rows:List (List AV)):Az (d+1) (.imm n fl rows)=true:=aaE rfl rfl
theorem arK(d b r o:Nat):Az (d+1) (.ptr b r o)=false:=aaE rfl rfl
theorem arC(d a b r o:Nat):Az (d+1) (.slr a b r o)=false:=aaE rfl rfl
theorem Nv(d:Nat)(cs:List AV):Az (d+1) (.agg cs)=cs.all (Az d):=aaE rfl rfl
theorem aoF(d:Nat)(cs:List AV):Az (d+1) (.tup cs)=cs.all (Az d):=aaE rfl rfl
theorem amX(d:Nat)(fn:Fn)(a b:List AV):Az (d+1) (.func fn a b)=(a.all (Az d)&&b.all (Az d)):=aaE rfl rfl
theorem am9(b:Bool):AV.isCell (.bool b)=true:=aaE rfl rfl
theorem ao6(k:IntKind)(n:Int):AV.isCell (.int k n)=true:=aaE rfl rfl
theorem al7:AV.isCell .nils=true:=aaE rfl rfl
theorem alT:AV.isCell .nilf=true:=aaE rfl rfl
theorem arY(n:Nat)(fl:Bool)(rows:List (List AV)):AV.isCell (.imm n fl rows)=true:=aaE rfl rfl
theorem ar0(a b r o:Nat):AV.isCell (.slr a b r o)=true:=aaE rfl rfl
theorem aq2(b r o:Nat):AV.isCell (.ptr b r o)=true:=aaE rfl rfl
theorem anE(f:Fn)(a b:List AV):AV.isCell (.func f a b)=true:=aaE rfl rfl
theorem al8(b:Bool):AV.flat (.bool b)=true:=aaE rfl rfl
theorem arO(k:IntKind)(n:Int):AV.flat (.int k n)=true:=aaE rfl rfl
theorem amI:AV.flat .nils=false:=aaE rfl rfl
theorem akA:AV.flat .nilf=false:=aaE rfl rfl
theorem aoE(n:Nat)(fl:Bool)(rows:List (List AV)):AV.flat (.imm n fl rows)=false:=aaE rfl rfl
theorem aqF(a b r o:Nat):AV.flat (.slr a b r o)=false:=aaE rfl rfl
theorem arE(b r o:Nat):AV.flat (.ptr b r o)=false:=aaE rfl rfl
theorem akH(f:Fn)(a b:List AV):AV.flat (.func f a b)=false:=aaE rfl rfl
theorem asG(cs:List AV):acells (.agg cs)=cs:=aaE rfl rfl
theorem apL(k:IntKind)(n:Int):acells (.int k n)=[.int k n]:=aaE rfl rfl
theorem amL:acells .nils=[.nils]:=aaE rfl rfl
theorem akK:acells .nilf=[.nilf]:=aaE rfl rfl
theorem arA(a b r o:Nat):acells (.slr a b r o)=[.slr a b r o]:=aaE rfl rfl
theorem arV(b r o:Nat):acells (.ptr b r o)=[.ptr b r o]:=aaE rfl rfl
theorem alF(f:Fn)(a b:List AV):acells (.func f a b)=[.func f a b]:=aaE rfl rfl
end
end Go.Ev
