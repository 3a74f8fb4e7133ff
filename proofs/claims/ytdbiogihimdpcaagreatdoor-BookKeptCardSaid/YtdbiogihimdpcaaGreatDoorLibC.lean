/- The evaluator and its soundness. -/
import Derived.Test.YtdbiogihimdpcaaGreatDoorLibB
import Derived.OrdersIn
import Derived.RangeFuncNested
open Eq renaming trans→aaF
open Option renaming bind_eq_some_iff→aaR,bind_some→aaV,some→ac3,map_some→ac4,map_eq_some_iff→ai8,getD_some→asG
open List renaming mem_cons_of_mem→abL,mem_cons_self→abT,mem_singleton→acK,all_eq_true→acY,getElem?_eq_some_iff→acZ,mem_flatMap→ac5,mem_range→aiT,filter_cons_of_pos→ai6,getElem?_set→ai7,mem_map→ai9,filter_cons_of_neg→ajB,getElem?_map→ajY,getElem?_eq_none→am2,ext_getElem?→am3,getElem?_eq_getElem→am4,flatMap_cons→am5,mem_append_right→am6,mem_append→am8,any_eq_false→anG,length_cons→anN,range→anO,mem_append_left→anT,mem_filter→aq5,getElem?_range→ar5,getElem?_take→ar7,getElem?_drop→ar8,mem_of_getElem?→ar9,mem_filterMap→asA,getElem?_append_left→asB,nil_append→asD,take_left'→atE,flatMap_eq_nil_iff→atS
open Nat renaming le_refl→ac2,le_trans→ajA,strongRecOn→anC,lt_of_lt_of_le→anX,lt_trichotomy→an1
open Bool renaming false_eq_true→adA,and_eq_true→ai5,not_eq_true→ap9,and_assoc→ar6
open Array renaming getD_eq_getD_getElem?→aeG,getElem?_eq_some_iff→aeO,foldl_toList→apG,all_eq_true'→ar2,replicate→ar4,getElem?_eq_none→asC,getElem?_toList→asE,getElem?_eq_getElem→asF,getElem?_replicate→as0
set_option linter.unusedSimpArgs false
set_option linter.unusedVariables false
namespace Go.Ev
open Go.RowKit
theorem lX(cs:List AV){vs us:List AV}{o p:Nat}(hd:o+vs.length≤p∨p+us.length≤o):
 Cm (Cm cs o vs) p us=Cm (Cm cs p us) o vs:=by
 apply am3
 intro j
 rw[Ij (Cm cs o vs),Ij (Cm cs p us),Ij cs vs,Ij cs us,Ip,Ip]
 by_cases a1:p≤j∧j<p+us.length∧j<cs.length
 ·rw[if_pos a1,if_neg (by omega),if_pos a1]
 ·rw[if_neg a1]
  by_cases a2:o≤j∧j<o+vs.length∧j<cs.length
  ·rw[if_pos a2,if_pos a2]
  ·rw[if_neg a2,if_neg a2,if_neg a1]
theorem sY(rows:List (List AV)){r q:Nat}{vs us:List AV}{o p:Nat}(hd:o+vs.length≤p∨p+us.length≤o):
 Jz (Jz rows r o vs) q p us=Jz (Jz rows q p us) r o vs:=by
 unfold Jz
 by_cases hrq:r=q
 ·subst hrq
  cases h:rows[r]? with
  |none=>simp[h]
  |some cs=>
   have hr:r<rows.length:=(acZ.1 h).1
   simp[hr,lX cs hd]
 ·cases h:rows[r]? with
  |none=>
   cases h2:rows[q]? with
   |none=>simp[h,h2]
   |some cs2=>simp[ai7,Ne.symm hrq,h,h2]
  |some cs=>
   cases h2:rows[q]? with
   |none=>simp[ai7,hrq,h,h2]
   |some cs2=>simp only[ai7,hrq,Ne.symm hrq,if_false,h,h2];rw[List.set_comm _ _ hrq]
def Ad.eff:Ad→Option CB→Option CB
 | .new _ c,_=>some c
 | .put _ c,_=>some c
 | .cells _ r o vs,x=>match x with
   |some (.live st fl _ rows)=>some (.live st (fl&&vs.all AV.flat) true (Jz rows r o vs))
   |x=>x
theorem Jm(g:HF)(e:Ad)(i:Nat):Bl g e i=if i=e.id then e.eff (g i)else g i:=by
 cases e with
 |new b c=>by_cases hi:i=b<;>simp[Bl,Je,Ad.id,Ad.eff,hi]
 |put b c=>by_cases hi:i=b<;>simp[Bl,Je,Ad.id,Ad.eff,hi]
 |cells b r o vs=>
  by_cases hi:i=b
  ·subst hi
   simp only[Bl,Ad.id,Ad.eff,if_true]
   cases hg:g i with
   |none=>simp[hg]
   |some c=>cases c<;>simp[hg,Je]
  ·have e:∀(x:Option CB) (y:HF),(match x with
    |some (.live st fl _ rows)=>Je y b (.live st (fl&&vs.all AV.flat) true (Jz rows r o vs))
    |_=>y) i=y i:=fun x y=>by
    cases x with
    |none=>rfl
    |some c=>cases c<;>simp[Je,hi]
   rw[if_neg (show ¬i=(Ad.cells b r o vs).id from hi)]
   exact e (g b) g
theorem ac7{e e':Ad}(Fa:e.id=e'.id)(h:e.foot.meets e'.foot=false)(x:Option CB):e'.eff (e.eff x)=e.eff (e'.eff x):=by
 cases e<;>cases e'<;>simp[Ad.id]at Fa<;>subst Fa<;>simp[Ad.foot,Dm.meets]at h
 rename_i b r o vs r' o' vs'
 cases x with
 |none=>rfl
 |some c=>
  cases c with
  |live st fl w rows=>
   simp only[Ad.eff]
   rw[sY rows (by omega)]
   rw[ar6,Bool.and_comm (vs.all AV.flat),←ar6]
  |_=>rfl
theorem vH(g:HF){e e':Ad}(h:e.foot.meets e'.foot=false):Bl (Bl g e) e'=Bl (Bl g e') e:=by
 funext i
 rw[Jm,Jm,Jm,Jm]
 by_cases h1:i=e'.id
 ·by_cases h2:i=e.id
  ·rw[if_pos h1,if_pos h2,if_pos h2,if_pos h1];exact ac7 (h2.symm.trans h1) h _
  ·rw[if_pos h1,if_neg h2,if_neg h2,if_pos h1]
 ·by_cases h2:i=e.id
  ·rw[if_neg h1,if_pos h2,if_pos h2,if_neg h1]
  ·rw[if_neg h1,if_neg h2,if_neg h2,if_neg h1]
theorem lH(g:HF){e:Ad}:∀{es:List Ad},(∀x∈es,e.foot.meets x.foot=false)→Ap (Bl g e) es=Bl (Ap g es) e
 | [],_=>rfl
 |x::es,h=>by
  simp only[Ap]
  rw[vH g (h x (abT ..))]
  exact lH (Bl g x) (fun y hy=>h y (abL _ hy))
theorem mD:∀{es es':List Ad} (g:HF),(∀x∈es,∀y∈es',x.foot.meets y.foot=false)→Ap (Ap g es) es'=Ap (Ap g es') es
 | [],es',g,_=>rfl
 |e::es,es',g,h=>by
  simp only[Ap]
  rw[mD (Bl g e) (fun x hx=>h x (abL _ hx)),lH g (h e (abT ..))]
inductive Iq(o n:Nat):Option CB→Option CB→Prop
 |refl (x:Option CB):Iq o n x x
 |live {st st':Nat} {fl fl' w w':Bool} {rows rows':List (List AV)}:rows.length=rows'.length→
   (∀(r:Nat) cs cs',rows[r]?=some cs→rows'[r]?=some cs'→cs.length=cs'.length∧∀j,o≤j→j<o+n→cs[j]?=cs'[j]?)→Iq o n (some (.live st fl w rows)) (some (.live st' fl' w' rows'))
def Dc(g g':HF):Dm→Prop
 | .blk b=>g' b=g b
 | .cells b o n=>Iq o n (g b) (g' b)
 | .all=>g'=g
theorem Iq.trans{o n:Nat}{x y z:Option CB}(h:Iq o n x y)(k:Iq o n y z):Iq o n x z:=by
 cases h with
 |refl=>exact k
 |live a b=>
  cases k with
  |refl=>exact .live a b
  |live c d=>
   refine .live (a.trans c) (fun r cs cs' h1 h2=>?_)
   have hr:=(acZ.1 h1).1
   have h3:=am4 (a▸hr)
   obtain⟨b1,b2⟩:=b r _ _ h1 h3
   obtain⟨d1,d2⟩:=d r _ _ h3 h2
   exact⟨b1.trans d1,fun j q1 q2=>(b2 j q1 q2).trans (d2 j q1 q2)⟩
theorem Dc.refl(g:HF)(f:Dm):Dc g g f:=by
 cases f with
 |blk b=>rfl
 |cells b o n=>exact Iq.refl _
 |all=>rfl
theorem Dc.trans{g g' g'':HF}{f:Dm}(h:Dc g g' f)(k:Dc g' g'' f):Dc g g'' f:=by
 cases f with
 |blk b=>exact aaF k h
 |cells b o n=>exact Iq.trans h k
 |all=>exact aaF k h
theorem Ug(rows:List (List AV))(r o:Nat)(vs:List AV):(Jz rows r o vs).length=rows.length:=by
 unfold Jz;split<;>simp
theorem aB{rows:List (List AV)}{r o:Nat}{vs:List AV}{q:Nat}{cs':List AV}(h:(Jz rows r o vs)[q]?=some cs'):∃cs,rows[q]?=some cs∧cs'=if q=r then Cm cs o vs else cs:=by
 unfold Jz at h
 split at h
 ·rename_i cs hr
  rw[ai7]at h
  by_cases hq:r=q
  ·subst hq
   have hlt:r<rows.length:=(acZ.1 hr).1
   simp[hlt]at h;subst h
   exact⟨cs,hr,by simp⟩
  ·rw[if_neg hq]at h;exact⟨cs',h,by rw[if_neg (Ne.symm hq)]⟩
 ·rename_i hr
  refine⟨cs',h,?_⟩
  rw[if_neg (fun e=>by subst e;rw[hr]at h;cases h)]
theorem Dc.edit(g:HF){e:Ad}{f:Dm}(h:e.foot.meets f=false):Dc g (Bl g e) f:=by
 cases f with
 |all=>cases e<;>simp[Ad.foot,Dm.meets]at h
 |blk b=>
  show Bl g e b=g b
  rw[Jm,if_neg]
  intro hb
  cases e<;>simp[Ad.foot,Dm.meets,Ad.id]at h hb<;>omega
 |cells b o n=>
  show Iq o n (g b) (Bl g e b)
  rw[Jm]
  by_cases hb:b=e.id
  ·rw[if_pos hb]
   cases e with
   |new b' c=>simp[Ad.foot,Dm.meets,Ad.id]at h hb;omega
   |put b' c=>simp[Ad.foot,Dm.meets,Ad.id]at h hb;omega
   |cells b' r o' vs=>
    simp only[Ad.id]at hb
    subst hb
    simp only[Ad.foot,Dm.meets,beq_self_eq_true,Bool.true_and,Bool.and_eq_false_iff,decide_eq_false_iff_not]at h
    cases hg:g b with
    |none=>exact .refl _
    |some c=>
     cases c with
     |live st fl w rows=>
      refine .live (Ug ..).symm (fun q cs cs' h1 h2=>?_)
      obtain⟨cs0,k1,k2⟩:=aB h2
      rw[h1]at k1;cases k1
      subst k2
      by_cases hq:q=r
      ·rw[if_pos hq]
       refine⟨(Ip ..).symm,fun j q1 q2=>?_⟩
       rw[Ij,if_neg (by omega)]
      ·rw[if_neg hq];exact⟨rfl,fun _ _ _=>rfl⟩
     |_=>exact .refl _
  ·rw[if_neg hb];exact .refl _
theorem Dc.both{g g':HF}{f:Dm}(h:Dc g g' f)(e:Ad):Dc (Bl g e) (Bl g' e) f:=by
 cases f with
 |all=>show Bl g' e=Bl g e;rw[show g'=g from h]
 |blk b=>
  show Bl g' e b=Bl g e b
  rw[Jm,Jm,show g' b=g b from h]
 |cells b o n=>
  show Iq o n (Bl g e b) (Bl g' e b)
  have h':Iq o n (g b) (g' b):=h
  rw[Jm,Jm]
  by_cases hb:b=e.id
  ·rw[if_pos hb,if_pos hb]
   generalize g b=x at h'
   generalize g' b=y at h'
   cases e with
   |new b' c=>exact .refl _
   |put b' c=>exact .refl _
   |cells b' r o' vs=>
    cases h' with
    |refl=>exact .refl _
    |live a d=>
     refine .live (by rw[Ug,Ug];exact a) (fun q cs cs' h1 h2=>?_)
     obtain⟨c1,k1,k2⟩:=aB h1
     obtain⟨c2,k3,k4⟩:=aB h2
     obtain⟨d1,d2⟩:=d q c1 c2 k1 k3
     subst k2 k4
     by_cases hq:q=r
     ·rw[if_pos hq,if_pos hq]
      refine⟨by rw[Ip,Ip];exact d1,fun j q1 q2=>?_⟩
      rw[Ij,Ij,d1]
      split
      ·rfl
      ·exact d2 j q1 q2
     ·rw[if_neg hq,if_neg hq];exact⟨d1,d2⟩
  ·rw[if_neg hb,if_neg hb];exact h'
theorem Dc.edits{f:Dm}:∀{es:List Ad} (g:HF),(∀e∈es,e.foot.meets f=false)→Dc g (Ap g es) f
 | [],g,_=>.refl g f
 |e::es,g,h=>(Dc.edit g (h e (abT ..))).trans (Dc.edits _ (fun x hx=>h x (abL _ hx)))
theorem Dc.boths{f:Dm}:∀{es:List Ad} {g g':HF},Dc g g' f→Dc (Ap g es) (Ap g' es) f
 | [],_,_,h=>h
 |e::es,_,_,h=>Dc.boths (es:=es) (h.both e)
theorem Dc.symm{g g':HF}{f:Dm}(h:Dc g g' f):Dc g' g f:=by
 cases f with
 |all=>exact Eq.symm h
 |blk b=>exact Eq.symm h
 |cells b o n=>
  have h':Iq o n (g b) (g' b):=h
  show Iq o n (g' b) (g b)
  generalize g b=x at h'
  generalize g' b=y at h'
  cases h' with
  |refl=>exact .refl _
  |live a d=>exact .live a.symm (fun r cs cs' h1 h2=>⟨(d r cs' cs h2 h1).1.symm,fun j q1 q2=>((d r cs' cs h2 h1).2 j q1 q2).symm⟩)
section
variable {P:Program}
theorem Ir{t t':List AV}:∀{xs:List Operand},(∀x∈xs,Ah t x=Ah t' x)→Bv t xs=Bv t' xs
 | [],_=>rfl
 |x::xs,h=>by
  simp only[Bv]
  rw[h x (abT ..),Ir (fun y hy=>h y (abL _ hy))]
theorem iR{t t':List AV}{x:Option Operand}(h:∀y,x=some y→Ah t y=Ah t' y):wC t x=wC t' x:=by
 cases x with
 |none=>rfl
 |some y=>simp only[wC];rw[h y rfl]
theorem abZ{g:HF}{base:Nat}{t t':List AV}{o:Op}(h:∀x∈o.operands.toList,Ah t x=Ah t' x):exec P g base t o=exec P g base t' o:=by
 cases o with
 |alloc t=>rfl
 |build ty ps=>simp only[exec];rw[Ir (t:=t) (t':=t') (xs:=ps.toList.map (·.2)) (fun x hx=>h x (by simp only[Op.operands];exact hx))]
 |buildSlice ty n ps=>simp only[exec];rw[Ir (t:=t) (t':=t') (xs:=ps.toList.map (·.2)) (fun x hx=>h x (by simp only[Op.operands];exact hx))]
 |makeFunc fn xs ys=>
  cases fn with
  |func f=>
   simp only[exec]
   rw[Ir (xs:=xs.toList) (fun x hx=>h x (by simp[Op.operands];exact .inl (by simpa using hx))),Ir (xs:=ys.toList) (fun x hx=>h x (by simp[Op.operands];exact .inr (by simpa using hx)))]
  |_=>simp[exec]
 |slice ty x lo hi mx=>
  cases mx with
  |some m=>simp[exec]
  |none=>
   simp only[exec]
   rw[h x (by simp[Op.operands]),iR (x:=lo) (fun y hy=>h y (by subst hy;simp[Op.operands])),iR (x:=hi) (fun y hy=>h y (by subst hy;simp[Op.operands]))]
 |call c=>
  obtain⟨cal,args,ts⟩:=c
  cases cal with
  |builtin b=>simp only[exec];rw[Ir (xs:=args.toList) (fun x hx=>h x (by simpa [Op.operands,Call.operands]using hx))]
  |_=>simp[exec]
 |pick c a b=>simp only[exec];rw[h c (by simp[Op.operands]),h a (by simp[Op.operands]),h b (by simp[Op.operands])]
 |store _ a b=>simp only[exec];rw[h a (by simp[Op.operands]),h b (by simp[Op.operands])]
 |binOp _ _ a b _=>simp only[exec];rw[h a (by simp[Op.operands]),h b (by simp[Op.operands])]
 |makeSlice _ a b=>simp only[exec];rw[h a (by simp[Op.operands]),h b (by simp[Op.operands])]
 |indexAddr _ a b=>simp only[exec];rw[h a (by simp[Op.operands]),h b (by simp[Op.operands])]
 |index _ a b=>simp only[exec];rw[h a (by simp[Op.operands]),h b (by simp[Op.operands])]
 |move a=>simp only[exec];rw[h a (by simp[Op.operands])]
 |assign a=>simp only[exec];rw[h a (by simp[Op.operands])]
 |box _ a=>simp only[exec];rw[h a (by simp[Op.operands])]
 |load _ a=>simp only[exec];rw[h a (by simp[Op.operands])]
 |nilCheck a=>simp only[exec];rw[h a (by simp[Op.operands])]
 |unOp _ _ a=>simp only[exec];rw[h a (by simp[Op.operands])]
 |convert _ _ a=>simp only[exec];rw[h a (by simp[Op.operands])]
 |makeInterface _ a=>simp only[exec];rw[h a (by simp[Op.operands])]
 |fieldAddr _ a _=>simp only[exec];rw[h a (by simp[Op.operands])]
 |field _ a _=>simp only[exec];rw[h a (by simp[Op.operands])]
 |extract a _=>simp only[exec];rw[h a (by simp[Op.operands])]
 |_=>rfl
theorem qQ{t t':List AV}{c:Call}(h:∀x∈c.operands.toList,Ah t x=Ah t' x):callee t c=callee t' c:=by
 obtain⟨cal,args,ts⟩:=c
 cases cal with
 |value f=>simp only[callee];rw[h f (by simp[Call.operands]),Ir (xs:=args.toList) (fun x hx=>h x (by simp[Call.operands];exact .inr (by simpa using hx)))]
 |_=>rfl
theorem Iq.row{o n:Nat}{g g':HF}{b:Nat}(h:Iq o n (g b) (g' b)){r:Nat}{cs:List AV}(hr:Zq g b r=some cs):
 ∃cs',Zq g' b r=some cs'∧cs'.length=cs.length∧∀j,o≤j→j<o+n→cs'[j]?=cs[j]?:=by
 unfold Zq at hr ⊢
 generalize g b=x at h hr
 generalize g' b=y at h
 cases h with
 |refl=>exact⟨cs,hr,rfl,fun _ _ _=>rfl⟩
 | @live st st' fl fl' w w' rows rows' a d=>
   simp only at hr ⊢
   have hlt:=(acZ.1 hr).1
   have h3:=am4 (a▸hlt)
   obtain⟨d1,d2⟩:=d r _ _ hr h3
   exact⟨_,h3,d1.symm,fun j q1 q2=>(d2 j q1 q2).symm⟩
theorem lR{cs cs':List AV}{o n:Nat}(h1:cs'.length=cs.length)(h2:∀j,o≤j→j<o+n→cs'[j]?=cs[j]?):(cs'.drop o).take n=(cs.drop o).take n:=by
 apply am3
 intro j
 rw[ar7,ar7]
 split
 ·rw[ar8,ar8];exact h2 _ (by omega) (by omega)
 ·rfl
theorem acH{g g':HF}{t:TypeId}{p:AV}{d:Jo}(h:Po P g t p=some d)(ha:∀f∈d.fs,Dc g g' f):Po P g' t p=some d:=by
 unfold Po at h ⊢
 simp only[aaR]at h ⊢
 obtain⟨isA,h1,n,h2,h⟩:=h
 refine⟨isA,h1,n,h2,?_⟩
 cases p with
 |iptr cs=>cases isA<;>cases cs<;>exact h
 |ptr b r o=>
  cases isA with
  |true=>
   simp only[aaR]at h ⊢
   obtain⟨cs,h3,h⟩:=h
   split at h<;>simp at h
   rename_i hle
   subst h
   obtain⟨cs',k1,k2,k3⟩:=Iq.row (ha (.cells b o n) (acK.2 rfl)) h3
   exact⟨cs',k1,by rw[if_pos (by omega),lR k2 k3]⟩
  |false=>
   simp only[aaR,ai8]at h ⊢
   obtain⟨cs,h3,v,h4,rfl⟩:=h
   obtain⟨cs',k1,k2,k3⟩:=Iq.row (ha (.cells b o 1) (acK.2 rfl)) h3
   exact⟨cs',k1,v,by rw[k3 o (ac2 _) (by omega)];exact h4,rfl⟩
 |_=>cases isA<;>simp at h
theorem wW{g g':HF}{t:TypeId}{p v:AV}{d:Jo}(h:Qs P g t p v=some d)(ha:∀f∈d.fs,Dc g g' f):Qs P g' t p v=some d:=by
 unfold Qs at h ⊢
 simp only[aaR]at h ⊢
 obtain⟨n,h2,h⟩:=h
 refine⟨n,h2,?_⟩
 cases p with
 |ptr b r o=>
  simp only at h ⊢
  split at h
  ·rename_i st fl w rows hg
   simp only[aaR]at h
   obtain⟨cs,h3,h⟩:=h
   split at h<;>simp at h
   rename_i hc
   subst h
   have hA:Iq o n (g b) (g' b):=ha (.cells b o n) (acK.2 rfl)
   rw[hg]at hA
   generalize hy:g' b=y at hA
   cases hA with
   |refl=>simp only[aaR];exact⟨cs,h3,by rw[if_pos hc]⟩
   | @live _ _ _ _ _ _ _ rows' a d=>
     have hlt:=(acZ.1 h3).1
     have h4:=am4 (a▸hlt)
     obtain⟨d1,d2⟩:=d r _ _ h3 h4
     simp only[aaR]
     exact⟨_,h4,by rw[if_pos (by rw[←d1];exact hc)]⟩
  ·simp at h
 |_=>simp at h
theorem bL{g g':HF}{b r len:Nat}(h:g' b=g b):Gg g' b r len=Gg g b r len:=by unfold Gg;rw[h]
theorem qM{g g':HF}{e:TypeId}{x:AV}{fl:Bool}{rows:List (List AV)}{fs:List Dm}(h:Ns P g e x=some (fl,rows,fs))(ha:∀f∈fs,Dc g g' f):Ns P g' e x=some (fl,rows,fs):=by
 cases x with
 |slr st b r len=>
  simp only[Ns,aaR]at h ⊢
  obtain⟨⟨st',fl',rows'⟩,h1,h⟩:=h
  simp only at h
  split at h<;>simp at h
  rename_i hs
  obtain⟨rfl,rfl,rfl⟩:=h
  refine⟨_,by rw[bL (ha (.blk b) (acK.2 rfl))];exact h1,?_⟩
  simp only;rw[if_pos hs]
 |_=>exact h
theorem fK{g g':HF}{base:Nat}{t:TypeId}{s x:AV}{d:Jo}(h:Hn P g base t s x=some d)(ha:∀f∈d.fs,Dc g g' f):Hn P g' base t s x=some d:=by
 unfold Hn at h ⊢
 simp only[aaR]at h ⊢
 obtain⟨e,h1,n,h2,by_,h3,z,h4,⟨nfl,new,fs⟩,h5,h⟩:=h
 have hfs:(∀f∈fs,f∈d.fs):=by
  simp only at h
  split at h
  ·simp at h
  ·split at h
   ·split at h<;>simp at h<;>subst h<;>exact fun f hf=>hf
   ·split at h<;>simp at h
    subst h;exact fun f hf=>hf
   ·split at h
    ·split at h<;>simp at h
     subst h;exact fun f hf=>abL _ hf
    ·simp at h
   ·simp at h
 refine⟨e,h1,n,h2,by_,h3,z,h4,(nfl,new,fs),qM h5 (fun f hf=>ha f (hfs f hf)),?_⟩
 simp only at h ⊢
 split at h
 ·simp at h
 ·rename_i hn
  rw[if_neg hn]
  cases new with
  |nil=>exact h
  |cons n0 new=>
   cases s with
   |slr st b r len=>
    simp only at h ⊢
    split at h
    ·rename_i st' fl' w' rows' hg
     split at h
     ·rename_i hc
      simp at h
      subst h
      have hb:g' b=g b:=ha (.blk b) (abT ..)
      rw[hb,hg]
      simp only
      rw[if_pos hc]
      rfl
     ·simp at h
    ·simp at h
   |_=>exact h
theorem agY{g g':HF}{base:Nat}{t:List AV}{o:Op}{d:Jo}(h:exec P g base t o=some d)(ha:∀f∈d.fs,Dc g g' f):exec P g' base t o=some d:=by
 cases o with
 |load ty x=>
  simp only[exec,aaR]at h ⊢
  obtain⟨p,h1,h2⟩:=h
  exact⟨p,h1,acH h2 ha⟩
 |store ty x y=>
  simp only[exec,aaR]at h ⊢
  obtain⟨p,h1,v,h2,h3⟩:=h
  exact⟨p,h1,v,h2,wW h3 ha⟩
 |makeFunc fn xs ys=>cases fn<;>exact h
 |slice ty x lo hi mx=>cases mx<;>exact h
 |call c=>
  obtain⟨cal,args,ts⟩:=c
  cases cal with
  |builtin b=>
   simp only[exec,aaR]at h ⊢
   obtain⟨vs,h1,h⟩:=h
   refine⟨vs,h1,?_⟩
   split at h
   ·exact h
   ·simp only[aaR]at h ⊢
    obtain⟨t0,h2,t1,h3,h⟩:=h
    refine⟨t0,h2,t1,h3,?_⟩
    split at h
    ·exact fK h ha
    ·exact fK h ha
    ·simp at h
   ·exact h
   ·exact h
   ·exact h
   ·exact h
   ·simp at h
  |_=>exact h
 |_=>exact h
def Uf(base:Nat)(F:Nat→Option Jo)(d:Jo):Prop:=(∀b c,Ad.new b c∈d.es→b=base)∧((∀b c,Ad.new b c∉d.es)→∀base',F base'=some d)
theorem mH{base:Nat}{v:AV}{d:Jo}(h:dY base v=some d):Uf base (fun b=>dY b v) d:=by
 unfold dY at h
 split at h<;>simp at h
 subst h
 exact⟨fun b c hb=>by simp at hb;exact hb.1,fun hn=>(hn _ _ (acK.2 rfl)).elim⟩
theorem dQ{base:Nat}{t:TypeId}{len:Nat}{parts:List (Nat × AV)}{d:Jo}(h:Db P base t len parts=some d):Uf base (fun b=>Db P b t len parts) d:=by
 unfold Db at h
 simp only[aaR]at h
 obtain⟨e,h1,n,h2,z,h3,h⟩:=h
 split at h
 ·simp at h
 ·obtain⟨rows,h4,h⟩:=aaR.1 h
  split at h<;>simp at h
  subst h
  exact⟨fun b c hb=>by simp at hb;exact hb.1,fun hn=>(hn _ _ (acK.2 rfl)).elim⟩
theorem gQ{base:Nat}{t:TypeId}{l c:AV}{d:Jo}(h:Hz P base t l c=some d):Uf base (fun b=>Hz P b t l c) d:=by
 unfold Hz at h
 simp only[aaR]at h
 obtain⟨e,h1,n,h2,b,h3,z,h4,h⟩:=h
 split at h
 ·split at h<;>simp at h
  subst h
  exact⟨fun b c hb=>by simp at hb;exact hb.1,fun hn=>(hn _ _ (acK.2 rfl)).elim⟩
 ·simp at h
theorem cB{g:HF}{base:Nat}{t:TypeId}{s x:AV}{d:Jo}(h:Hn P g base t s x=some d):Uf base (fun b=>Hn P g b t s x) d:=by
 have h0:=h
 unfold Hn at h
 simp only[aaR]at h
 obtain⟨e,h1,n,h2,by_,h3,z,h4,⟨nfl,new,fs⟩,h5,h⟩:=h
 simp only at h
 split at h
 ·simp at h
 ·rename_i hn
  cases new with
  |nil=>
   refine⟨fun b c hb=>?_,fun _ base'=>?_⟩
   ·simp only at h
    split at h<;>simp at h<;>subst h<;>simp at hb
   ·unfold Hn
    simp only[aaR]
    refine⟨e,h1,n,h2,by_,h3,z,h4,(nfl,[],fs),h5,?_⟩
    simp only;rw[if_neg hn];exact h
  |cons n0 new=>
   cases s with
   |nils=>
    simp only at h
    split at h<;>simp at h
    subst h
    exact⟨fun b c hb=>by simp at hb;exact hb.1,fun hn=>(hn _ _ (acK.2 rfl)).elim⟩
   |slr st b r len=>
    simp only at h
    split at h
    ·split at h<;>simp at h
     subst h
     exact⟨fun b c hb=>by simp at hb;exact hb.1,fun hn=>(hn _ _ (abL _ (acK.2 rfl))).elim⟩
    ·simp at h
   |_=>simp at h
theorem abR{g:HF}{base:Nat}{t:List AV}{o:Op}{d:Jo}(h:exec P g base t o=some d):Uf base (fun b=>exec P g b t o) d:=by
 have still:(∀base',exec P g base' t o=exec P g base t o)→d.es=[]→Uf base (fun b=>exec P g b t o) d:=fun h1 h2=>
  ⟨fun b c hb=>by rw[h2]at hb;simp at hb,fun _ base'=>(h1 base').trans h⟩
 have pure':∀{x:Option AV} {d:Jo},Gv x=some d→d.es=[]:=fun hx=>by
  obtain⟨v,_,rfl⟩:=ai8.1 hx;rfl
 have lift:∀{α:Type} {x:Option α} {F:Nat→α→Option Jo} (v:α),x=some v→Uf base (fun b=>F b v) d→Uf base (fun b=>x.bind (F b)) d:=fun v hv k=>by
  subst hv;exact k
 have goodE:(∀(he:exec P g base t o=some d),d.es=[])→(∀base',exec P g base' t o=exec P g base t o)→Uf base (fun b=>exec P g b t o) d:=fun h1 h2=>still h2 (h1 h)
 cases o with
 |alloc ty=>obtain⟨z,h1,h⟩:=aaR.1 h;exact lift z h1 (mH h)
 |box ty x=>obtain⟨z,h1,h⟩:=aaR.1 h;exact lift z h1 (mH h)
 |buildSlice ty n ps=>obtain⟨z,h1,h⟩:=aaR.1 h;exact lift z h1 (dQ h)
 |makeSlice ty x y=>
  obtain⟨p,h1,h⟩:=aaR.1 h
  obtain⟨q,h2,h⟩:=aaR.1 h
  exact lift p h1 (lift q h2 (gQ h))
 |makeFunc fn xs ys=>
  cases fn with
  |func f=>
   refine still (fun _=>rfl) ?_
   simp only[exec,aaR]at h
   obtain⟨p,_,v,_,h⟩:=h
   simp at h;subst h;rfl
  |_=>simp[exec]at h
 |slice ty x lo hi mx=>
  cases mx with
  |some m=>simp[exec]at h
  |none=>
   refine still (fun _=>rfl) ?_
   simp only[exec,aaR]at h
   obtain⟨p,_,v,_,u,_,h⟩:=h
   exact pure' h
 |call c=>
  obtain⟨cal,args,ts⟩:=c
  cases cal with
  |builtin b=>
   obtain⟨vs,hvs,he⟩:=aaR.1 h
   have hx:Uf base (fun b'=>exec P g b' t (.call ⟨.builtin b,args,ts⟩)) d:=by
    simp only[exec]
    refine lift vs hvs ?_
    split at he
    ·obtain⟨t0,q1,q2⟩:=aaR.1 he
     exact⟨fun b c hb=>by rw[pure' q2]at hb;simp at hb,fun _ _=>he⟩
    ·obtain⟨t0,q1,q2⟩:=aaR.1 he
     obtain⟨t1,q3,q4⟩:=aaR.1 q2
     refine lift t0 q1 (lift t1 q3 ?_)
     split at q4
     ·exact cB q4
     ·exact cB q4
     ·simp at q4
    ·exact⟨fun b c hb=>by rw[pure' he]at hb;simp at hb,fun _ _=>he⟩
    ·exact⟨fun b c hb=>by rw[pure' he]at hb;simp at hb,fun _ _=>he⟩
    ·exact⟨fun b c hb=>by rw[pure' he]at hb;simp at hb,fun _ _=>he⟩
    ·exact⟨fun b c hb=>by rw[pure' he]at hb;simp at hb,fun _ _=>he⟩
    ·simp at he
   exact hx
  |_=>simp[exec]at h
 |load ty x=>
  refine still (fun _=>rfl) ?_
  obtain⟨p,_,he⟩:=aaR.1 h
  unfold Po at he
  simp only[aaR]at he
  obtain⟨isA,_,n,_,he⟩:=he
  split at he
  ·split at he<;>simp at he;subst he;rfl
  ·obtain⟨cs,_,he⟩:=aaR.1 he
   split at he<;>simp at he;subst he;rfl
  ·simp at he;subst he;rfl
  ·obtain⟨cs,_,he⟩:=aaR.1 he
   obtain⟨v,_,rfl⟩:=ai8.1 he;rfl
  ·simp at he
 |store ty x y=>
  refine⟨fun b c hb=>?_,fun _ _=>h⟩
  simp only[exec,aaR]at h
  obtain⟨p,_,v,_,he⟩:=h
  unfold Qs at he
  obtain⟨n,_,he⟩:=aaR.1 he
  cases p with
  |ptr b r o=>
   simp only at he
   split at he
   ·obtain⟨cs,_,he⟩:=aaR.1 he
    split at he<;>simp at he
    subst he;simp at hb
   ·simp at he
  |_=>simp at he
 |move x=>exact still (fun _=>rfl) (pure' h)
 |assign x=>exact still (fun _=>rfl) (pure' h)
 |pick a b c=>
  refine still (fun _=>rfl) ?_
  simp only[exec,aaR]at h
  obtain⟨c,_,x,_,y,_,he⟩:=h
  split at he<;>simp at he
  subst he;rfl
 |build ty ps=>obtain⟨z,_,he⟩:=aaR.1 h;exact still (fun _=>rfl) (pure' he)
 |nilCheck x=>
  refine still (fun _=>rfl) ?_
  obtain⟨p,_,he⟩:=aaR.1 h
  split at he<;>simp at he<;>subst he<;>rfl
 |binOp op ty x y yt=>
  refine still (fun _=>rfl) ?_
  simp only[exec,aaR]at h
  obtain⟨p,_,v,_,he⟩:=h;exact pure' he
 |unOp op ty x=>obtain⟨z,_,he⟩:=aaR.1 h;exact still (fun _=>rfl) (pure' he)
 |convert s ty x=>obtain⟨z,_,he⟩:=aaR.1 h;exact still (fun _=>rfl) (pure' he)
 |makeInterface ty x=>
  refine still (fun _=>rfl) ?_
  obtain⟨z,_,he⟩:=aaR.1 h
  split at he<;>simp at he;subst he;rfl
 |fieldAddr ty x f=>obtain⟨z,_,he⟩:=aaR.1 h;exact still (fun _=>rfl) (pure' he)
 |field ty x f=>obtain⟨z,_,he⟩:=aaR.1 h;exact still (fun _=>rfl) (pure' he)
 |indexAddr ty x y=>
  refine still (fun _=>rfl) ?_
  simp only[exec,aaR]at h
  obtain⟨p,_,v,_,he⟩:=h;exact pure' he
 |index ty x y=>
  refine still (fun _=>rfl) ?_
  simp only[exec,aaR]at h
  obtain⟨p,_,v,_,he⟩:=h;exact pure' he
 |extract x i=>
  refine still (fun _=>rfl) ?_
  obtain⟨z,_,he⟩:=aaR.1 h
  split at he
  ·exact pure' he
  ·simp at he
 |_=>simp[exec]at h
end
section
variable {P:Program} {O:Ez} {g g':HF}
theorem Oi{α β:Type}{f f':α→Option β}:∀{l:List α},(∀a∈l,f a=f' a)→As f l=As f' l
 | [],_=>rfl
 |a::l,h=>by
  simp only[As]
  rw[h a (abT ..),Oi (fun b hb=>h b (abL _ hb))]
theorem Jl{α β:Type}{f f':α→List β}:∀{l:List α},(∀a∈l,f a=f' a)→l.flatMap f=l.flatMap f'
 | [],_=>rfl
 |a::l,h=>by
  simp only[am5]
  rw[h a (abT ..),Jl (fun b hb=>h b (abL _ hb))]
theorem Yq:∀{d:Nat} {v:AV},(∀b∈Av d g v,g' b=g b)→Gh d g' v=Gh d g v∧Av d g' v=Av d g v
 |0,v,_=>⟨rfl,rfl⟩
 |d+1,v,h=>by
  cases v with
  |slr st b r len=>
   have hb:Gg g' b r len=Gg g b r len:=bL (h b (by simp[Av]))
   simp only[Gh,Av,hb]
   cases hr:Gg g b r len with
   |none=>exact⟨rfl,rfl⟩
   |some x=>
    obtain⟨st',fl,rows⟩:=x
    cases fl with
    |true=>exact⟨rfl,rfl⟩
    |false=>
     have hin:∀cs∈rows,∀c∈cs,Gh d g' c=Gh d g c∧Av d g' c=Av d g c:=fun cs hcs c hc=>Yq fun b' hb'=>h b' (by
      simp only[Av,hr]
      exact abL _ (ac5.2 ⟨cs,hcs,ac5.2 ⟨c,hc,hb'⟩⟩))
     refine⟨?_,?_⟩
     ·show(As (As (Gh d g')) rows).map (AV.imm st' false)=(As (As (Gh d g)) rows).map (AV.imm st' false)
      rw[Oi (fun cs hcs=>Oi (fun c hc=>(hin cs hcs c hc).1))]
     ·show b::rows.flatMap (fun cs=>cs.flatMap (Av d g'))=b::rows.flatMap (fun cs=>cs.flatMap (Av d g))
      rw[Jl (fun cs hcs=>Jl (fun c hc=>(hin cs hcs c hc).2))]
  |agg cs=>
   have hin:∀c∈cs,Gh d g' c=Gh d g c∧Av d g' c=Av d g c:=fun c hc=>Yq fun b' hb'=>h b' (by simp only[Av];exact ac5.2 ⟨c,hc,hb'⟩)
   simp only[Gh,Av]
   rw[Oi (fun c hc=>(hin c hc).1),Jl (fun c hc=>(hin c hc).2)]
   exact⟨rfl,rfl⟩
  |iface t x=>
   have:=Yq (d:=d) (v:=x) (fun b' hb'=>h b' (by simpa only[Av]using hb'))
   simp only[Gh,Av]
   rw[this.1,this.2]
   exact⟨rfl,rfl⟩
  |func fn a b=>cases a<;>cases b<;>exact⟨rfl,rfl⟩
  |_=>exact⟨rfl,rfl⟩
theorem jJ:∀{d:Nat} {v:AV},(∀b∈Av d g v,g' b=g b)→Ib d g' v=Ib d g v
 |0,v,_=>rfl
 |d+1,v,h=>by
  cases v with
  |slr st b r len=>exact(Yq h).1
  |agg cs=>
   have hin:∀c∈cs,Ib d g' c=Ib d g c:=fun c hc=>jJ fun b' hb'=>h b' (by simp only[Av];exact ac5.2 ⟨c,hc,hb'⟩)
   simp only[Ib]
   rw[Oi hin]
  |iface t x=>
   have:=jJ (d:=d) (v:=x) (fun b' hb'=>h b' (by simpa only[Av]using hb'))
   simp only[Ib]
   rw[this]
  |_=>rfl
theorem iL:∀{n i:Nat} {m m':List Nat} {cs:List CB},Jh n g i m=some (cs,m')→i≤m.length→(∀b∈m',g' b=g b)→Jh n g' i m=some (cs,m')
 |0,_,_,_,_,h,_,_=>by simp[Jh]at h
 |n+1,i,m,m',cs,h,hi,hm=>by
  have hpre:=(dL h hi).1
  unfold Jh at h ⊢
  cases hb:m[i]? with
  |none=>rw[hb]at h;exact h
  |some b=>
   rw[hb]at h
   simp only[aaR,ai8]at h ⊢
   obtain⟨c,h1,⟨c',m1⟩,h2,⟨cs',m2⟩,h3,h4⟩:=h
   simp at h4
   obtain⟨rfl,rfl⟩:=h4
   have hlt:=(acZ.1 hb).1
   have hmem:b∈m2:=(List.IsPrefix.subset hpre) (ar9 hb)
   refine⟨c,by rw[hm b hmem];exact h1,(c',m1),h2,(cs',m2),?_,rfl⟩
   have hl:i+1≤m1.length:=by have:=((sP h2).1).length_le;omega
   exact iL h3 hl hm
theorem rB{m m':List Nat}{vs vs':List AV}{cs:List CB}(h:Ju g m vs=some (vs',cs,m'))(hm:∀b∈m',g' b=g b):Ju g' m vs=some (vs',cs,m'):=by
 unfold Ju at h ⊢
 simp only[aaR,ai8]at h ⊢
 obtain⟨⟨v1,m1⟩,h1,⟨c1,m2⟩,h2,h3⟩:=h
 simp at h3
 obtain⟨rfl,rfl,rfl⟩:=h3
 exact⟨_,h1,_,iL h2 (Nat.zero_le _) hm,rfl⟩
theorem fS:∀{l:List Nat},(∀b∈l,g' b=g b)→Do g' l=Do g l
 | [],_=>rfl
 |b::l,h=>by
  simp only[Do]
  rw[h b (abT ..),fS (fun x hx=>h x (abL _ hx))]
theorem nC{base:Nat}{lent m:List Nat}{cs:List CB}{out:Dx}{h':Aa}{d:Kr}(h:Le g base lent m cs out h'=some d):d.fs=(lent++m).map .blk:=by
 unfold Le at h
 simp only[aaR]at h
 obtain⟨v,_,ps,_,ns,_,h⟩:=h
 simp at h
 subst h;simp
theorem vT{base:Nat}{f:Sj}{args:List AV}{d:Kr}(h:Du O g base f args=some d)(ha:∀x∈d.fs,Dc g g' x):
 Du O g' base f args=some d∧As (Ib 12 g') args=As (Ib 12 g) args∧∀vs vs' cs m,As (Ib 12 g) args=some vs→Ju g' [] vs=some (vs',cs,m)→Ju g [] vs=some (vs',cs,m):=by
 unfold Du at h ⊢
 simp only[aaR]at h
 obtain⟨vs,hvs,⟨vs',cs,m⟩,hp,h⟩:=h
 simp only at h
 split at h
 ·simp at h
 ·rename_i hlm
  simp only[aaR]at h
  obtain⟨⟨out,h'⟩,hc,hu⟩:=h
  simp only at hu
  have hfs:=nC hu
  have hl:∀b∈args.flatMap (Av 12 g),g' b=g b:=fun b hb=>ha (.blk b) (by rw[hfs];exact ai9.2 ⟨b,anT _ hb,rfl⟩)
  have hm:∀b∈m,g' b=g b:=fun b hb=>ha (.blk b) (by rw[hfs];exact ai9.2 ⟨b,am6 _ hb,rfl⟩)
  have hin:∀x∈args,Gh 12 g' x=Gh 12 g x∧Av 12 g' x=Av 12 g x:=fun x hx=>Yq fun b hb=>hl b (ac5.2 ⟨x,hx,hb⟩)
  have hlen:args.flatMap (Av 12 g')=args.flatMap (Av 12 g):=Jl fun x hx=>(hin x hx).2
  have harg:As (Ib 12 g') args=As (Ib 12 g) args:=Oi fun x hx=>jJ fun b hb=>hl b (ac5.2 ⟨x,hx,hb⟩)
  have hp':=rB hp hm
  refine⟨?_,harg,fun vs1 vs1' cs1 m1 q1 q2=>?_⟩
  ·simp only[aaR]
   refine⟨vs,by rw[harg];exact hvs,(vs',cs,m),hp',?_⟩
   simp only[hlen]
   rw[if_neg hlm]
   simp only[aaR]
   refine⟨(out,h'),hc,?_⟩
   simp only
   unfold Le at hu ⊢
   rw[fS hl]
   exact hu
  ·rw[hvs]at q1;cases q1
   rw[hp']at q2
   rw[hp];exact q2
theorem dV{base:Nat}{f:Sj}{args:List AV}{d:Kr}(h:Ji O g base f args=some d):d.fs=[.all]:=by
 unfold Ji at h
 obtain⟨_,_,h⟩:=aaR.1 h
 obtain⟨_,_,h⟩:=aaR.1 h
 obtain⟨_,_,rfl⟩:=ai8.1 h
 rfl
theorem acW{base:Nat}{f:Sj}{args:List AV}{d:Kr}(h:Ge O g base f args=some d)(ha:∀x∈d.fs,Dc g g' x):
 Ge O g' base f args=some d∧As (Ib 12 g') args=As (Ib 12 g) args∧∀vs vs' cs m,As (Ib 12 g) args=some vs→Ju g' [] vs=some (vs',cs,m)→Ju g [] vs=some (vs',cs,m):=by
 have sh:Ji O g base f args=some d→g'=g:=fun h=>ha .all (by rw[dV h];simp)
 by_cases hp:Vs O f args
 ·obtain⟨n,_,k2⟩:=hp.eq
  rw[k2]at h ⊢
  exact vT h ha
 ·rw[Vo hp]at h ⊢
  have:=sh h
  subst this
  exact⟨h,rfl,fun _ _ _ _ _ q=>q⟩
end
section
variable {P:Program} {O:Ez}
def jA(O:Ez)(P:Program)(ops:List Oper)(t:List AV)(g:HF)(base:Nat)(o:Oper):Option Jo:=
 match Fb ops t o with
 |none=>none
 |some false=>some ⟨.tup [],[],[]⟩
 |some true=>
  match Gk o.op with
  | .call c=>(callee t c).bind fun(f,args)=>(Ge O g base f args).bind fun d=>match d.out with
    | .ret v=>some ⟨v,d.es,d.fs⟩
    | .pan _=>none
  | .panic _=>none
  | .other=>exec P g base t o.op
inductive jP(O:Ez)(P:Program)(ops:List Oper):List (Oper × Jo)→St→St→Prop
 |nil (s:St):jP O P ops [] s s
 |cons {o:Oper} {d:Jo} {l:List (Oper × Jo)} {s s':St}:jA O P ops s.tmps (hf s.h) s.h.length o=some d→Ec s.h d.es→jP O P ops l ⟨put s.tmps o.dst d.v,Ar s.h d.es⟩ s'→jP O P ops ((o,d)::l) s s'
theorem iV{ops:List Oper}{gs:List Nat}{k:St→Wz→R}{r:Ex × St}:∀{rest:List Oper} {i:Nat} {s:St} {log:Wz},Fg O P ops gs rest i s log k (fun _ _=>none)=some r→
 ∃recs s',jP O P ops recs s s'∧recs.map (·.1)=rest∧k s' (log++recs.map fun x=>(x.2.es,x.2.fs))=some r
 | [],i,s,log,h=>⟨[],s,.nil s,rfl,by simpa [Fg]using h⟩
 |o::rest,i,s,log,h=>by
  have fin:∀(d:Jo),jA O P ops s.tmps (hf s.h) s.h.length o=some d→Ec s.h d.es→Fg O P ops gs rest (i+1) ⟨put s.tmps o.dst d.v,Ar s.h d.es⟩ (log++[(d.es,d.fs)]) k (fun _ _=>none)=some r→
   ∃recs s',jP O P ops recs s s'∧recs.map (·.1)=o::rest∧k s' (log++recs.map fun x=>(x.2.es,x.2.fs))=some r:=fun d h1 h2 h3=>by
   obtain⟨recs,s',k1,k2,k3⟩:=iV h3
   exact⟨(o,d)::recs,s',.cons h1 h2 k1,by simp[k2],by simpa using k3⟩
  unfold Fg at h
  split at h
  ·simp at h
  ·rename_i hw
   exact fin ⟨.tup [],[],[]⟩ (by simp only[jA,hw]) (.nil _) h
  ·rename_i hw
   cases hk:Gk o.op with
   |call c=>
    rw[hk]at h
    simp only[aaR]at h
    obtain⟨⟨fc,args⟩,hcal,d,hd,h⟩:=h
    simp only at hd
    cases ho:d.out with
    |ret v=>
     rw[ho]at h
     simp only[Fp]at h
     refine fin ⟨v,d.es,d.fs⟩ ?_ (aT hd) h
     simp only[jA,hw,hk,aaR]
     exact⟨(fc,args),hcal,d,hd,by simp only[ho]⟩
    |pan v=>rw[ho]at h;simp at h
   |panic x=>
    rw[hk]at h
    simp only[aaR]at h
    obtain⟨v,hv,h⟩:=h
    split at h<;>simp at h
   |other=>
    rw[hk]at h
    simp only[aaR,Fp]at h
    obtain⟨d,hd,h⟩:=h
    exact fin d (by simp only[jA,hw,hk];exact hd) (mW hd) h
def tS:(Nat→Bool)→List (Oper × Jo)→List AV→List AV
 |_,[],t=>t
 |D,x::l,t=>tS (fun n=>D (n+1)) l (if D 0=true then put t x.1.dst x.2.v else t)
def gS:(Nat→Bool)→List (Oper × Jo)→HF→HF
 |_,[],g=>g
 |D,x::l,g=>gS (fun n=>D (n+1)) l (if D 0=true then Ap g x.2.es else g)
theorem tY:∀{l:List (Oper × Jo)} {D D':Nat→Bool} {t:List AV},(∀i,i<l.length→D i=D' i)→tS D l t=tS D' l t
 | [],_,_,_,_=>rfl
 |x::l,D,D',t,h=>by
  simp only[tS]
  rw[h 0 (by simp),tY (fun i hi=>h (i+1) (by simp;omega))]
theorem rY:∀{l:List (Oper × Jo)} {D D':Nat→Bool} {g:HF},(∀i,i<l.length→D i=D' i)→gS D l g=gS D' l g
 | [],_,_,_,_=>rfl
 |x::l,D,D',g,h=>by
  simp only[gS]
  rw[h 0 (by simp),rY (fun i hi=>h (i+1) (by simp;omega))]
theorem pD:∀{l:List (Oper × Jo)} {D:Nat→Bool} {t:List AV},(∀i,D i=false)→tS D l t=t
 | [],_,_,_=>rfl
 |x::l,D,t,h=>by simp only[tS];rw[h 0];exact pD (fun i=>h (i+1))
theorem hQ:∀{l:List (Oper × Jo)} {D:Nat→Bool} {g:HF},(∀i,D i=false)→gS D l g=g
 | [],_,_,_=>rfl
 |x::l,D,g,h=>by simp only[gS];rw[h 0];exact hQ (fun i=>h (i+1))
theorem qV(i:Nat):(fun n=>decide (n+1<i+1))=fun n=>decide (n<i):=by funext n;simp
theorem jP.at{ops:List Oper}:∀{recs:List (Oper × Jo)} {s s':St},jP O P ops recs s s'→∀i o d,recs[i]?=some (o,d)→
 ∃h:Aa,jA O P ops (tS (fun n=>decide (n<i)) recs s.tmps) (gS (fun n=>decide (n<i)) recs (hf s.h)) h.length o=some d∧gS (fun n=>decide (n<i)) recs (hf s.h)=hf h∧Ec h d.es∧s.h.length≤h.length∧h.length≤s'.h.length∧
  (∀b,Hj d.es b→b<s'.h.length)∧∀j o' d',j<i→recs[j]?=some (o',d')→∀b,Hj d'.es b→b<h.length
 |_,_,_,.nil s,i,o,d,h=>by simp at h
 |_,s,s',.cons (o:=o0) (d:=d0) (l:=l) h1 h2 h3,i,o,d,h=>by
  obtain⟨e1,e2,e3,e4⟩:=Vd h2.ok
  have hlast:(Ar s.h d0.es).length≤s'.h.length:=by
   have aux:∀{recs:List (Oper × Jo)} {s s':St},jP O P ops recs s s'→s.h.length≤s'.h.length:=fun hr=>by
    induction hr with
    |nil=>exact ac2 _
    |cons _ k2 _ ih=>exact ajA (Vd k2.ok).2.1 ih
   exact aux h3
  cases i with
  |zero=>
   simp at h
   obtain⟨rfl,rfl⟩:=h
   refine⟨s.h,?_,?_,h2,ac2 _,ajA e2 hlast,fun b hb=>anX (e3 b hb) hlast,fun j _ _ hj=>by omega⟩
   ·rw[pD (fun i=>by simp),hQ (fun i=>by simp)];exact h1
   ·rw[hQ (fun i=>by simp)]
  |succ i=>
   simp at h
   obtain⟨hh,k1,k2,k3,k4,k5,k6,k7⟩:=jP.at h3 i o d h
   simp only[tS,gS,qV]
   simp only[Nat.zero_lt_succ,decide_true,if_true]
   rw[←e1]
   refine⟨hh,k1,k2,k3,ajA e2 k4,k5,k6,fun j o' d' hj hr b hb=>?_⟩
   cases j with
   |zero=>simp at hr;obtain⟨rfl,rfl⟩:=hr;exact anX (e3 b hb) k4
   |succ j=>exact k7 j o' d' (by omega) (by simpa using hr) b hb
theorem Ec.trans{h:Aa}{es es':List Ad}(a:Ec h es)(b:Ec (Ar h es) es'):Ec h (es++es'):=by
 obtain⟨k1,k2,k3,k4⟩:=Vd a.ok
 have ok:∀(es:List Ad) (h:Aa),Xx h.length es→Xx (Ar h es).length es'→Xx h.length (es++es'):=by
  intro es
  induction es with
  |nil=>intro h _ q;exact q
  |cons e es ih=>
   intro h q1 q2
   cases e with
   |new b c=>
    obtain⟨r1,r2⟩:=q1
    exact⟨r1,by have:=ih (h++[c]) (by simpa using r2) q2;simpa using this⟩
   |put b c=>
    obtain⟨r1,r2⟩:=q1
    exact⟨r1,by have:=ih (h.set b c) (by simpa using r2) q2;simpa using this⟩
   |cells b r o vs=>
    obtain⟨r1,r2⟩:=q1
    have hl:(Bw h (.cells b r o vs)).length=h.length:=by
     simp only[Bw];split<;>simp
    exact⟨r1,by have:=ih (Bw h (.cells b r o vs)) (by rw[hl];exact r2) q2;rw[hl]at this;exact this⟩
 have fa:∀(es:List Ad) (g:HF),Ap g (es++es')=Ap (Ap g es) es':=by
  intro es
  induction es with
  |nil=>intro g;rfl
  |cons e es ih=>intro g;exact ih _
 have eid:∀b,Hj (es++es') b↔Hj es b∨Hj es' b:=fun b=>by
  constructor
  ·rintro⟨e,he,Fa⟩
   rcases am8.1 he with he|he
   ·exact .inl ⟨e,he,Fa⟩
   ·exact .inr ⟨e,he,Fa⟩
  ·rintro(⟨e,he,Fa⟩|⟨e,he,Fa⟩)
   ·exact⟨e,anT _ he,Fa⟩
   ·exact⟨e,am6 _ he,Fa⟩
 refine⟨ok es h a.ok b.ok,fun x hx hlt=>?_,fun x hx=>?_⟩
 ·rw[fa,←k1]
  by_cases h1:Hj es x
  ·refine⟨(a.touched x h1 hlt).1,fun c hc=>?_⟩
   by_cases h2:Hj es' x
   ·exact(b.touched x h2 (k3 x h1)).2 c hc
   ·rw[b.untouched x h2,k1]at hc
    exact(a.touched x h1 hlt).2 c hc
  ·have h2:Hj es' x:=((eid x).1 hx).resolve_left h1
   obtain⟨q1,q2⟩:=b.touched x h2 (anX hlt k2)
   rw[k1,a.untouched x h1]at q1
   exact⟨q1,q2⟩
 ·have h1:¬Hj es x:=fun e=>hx ((eid x).2 (.inl e))
  have h2:¬Hj es' x:=fun e=>hx ((eid x).2 (.inr e))
  rw[fa,←k1,b.untouched x h2,k1,a.untouched x h1]
def Zl(recs:List (Oper × Jo)):List Ad:=recs.flatMap (·.2.es)
theorem abE{recs:List (Oper × Jo)}{b:Nat}:Hj (Zl recs) b↔∃(j:Nat) (o:Oper) (d:Jo),recs[j]?=some (o,d)∧Hj d.es b:=by
 unfold Zl
 constructor
 ·rintro⟨e,he,Fa⟩
  obtain⟨x,hx,he⟩:=ac5.1 he
  obtain⟨j,hj⟩:=List.mem_iff_getElem?.1 hx
  exact⟨j,x.1,x.2,hj,e,he,Fa⟩
 ·rintro⟨j,o,d,hj,e,he,Fa⟩
  exact⟨e,ac5.2 ⟨(o,d),ar9 hj,he⟩,Fa⟩
theorem Yt:∀{es es':List Ad} {g:Aa},Ar g (es++es')=Ar (Ar g es) es'
 | [],_,_=>rfl
 |e::es,_,_=>Yt (es:=es)
theorem af0:∀{recs:List (Oper × Jo)} {g:HF},gS (fun _=>true) recs g=Ap g (Zl recs)
 | [],g=>rfl
 |x::l,g=>by
  simp only[gS,if_true,Zl,am5]
  rw[Pq]
  exact af0
theorem jP.last{ops:List Oper}{recs:List (Oper × Jo)}{s s':St}(h:jP O P ops recs s s'):s'.tmps=tS (fun _=>true) recs s.tmps∧s'.h=Ar s.h (Zl recs)∧Ec s.h (Zl recs):=by
 induction h with
 |nil s=>exact⟨rfl,rfl,.nil _⟩
 | @cons o d l s s' h1 h2 h3 ih=>
   obtain⟨k1,k2,k3⟩:=ih
   refine⟨?_,?_,?_⟩
   ·simp only[tS,if_true];exact k1
   ·simp only[Zl,am5];rw[Yt];exact k2
   ·simp only[Zl,am5];exact h2.trans k3
theorem alN(t:List AV)(d:Option Nat)(v:AV):(put t d v).length=t.length:=by cases d<;>simp[put]
theorem bP(t:List AV)(d:Option Nat)(v:AV)(x:Nat):Hl (put t d v) x=if d=some x∧x<t.length then v else Hl t x:=by
 cases d with
 |none=>simp[put]
 |some d=>
  simp only[put,Hl,ai7,ac3.injEq]
  by_cases h:d=x
  ·subst h
   by_cases h2:d<t.length
   ·simp[h2]
   ·simp[h2]
  ·simp[h]
theorem qI{L:List Nat}:∀{l:List (Oper × Jo)} {D D':Nat→Bool} {t t':List AV},(∀j o d,l[j]?=some (o,d)→D j≠D' j→∀x,o.dst=some x→x∉L)→t.length=t'.length→(∀x∈L,Hl t x=Hl t' x)→
 ∀x∈L,Hl (tS D l t) x=Hl (tS D' l t') x
 | [],D,D',t,t',_,_,h=>h
 |y::l,D,D',t,t',hd,hl,h=>by
  simp only[tS]
  refine qI (fun j o d hj hne=>hd (j+1) o d (by simpa using hj) hne) ?_ ?_
  ·split<;>split<;>simp[alN,hl]
  ·intro x hx
   have h0:=hd 0 y.1 y.2 (by simp)
   cases e1:D 0<;>cases e2:D' 0
   ·simpa using h x hx
   ·simp only[adA,if_false,if_true]
    rw[bP,if_neg (fun q=>h0 (by simp[e1,e2]) x q.1 hx)]
    exact h x hx
   ·simp only[adA,if_false,if_true]
    rw[bP,if_neg (fun q=>h0 (by simp[e1,e2]) x q.1 hx)]
    exact h x hx
   ·simp only[if_true]
    rw[bP,bP,hl,h x hx]
theorem tK{f:Dm}:∀{l:List (Oper × Jo)} {D D':Nat→Bool} {g g':HF},(∀j o d,l[j]?=some (o,d)→D j≠D' j→∀e∈d.es,e.foot.meets f=false)→Dc g g' f→Dc (gS D l g) (gS D' l g') f
 | [],D,D',g,g',_,h=>h
 |y::l,D,D',g,g',hd,h=>by
  simp only[gS]
  refine tK (fun j o d hj hne=>hd (j+1) o d (by simpa using hj) hne) ?_
  have h0:=hd 0 y.1 y.2 (by simp)
  cases e1:D 0<;>cases e2:D' 0
  ·simpa using h
  ·simp only[adA,if_false,if_true]
   exact h.trans (Dc.edits _ (h0 (by simp[e1,e2])))
  ·simp only[adA,if_false,if_true]
   exact(Dc.edits _ (h0 (by simp[e1,e2]))).symm.trans h
  ·simp only[if_true]
   exact Dc.boths h
theorem afG(t:List AV){x y:Option Nat}(v u:AV)(h:∀d,x=some d→y≠some d):put (put t x v) y u=put (put t y u) x v:=by
 cases x with
 |none=>rfl
 |some a=>
  cases y with
  |none=>rfl
  |some b=>simp only[put];exact List.set_comm _ _ (fun e=>h a rfl (by rw[e]))
theorem uT{x:Option Nat}{v:AV}:∀{l:List (Oper × Jo)} {D:Nat→Bool} {t:List AV},(∀j o d,l[j]?=some (o,d)→D j=true→∀c,x=some c→o.dst≠some c)→tS D l (put t x v)=put (tS D l t) x v
 | [],D,t,_=>rfl
 |y::l,D,t,h=>by
  simp only[tS]
  cases e:D 0 with
  |true=>
   simp only[if_true]
   rw[afG t v y.2.v (h 0 y.1 y.2 (by simp) e)]
   exact uT (fun j o d hj hD=>h (j+1) o d (by simpa using hj) hD)
  |false=>exact uT (fun j o d hj hD=>h (j+1) o d (by simpa using hj) hD)
theorem ahD{es:List Ad}:∀{l:List (Oper × Jo)} {D:Nat→Bool} {g:HF},(∀j o d,l[j]?=some (o,d)→D j=true→∀x∈es,∀y∈d.es,x.foot.meets y.foot=false)→gS D l (Ap g es)=Ap (gS D l g) es
 | [],D,g,_=>rfl
 |y::l,D,g,h=>by
  simp only[gS]
  cases e:D 0 with
  |true=>
   simp only[if_true]
   rw[mD g (h 0 y.1 y.2 (by simp) e)]
   exact ahD (fun j o d hj hD=>h (j+1) o d (by simpa using hj) hD)
  |false=>exact ahD (fun j o d hj hD=>h (j+1) o d (by simpa using hj) hD)
theorem nV:∀{l:List (Oper × Jo)} {D D':Nat→Bool} {t:List AV} {i:Nat} {o:Oper} {d:Jo},l[i]?=some (o,d)→D i=false→D' i=true→(∀j,j≠i→D' j=D j)→
 (∀j o' d',l[j]?=some (o',d')→i<j→D j=true→∀c,o.dst=some c→o'.dst≠some c)→tS D' l t=put (tS D l t) o.dst d.v
 | [],D,D',t,i,o,d,h,_,_,_,_=>by simp at h
 |y::l,D,D',t,i,o,d,h,h1,h2,h3,h4=>by
  cases i with
  |zero=>
   simp at h
   subst h
   simp only[tS,h1,h2,if_true,adA,if_false]
   rw[show(fun n=>D' (n+1))=fun n=>D (n+1)from funext fun n=>h3 (n+1) (by omega)]
   exact uT (fun j o' d' hj hD=>h4 (j+1) o' d' (by simpa using hj) (by omega) hD)
  |succ i=>
   simp only[tS]
   rw[h3 0 (by omega)]
   exact nV (by simpa using h) h1 h2 (fun j hj=>h3 (j+1) (by omega)) (fun j o' d' hj hi hD=>h4 (j+1) o' d' (by simpa using hj) (by omega) hD)
theorem nH:∀{l:List (Oper × Jo)} {D D':Nat→Bool} {g:HF} {i:Nat} {o:Oper} {d:Jo},l[i]?=some (o,d)→D i=false→D' i=true→(∀j,j≠i→D' j=D j)→
 (∀j o' d',l[j]?=some (o',d')→i<j→D j=true→∀x∈d.es,∀y∈d'.es,x.foot.meets y.foot=false)→gS D' l g=Ap (gS D l g) d.es
 | [],D,D',g,i,o,d,h,_,_,_,_=>by simp at h
 |y::l,D,D',g,i,o,d,h,h1,h2,h3,h4=>by
  cases i with
  |zero=>
   simp at h
   subst h
   simp only[gS,h1,h2,if_true,adA,if_false]
   rw[show(fun n=>D' (n+1))=fun n=>D (n+1)from funext fun n=>h3 (n+1) (by omega)]
   exact ahD (fun j o' d' hj hD=>h4 (j+1) o' d' (by simpa using hj) (by omega) hD)
  |succ i=>
   simp only[gS]
   rw[h3 0 (by omega)]
   exact nH (by simpa using h) h1 h2 (fun j hj=>h3 (j+1) (by omega)) (fun j o' d' hj hi hD=>h4 (j+1) o' d' (by simpa using hj) (by omega) hD)
theorem wB{g:HF}{e:Ad}{b:Nat}(h:Bl g e b≠none):g b≠none∨e.id=b:=by
 rw[Jm]at h
 by_cases hb:b=e.id
 ·exact .inr hb.symm
 ·rw[if_neg hb]at h;exact .inl h
theorem nZ:∀{es:List Ad} {g:HF} {b:Nat},Ap g es b≠none→g b≠none∨Hj es b
 | [],g,b,h=>.inl h
 |e::es,g,b,h=>by
  rcases nZ (es:=es) h with h|⟨x,hx,Fa⟩
  ·rcases wB h with h|h
   ·exact .inl h
   ·exact .inr ⟨e,abT ..,h⟩
  ·exact .inr ⟨x,abL _ hx,Fa⟩
theorem yF:∀{l:List (Oper × Jo)} {D:Nat→Bool} {g:HF} {b:Nat},gS D l g b≠none→g b≠none∨∃j o d,D j=true∧l[j]?=some (o,d)∧Hj d.es b
 | [],D,g,b,h=>.inl h
 |x::l,D,g,b,h=>by
  simp only[gS]at h
  rcases yF h with h|⟨j,o,d,h1,h2,h3⟩
  ·cases e:D 0 with
   |true=>
    rw[e]at h
    simp only[if_true]at h
    rcases nZ h with h|h
    ·exact .inl h
    ·exact .inr ⟨0,x.1,x.2,e,by simp,h⟩
   |false=>rw[e]at h;exact .inl h
  ·exact .inr ⟨j+1,o,d,h1,by simpa using h2,h3⟩
end
section
variable {P:Program} {G:Nat→Option Obj} {O:Ez} {F:Fence} {nn:Nat}
theorem afB(hF:WF F)(hO:Hr P G O){ops:Array Oper}{i:Nat}{o:Oper}(ho:ops[i]?=some o){t:List AV}{g:HF}{base z:Nat}{d:Jo}{a:Act}{w:World}{S:Nat→Prop}(hI:Tj G w S){ρ:Am}
 (H:HR w S ρ g) (T:TR w S ρ t a.tmps) (hz:ρ z=.fresh) (hgf:∀b,g b≠none→ρ b≠.fresh) (hd:jA O P ops.toList t g base o=some d)
 (hmb:∀vs vs' cs m,Ju g [] vs=some (vs',cs,m)→(∀b∈m,Dm.blk b∈d.fs)→∀b∈m,b<base) (hall:Dm.all∈d.fs→∀b,base≤b→g b=none) (hnew:∀b c,Ad.new b c∈d.es→ρ b=.fresh)
 {Q:Exit→Act→World→Prop} {K:Act→World→Prop}
 (hK:∀cv w' S' ρ',VR w' S' ρ' d.v cv→HR w' S' ρ' (Ap g d.es)→Gu w w' S S' ρ ρ'→Vm (Hj d.es) w w' ρ ρ'→Yg d.es ρ ρ'→K (a.put o.dst cv) w'):wpOpIn F nn P ops Q i K a w:=by
 have habout:∀f,o.about P w a.eval=some f→F.fn f:=fun f _=>hF.fn f
 unfold wpOpIn
 simp only[ho]
 unfold jA at hd
 split at hd
 ·simp at hd
 ·rename_i hw
  rw[Qc T hw]
  simp only[adA,if_false]
  simp at hd
  subst hd
  exact⟨habout,hK undef w S ρ Uz H (Gu.refl _ _ _) Vm.refl Yg.refl⟩
 ·rename_i hw
  rw[Qc T hw]
  simp only[if_true]
  refine⟨habout,?_⟩
  cases hk:Gk o.op with
  |call c=>
   rw[hk]at hd
   simp only[aaR]at hd
   obtain⟨⟨fc,args⟩,hcal,dc,hdc,hd⟩:=hd
   simp only at hdc
   have hop:o.op=.call c∧∀b,c.callee≠.builtin b:=by
    unfold Gk at hk
    split at hk<;>simp at hk
    rename_i c' hnb hop
    subst hk
    exact⟨hop,fun b e=>by obtain⟨cal,as,ts⟩:=c';simp at e;subst e;exact hnb b as ts rfl⟩
   obtain⟨hop,hnb⟩:=hop
   have hsem:o.semAt F.round a.eval=execOp a.eval o:=Oper.semAt_eq _ _ _ (fun c e=>by rw[hop]at e;cases e)
   rw[hsem]
   cases hout:dc.out with
   |pan v=>rw[hout]at hd;simp at hd
   |ret v0=>
    rw[hout]at hd
    simp at hd
    subst hd
    unfold callee at hcal
    split at hcal
    ·rename_i fo hfo
     simp only[aaR]at hcal
     obtain⟨fv,hfv,vs,hvs,hcal⟩:=hcal
     have hfr:=An T hfv
     have hvr:=Js T hvs
     generalize hfe:a.eval fo=cf at hfr
     split at hcal
     ·rename_i f fa fb
      simp only[ac3.injEq,Prod.mk.injEq]at hcal
      obtain⟨rfl,rfl⟩:=hcal
      cases hfr with
      | @func _ _ _ _ va vc q1 q2 q3 q4=>
        have hlr:LR w S ρ (fa++vs++fb) (va++c.args.map a.eval++vc).toList:=by
         have e1:(va++c.args.map a.eval++vc).toList=va.toList++c.args.toList.map a.eval++vc.toList:=by simp
         rw[e1]
         exact(LR.append (LR.append ⟨by simpa using q1,fun i x v hx hv=>q3 i x v hx (by simpa using hv)⟩ hvr) ⟨by simpa using q2,fun i x v hx hv=>q4 i x v hx (by simpa using hv)⟩)
        have hmb':∀vs1 vs' cs m,As (Ib 12 g) (fa++vs++fb)=some vs1→Ju g [] vs1=some (vs',cs,m)→Vs O (Xv f (fa++vs++fb)) (fa++vs++fb)→∀b∈m,b<base:=fun vs1 vs' cs m h1 h2 h3=>by
         refine hmb vs1 vs' cs m h2 (fun b hb=>?_)
         have hdc':=hdc
         obtain⟨n3,_,h3⟩:=h3.eq
         rw[h3]at hdc'
         unfold Du at hdc'
         simp only[aaR]at hdc'
         obtain⟨vs2,r1,⟨vs3,cs3,m3⟩,r2,r3⟩:=hdc'
         rw[h1]at r1;cases r1
         rw[h2]at r2;cases r2
         simp only at r3
         split at r3
         ·simp at r3
         ·obtain⟨⟨out,h'⟩,_,r4⟩:=aaR.1 r3
          show Dm.blk b∈dc.fs
          rw[nC r4]
          exact ai9.2 ⟨b,am6 _ hb,rfl⟩
        obtain⟨henter,hcalls⟩:=lK hO hI H hz hgf (kV _ _) hlr hmb' hdc hall hnew
        have hrun:(execOp a.eval o).run P w=.ok (.enter f (va++c.args.map a.eval++vc)) w:=by
         simp only[execOp,hop,Sem.run_bind,resolve,hfo,hfe,Deferred.ofValue,Sem.run_pure,Result.andThen_ok,invoke]
         rw[henter]
        rw[hrun]
        refine⟨fun hdp=>by rw[hF.depth]at hdp;simp at hdp,hF.calls (hcalls.mono fun e w' ⟨cv,S',ρ',he,hv,hHR,hsim,hloc,hfrs⟩=>?_)⟩
        cases e with
        |returned v=>
         obtain⟨⟨x,hx⟩,rfl⟩:=he
         rw[hout]at hv
         exact hK _ w' S' ρ' hv hHR hsim hloc hfrs
        |panicked ch=>
         obtain⟨⟨x,hx⟩,rfl⟩:=he
         rw[hout]at hx;cases hx
        |outgrown=>exact he.elim
     ·rename_i b
      simp only[ac3.injEq,Prod.mk.injEq]at hcal
      obtain⟨rfl,rfl⟩:=hcal
      have hyl:∃l,cf=.func (.yield l) #[] #[]:=by cases hfr<;>exact⟨_,rfl⟩
      obtain⟨l,rfl⟩:=hyl
      have hlr:LR w S ρ (vs++[.yl b]) ((c.args.map a.eval).toList++[.func (.yield l) #[] #[]]):=LR.append (by simpa using hvr) (.cons hfr .nil)
      obtain⟨fn,tmps,asg,body,hy,hround⟩:=eM hO hI H hz hgf hlr hdc hall hnew
      have hrun:(execOp a.eval o).run P w=.ok (.round l fn tmps asg body) w:=by
       simp only[execOp,hop,Sem.run_bind,resolve,hfo,hfe,Deferred.ofValue,Sem.run_pure,Result.andThen_ok,invoke]
       simpa using hy
      rw[hrun]
      refine⟨fun hdp=>by rw[hF.depth]at hdp;simp at hdp,(hround F _ hF).mono fun e w' ⟨cv,S',ρ',he,hv,hHR,hsim,hloc,hfrs⟩=>?_⟩
      cases e with
      |returned v=>
       obtain⟨⟨x,hx⟩,rfl⟩:=he
       rw[hout]at hv
       exact hK _ w' S' ρ' hv hHR hsim hloc hfrs
      |panicked ch=>
       obtain⟨⟨x,hx⟩,rfl⟩:=he
       rw[hout]at hx;cases hx
      |outgrown=>exact he.elim
     ·simp at hcal
    ·simp at hcal
  |panic x=>rw[hk]at hd;simp at hd
  |other=>
   rw[hk]at hd
   simp only at hd
   have hsem:o.semAt F.round a.eval=execOp a.eval o:=Oper.semAt_eq _ _ _ (cI hd)
   rw[hsem]
   have hex:∃base',ρ base'=.fresh∧exec P g base' t o.op=some d:=by
    obtain⟨b1,b2⟩:=abR hd
    by_cases hn:∃b c,Ad.new b c∈d.es
    ·obtain⟨b,c,hbc⟩:=hn
     have:=b1 b c hbc
     subst this
     exact⟨b,hnew b c hbc,hd⟩
    ·exact⟨z,hz,b2 (fun b c hbc=>hn ⟨b,c,hbc⟩) z⟩
   obtain⟨base',hb',hd'⟩:=hex
   obtain⟨cv,w',ρ',hran,hv,hHR,hsim,hloc,hfrs⟩:=kR H hb' T hd'
   rcases hran with hran|⟨hran,rfl⟩
   ·rw[hran];exact hK cv w' S ρ' hv hHR hsim hloc hfrs
   ·rw[hran];exact hK _ w' S ρ' hv hHR hsim hloc hfrs
theorem qS{ops:List Oper}{o:Oper}{t t':List AV}(h:∀x∈looks ops o,Hl t x=Hl t' x):∀x∈o.op.operands.toList,Ah t x=Ah t' x:=fun x hx=>by
 cases x with
 |tmp y=>
  simp only[Ah]
  rw[h y (anT _ (asA.2 ⟨_,hx,rfl⟩))]
 |_=>rfl
theorem lU{ops:List Oper}{o:Oper}{t t':List AV}(h:∀x∈looks ops o,Hl t x=Hl t' x):Fb ops t o=Fb ops t' o:=by
 unfold Fb
 cases hg:o.guard with
 |none=>rfl
 |some jw=>
  obtain⟨j,want⟩:=jw
  simp only
  cases hd:(ops[j]?).bind (·.dst)with
  |none=>rfl
  |some y=>
   simp only
   rw[h y (am6 _ (by rw[hg];simp[hd]))]
theorem ahM{ops:List Oper}{o:Oper}{t t':List AV}{g g':HF}{base:Nat}{d:Jo}(h:jA O P ops t g base o=some d)(ht:∀x∈looks ops o,Hl t x=Hl t' x)(ha:∀f∈d.fs,Dc g g' f):jA O P ops t' g' base o=some d:=by
 unfold jA at h ⊢
 rw[←lU ht]
 split at h
 ·simp at h
 ·exact h
 ·have hev:=qS ht
  cases hk:Gk o.op with
  |call c=>
   rw[hk]at h
   simp only[aaR]at h ⊢
   obtain⟨⟨fc,args⟩,hcal,dc,hdc,hd⟩:=h
   have hop:o.op=.call c:=by
    unfold Gk at hk
    split at hk<;>simp at hk
    rename_i c' hnb hop
    subst hk
    exact hop
   refine⟨(fc,args),?_,dc,?_,hd⟩
   ·rw[←qQ (fun x hx=>hev x (by rw[hop];exact hx))];exact hcal
   ·refine(acW hdc fun f hf=>ha f ?_).1
    cases hout:dc.out with
    |ret v=>rw[hout]at hd;simp at hd;subst hd;exact hf
    |pan v=>rw[hout]at hd;simp at hd
  |panic x=>rw[hk]at h;simp at h
  |other=>
   rw[hk]at h
   simp only at h ⊢
   rw[←abZ hev]
   exact agY h ha
theorem cF{acc:Array Nat}{i:Nat}:∀{l:List Edge} {s:Nat},(l.foldl (fun s e=>if Region.binds .any e then s|||2 ^ e.on|||acc.getD e.on 0 else s) s).testBit i=true→
 s.testBit i=true∨∃e∈l,Region.binds .any e=true∧(e.on=i∨(acc.getD e.on 0).testBit i=true)
 | [],s,h=>.inl h
 |e::l,s,h=>by
  rcases cF (l:=l) h with h|⟨e',he,k1,k2⟩
  ·simp only at h
   by_cases hb:Region.binds .any e=true
   ·rw[if_pos hb,Nat.testBit_or,Nat.testBit_or,Nat.testBit_two_pow]at h
    simp only[Bool.or_eq_true,decide_eq_true_eq]at h
    rcases h with(h|h)|h
    ·exact .inl h
    ·exact .inr ⟨e,abT ..,hb,.inl h⟩
    ·exact .inr ⟨e,abT ..,hb,.inr h⟩
   ·rw[if_neg hb]at h;exact .inl h
  ·exact .inr ⟨e',abL _ he,k1,k2⟩
def Hy(acc:Array Nat)(o:Oper):Array Nat:=acc.push (o.after.foldl (fun s e=>if Region.binds .any e then s|||2 ^ e.on|||acc.getD e.on 0 else s) 0)
theorem eC(l:List Oper):∀(A:Array Nat) (pre:List Oper),A.size=pre.length→
 (∀j i,(A.getD j 0).testBit i=true→∃o e,pre[j]?=some o∧e∈o.after.toList∧Region.binds .any e=true∧(e.on=i∨(e.on<j∧(A.getD e.on 0).testBit i=true)))→
 ∀j i,((l.foldl Hy A).getD j 0).testBit i=true→∃o e,(pre++l)[j]?=some o∧e∈o.after.toList∧Region.binds .any e=true∧(e.on=i∨(e.on<j∧((l.foldl Hy A).getD e.on 0).testBit i=true)):=by
 induction l with
 |nil=>intro A pre _ h j i hj;simpa using h j i hj
 |cons o l ih=>
  intro A pre hA h j i hj
  have:=ih (Hy A o) (pre++[o]) (by simp[Hy,hA]) (fun j i hj=>?_) j i hj
  ·simpa using this
  ·have hpush:∀n,n<A.size→(Hy A o).getD n 0=A.getD n 0:=fun n hn=>by
    simp only[Hy,aeG,Array.getElem?_push]
    rw[if_neg (by omega)]
   rcases an1 j A.size with hlt|heq|hgt
   ·rw[hpush j hlt]at hj
    obtain⟨o',e,k1,k2,k3,k4⟩:=h j i hj
    refine⟨o',e,?_,k2,k3,?_⟩
    ·rw[asB (by omega)];exact k1
    ·rcases k4 with k4|⟨k4,k5⟩
     ·exact .inl k4
     ·exact .inr ⟨k4,by rw[hpush _ (by omega)];exact k5⟩
   ·subst heq
    have hv:(Hy A o).getD A.size 0=o.after.foldl (fun s e=>if Region.binds .any e then s|||2 ^ e.on|||A.getD e.on 0 else s) 0:=by
     simp[Hy,aeG]
    rw[hv,←apG]at hj
    rcases cF hj with hz|⟨e,k1,k2,k3⟩
    ·simp at hz
    ·refine⟨o,e,by rw[hA];simp,k1,k2,?_⟩
     rcases k3 with k3|k3
     ·exact .inl k3
     ·have hlt:e.on<A.size:=by
       rcases Nat.lt_or_ge e.on A.size with q|q
       ·exact q
       ·rw[aeG,asC q]at k3;simp at k3
      exact .inr ⟨hlt,by rw[hpush _ hlt];exact k3⟩
   ·rw[aeG,asC (by simp[Hy];omega)]at hj
    simp at hj
theorem tX{ops:Array Oper}{j i:Nat}(h:((Region.before ops).getD j 0).testBit i=true):
 ∃o e,ops[j]?=some o∧e∈o.after.toList∧Region.binds .any e=true∧(e.on=i∨(e.on<j∧((Region.before ops).getD e.on 0).testBit i=true)):=by
 have hb:Region.before ops=ops.toList.foldl Hy #[]:=by unfold Region.before;rw[←apG];rfl
 rw[hb]at h ⊢
 have:=eC ops.toList #[] [] rfl (fun j i hj=>by simp at hj) j i h
 simpa using this
theorem Zn{ops:Array Oper}{D:Nat→Bool}(hc:∀(j:Nat) (o:Oper),ops[j]?=some o→D j=true→∀e∈o.after.toList,Region.binds .any e=true→D e.on=true):∀(j i:Nat),D j=true→((Region.before ops).getD j 0).testBit i=true→D i=true:=by
 intro j
 induction j using anC with
 |_ j ih=>
  intro i hj h
  obtain⟨o,e,k1,k2,k3,k4⟩:=tX h
  have he:=hc j o k1 hj e k2 k3
  rcases k4 with k4|⟨k4,k5⟩
  ·rw[←k4];exact he
  ·exact ih e.on k4 i he k5
theorem acL{ops:Array Oper}{i j:Nat}(hij:i<j)(hj:j<ops.size)(h:((Region.before ops).getD j 0).testBit i=false):(i,j)∈eZ ops.toList:=by
 unfold eZ
 simp only[ac5,aiT,asA,Array.toArray_toList]
 exact⟨j,by simpa using hj,i,hij,by rw[h];simp⟩
end
section
variable {P:Program} {G:Nat→Option Obj} {O:Ez} {F:Fence} {nn:Nat}
def InD(D:Nat→Bool)(recs:List (Oper × Jo))(b:Nat):Prop:=∃(j:Nat) (o:Oper) (d:Jo),D j=true∧recs[j]?=some (o,d)∧Hj d.es b
structure DI(s:St)(recs:List (Oper × Jo))(a0:Act)(w0:World)(S0:Nat→Prop)(ρ0:Am)(D:Nat→Bool)(a:Act)(w:World)(S:Nat→Prop)(ρ:Am):Prop where
 hr:HR w S ρ (gS D recs (hf s.h))
 tr:TR w S ρ (tS D recs s.tmps) a.tmps
 sim:Gu w0 w S0 S ρ0 ρ
 loc:Vm (InD D recs) w0 w ρ0 ρ
 frs:∀b,ρ b=.fresh↔(ρ0 b=.fresh∧¬InD D recs b)
 defers:a.defers=a0.defers
theorem Wi{x y:List Ad × List Dm}(h:Qb x y=false):(∀e∈x.1,∀e'∈y.1,e.foot.meets e'.foot=false)∧(∀e∈x.1,∀f∈y.2,e.foot.meets f=false)∧(∀e∈y.1,∀f∈x.2,e.foot.meets f=false):=by
 unfold Qb at h
 simp only[Bool.or_eq_false_iff,anG,ai9,am8]at h
 obtain⟨h1,h2⟩:=h
 refine⟨fun e he e' he'=>?_,fun e he f hf=>?_,fun e he f hf=>?_⟩
 ·have:=h1 e.foot ⟨e,he,rfl⟩
  simp only[ap9,anG,am8,ai9]at this
  exact this e'.foot (.inl ⟨e',he',rfl⟩)
 ·have:=h1 e.foot ⟨e,he,rfl⟩
  simp only[ap9,anG,am8,ai9]at this
  exact this f (.inr hf)
 ·have:=h2 e.foot ⟨e,he,rfl⟩
  simp only[ap9,anG]at this
  exact this f hf
theorem Yu{ops:List Oper}{x y:Oper}(h:dA ops x y=true):(∀d,x.dst=some d→d∉looks ops y∧y.dst≠some d)∧(∀d,y.dst=some d→d∉looks ops x):=by
 unfold dA at h
 rw[ai5]at h
 obtain⟨h1,h2⟩:=h
 refine⟨fun d hd=>?_,fun d hd=>?_⟩
 ·rw[hd]at h1;simpa using h1
 ·rw[hd]at h2;simpa using h2
theorem vJ{b:Nat}{c:CB}{e:Ad}(h:e.id=b):(Ad.new b c).foot.meets e.foot=true:=by
 cases e<;>simp[Ad.id]at h<;>subst h<;>simp[Ad.foot,Dm.meets]
theorem nU{l:Array Bool}{i:Nat}(h:l.getD i true=false):i<l.size∧l.getD i false=false:=by
 rw[aeG]at h ⊢
 cases e:l[i]? with
 |none=>rw[e]at h;simp at h
 |some b=>rw[e]at h;simp at h;subst h;exact⟨(aeO.1 e).1,rfl⟩
theorem adR{l:List Nat}{p q:Nat→Bool}(hq:∀x,q x=true→p x=true){i:Nat}(hi:i∈l)(h1:p i=true)(h2:q i=false):(l.filter q).length<(l.filter p).length:=by
 induction l with
 |nil=>simp at hi
 |cons x l ih=>
  have hle:(l.filter q).length≤(l.filter p).length:=by
   clear ih hi
   induction l with
   |nil=>simp
   |cons y l ih=>
    cases e1:q y with
    |true=>rw[ai6 e1,ai6 (hq y e1)];simpa using ih
    |false=>
     rw[ajB (by simp[e1])]
     cases e2:p y with
     |true=>rw[ai6 e2];simp only[anN];omega
     |false=>rw[ajB (by simp[e2])];exact ih
  rcases List.mem_cons.1 hi with rfl|hi
  ·rw[ai6 h1,ajB (by simp[h2])];simp only[anN];omega
  ·have:=ih hi
   cases e1:q x with
   |true=>rw[ai6 e1,ai6 (hq x e1)];simp only[anN];omega
   |false=>
    rw[ajB (by simp[e1])]
    cases e2:p x with
    |true=>rw[ai6 e2];simp only[anN];omega
    |false=>rw[ajB (by simp[e2])];exact this
theorem qY(hm:P.follows .mixedOrders=true)(hO:Hr P G O):cG P G O:=by
 intro ops B k r s a0 w0 S0 ρ0 id F nn hF hst hev hI hs
 obtain⟨recs,s',hruns,hmap,hk⟩:=iV hev
 simp only[asD]at hk
 have hdk:Et ops.toList (recs.map fun x=>(x.2.es,x.2.fs))=true∧k s' (recs.map fun x=>(x.2.es,x.2.fs))=some r:=by
  unfold He at hk
  cases e:Et ops.toList (recs.map fun x=>(x.2.es,x.2.fs))with
  |true=>rw[e]at hk;exact⟨rfl,hk⟩
  |false=>rw[e]at hk;simp at hk
 obtain⟨hdyn,hk⟩:=hdk
 have hlen:recs.length=ops.size:=by have:=congrArg List.length hmap;simpa using this
 have hget:∀(i:Nat) o d,recs[i]?=some (o,d)→ops[i]?=some o:=fun i o d h=>by
  have:(recs.map (·.1))[i]?=some o:=by rw[ajY,h];rfl
  rw[hmap]at this;simpa using this
 unfold Ol at hst
 rw[ai5]at hst
 obtain⟨hedge,hap⟩:=hst
 have pair:∀(i j:Nat) x y,i<j→recs[i]?=some x→recs[j]?=some y→((Region.before ops).getD j 0).testBit i=false→dA ops.toList x.1 y.1=true∧Qb (x.2.es,x.2.fs) (y.2.es,y.2.fs)=false:=fun i j x y hij hi hj hb=>by
  have hjl:j<ops.size:=by rw[←hlen];exact(acZ.1 hj).1
  have hmem:=acL hij hjl hb
  refine⟨?_,?_⟩
  ·have:=acY.1 hap _ hmem
   have e1:=hget i x.1 x.2 hi
   have e2:=hget j y.1 y.2 hj
   simp only[asE,e1,e2]at this
   exact this
  ·have:=acY.1 hdyn _ hmem
   simp only[ajY,hi,hj,ac4]at this
   simpa using this
 have FF:=hs.1
 have step:∀(D:Nat→Bool) (i:Nat) (o:Oper) (d:Jo),recs[i]?=some (o,d)→D i=false→
  (∀(j:Nat) (o:Oper),ops[j]?=some o→(D j=true∨j=i)→∀e∈o.after.toList,Region.binds .any e=true→D e.on=true)→
  ∀a w S ρ,DI s recs a0 w0 S0 ρ0 D a w S ρ→∀(Q:Exit→Act→World→Prop) (K:Act→World→Prop) (D':Nat→Bool),D' i=true→(∀j,j≠i→D' j=D j)→
  (∀a' w' S' ρ',DI s recs a0 w0 S0 ρ0 D' a' w' S' ρ'→K a' w')→wpOpIn F nn P ops Q i K a w:=by
  intro D i o d hi hDi hcl a w S ρ hDI Q K D' hD'i hD' hK
  obtain⟨h,t1,t2,t3,t4,t5,t6,t7⟩:=hruns.at i o d hi
  have hil:i<ops.size:=by rw[←hlen];exact(acZ.1 hi).1
  have hclD:∀(j:Nat) (o:Oper),ops[j]?=some o→D j=true→∀e∈o.after.toList,Region.binds .any e=true→D e.on=true:=fun j o hj hd=>hcl j o hj (.inl hd)
  have hclD':∀(j:Nat) (o:Oper),ops[j]?=some o→D' j=true→∀e∈o.after.toList,Region.binds .any e=true→D' e.on=true:=fun j o hj hd e he hb=>by
   have hD:D e.on=true:=by
    by_cases hji:j=i
    ·exact hcl j o hj (.inr hji) e he hb
    ·exact hcl j o hj (.inl (by rw[←hD' j hji];exact hd)) e he hb
   have hne:e.on≠i:=fun q=>by rw[q,hDi]at hD;cases hD
   rw[hD' _ hne];exact hD
  have later:∀j o' d',recs[j]?=some (o',d')→i<j→D j=true→dA ops.toList o o'=true∧Qb (d.es,d.fs) (d'.es,d'.fs)=false:=fun j o' d' hj hij hDj=>by
   refine pair i j (o,d) (o',d') hij hi hj ?_
   cases hb:((Region.before ops).getD j 0).testBit i with
   |false=>rfl
   |true=>have:=Zn hclD j i hDj hb;rw[hDi]at this;cases this
  have earlier:∀j o' d',recs[j]?=some (o',d')→j<i→D j=false→dA ops.toList o' o=true∧Qb (d'.es,d'.fs) (d.es,d.fs)=false:=fun j o' d' hj hij hDj=>by
   refine pair j i (o',d') (o,d) hij hj hi ?_
   cases hb:((Region.before ops).getD i 0).testBit j with
   |false=>rfl
   |true=>
    have:=Zn hclD' i j hD'i hb
    rw[hD' j (by omega),hDj]at this;cases this
  have hdiff:∀j o' d',recs[j]?=some (o',d')→decide (j<i)≠D j→(∀x,o'.dst=some x→x∉looks ops.toList o)∧∀e∈d'.es,∀f∈d.fs,e.foot.meets f=false:=fun j o' d' hj hne=>by
   by_cases hji:j<i
   ·have hDj:D j=false:=by
     cases e:D j with
     |false=>rfl
     |true=>rw[e]at hne;simp[hji]at hne
    obtain⟨q1,q2⟩:=earlier j o' d' hj hji hDj
    exact⟨fun x hx=>((Yu q1).1 x hx).1,fun e he f hf=>(Wi q2).2.1 e he f hf⟩
   ·have hDj:D j=true:=by
     cases e:D j with
     |true=>rfl
     |false=>rw[e]at hne;simp[hji]at hne
    have hij:i<j:=by
     rcases an1 i j with q|q|q
     ·exact q
     ·subst q;rw[hDi]at hDj;cases hDj
     ·omega
    obtain⟨q1,q2⟩:=later j o' d' hj hij hDj
    exact⟨fun x hx=>(Yu q1).2 x hx,fun e he f hf=>(Wi q2).2.2 e he f hf⟩
  have hta:∀x∈looks ops.toList o,Hl (tS (fun n=>decide (n<i)) recs s.tmps) x=Hl (tS D recs s.tmps) x:=
   qI (fun j o' d' hj hne=>(hdiff j o' d' hj hne).1) rfl (fun _ _=>rfl)
  have hga:∀f∈d.fs,Dc (gS (fun n=>decide (n<i)) recs (hf s.h)) (gS D recs (hf s.h)) f:=fun f hf=>
   tK (fun j o' d' hj hne e he=>(hdiff j o' d' hj hne).2 e he f hf) (Dc.refl _ _)
  have hd:=ahM t1 hta hga
  have hfresh:∀b c,Ad.new b c∈d.es→ρ b=.fresh:=fun b c hb=>by
   have hbl:=Uy t3.ok b c hb
   refine(hDI.frs b).2 ⟨FF.dom b (ajA t4 hbl),fun⟨j,o',d',hDj,hj,hE⟩=>?_⟩
   rcases an1 i j with q|q|q
   ·obtain⟨e,he,Fa⟩:=hE
    have:=(Wi (later j o' d' hj q hDj).2).1 _ hb e he
    rw[vJ Fa]at this;cases this
   ·subst q;rw[hDi]at hDj;cases hDj
   ·have:=t7 j o' d' q hj b hE;omega
  have hz:ρ s'.h.length=.fresh:=(hDI.frs _).2 ⟨FF.dom _ (ajA t4 t5),fun⟨j,o',d',hDj,hj,hE⟩=>by
   obtain⟨_,_,_,_,_,_,u6,_⟩:=hruns.at j o' d' hj
   have:=u6 _ hE;omega⟩
  have hgf:∀b,gS D recs (hf s.h) b≠none→ρ b≠.fresh:=fun b hb hfr=>by
   obtain⟨f1,f2⟩:=(hDI.frs b).1 hfr
   rcases yF hb with q|q
   ·have hlt:b<s.h.length:=by
     cases e:hf s.h b with
     |none=>exact(q e).elim
     |some c=>exact Kt e
    exact FF.all b hlt f1
   ·exact f2 q
  refine afB hF hO (hget i o d hi) (hI.sim (FF.sim.trans hDI.sim)) hDI.hr hDI.tr hz hgf hd ?_ (fun hm b hb=>by
   have e:gS D recs (hf s.h)=gS (fun n=>decide (n<i)) recs (hf s.h):=hga .all hm
   rw[e,t2];exact pA hb) hfresh ?_
  ·intro vs vs' cs m hp hblk b hb
   have:=rB (g:=gS D recs (hf s.h)) (g':=gS (fun n=>decide (n<i)) recs (hf s.h)) hp (fun b' hb'=>(hga (.blk b') (hblk b' hb')).symm)
   rw[t2]at this
   exact xT this b hb
  ·intro cv w' S' ρ' hv hHR hsim hloc hfrs
   have ht:tS D' recs s.tmps=put (tS D recs s.tmps) o.dst d.v:=nV hi hDi hD'i hD' (fun j o' d' hj hij hDj c hc=>((Yu (later j o' d' hj hij hDj).1).1 c hc).2)
   have hg:gS D' recs (hf s.h)=Ap (gS D recs (hf s.h)) d.es:=nH hi hDi hD'i hD' (fun j o' d' hj hij hDj=>(Wi (later j o' d' hj hij hDj).2).1)
   have hin:∀b,InD D' recs b↔InD D recs b∨Hj d.es b:=fun b=>by
    constructor
    ·rintro⟨j,o',d',q1,q2,q3⟩
     by_cases hji:j=i
     ·subst hji;rw[hi]at q2;cases q2;exact .inr q3
     ·exact .inl ⟨j,o',d',by rw[←hD' j hji];exact q1,q2,q3⟩
    ·rintro(⟨j,o',d',q1,q2,q3⟩|q)
     ·by_cases hji:j=i
      ·subst hji;rw[hDi]at q1;cases q1
      ·exact⟨j,o',d',by rw[hD' j hji];exact q1,q2,q3⟩
     ·exact⟨i,o,d,hD'i,hi,q⟩
   refine hK _ w' S' ρ' ⟨?_,?_,hDI.sim.trans hsim,?_,fun b=>?_,by rw[iT];exact hDI.defers⟩
   ·rw[hg];exact hHR
   ·rw[ht];exact mY (LR.sim hsim hDI.tr) o.dst hv
   ·exact(hDI.loc.trans hloc).mono (fun b hb=>(hin b).2 hb)
   ·rw[hfrs b,hDI.frs b,hin b]
    constructor
    ·rintro⟨⟨q1,q2⟩,q3⟩;exact⟨q1,fun q=>q.elim q2 q3⟩
    ·rintro⟨q1,q2⟩;exact⟨⟨q1,fun q=>q2 (.inl q)⟩,fun q=>q2 (.inr q)⟩
 have fin:∀(D:Nat→Bool) a w S ρ,(∀i,i<ops.size→D i=true)→DI s recs a0 w0 S0 ρ0 D a w S ρ→OQ B k (fun _ _=>none) r .normal a w:=by
  intro D a w S ρ hall hDI
  obtain⟨l1,l2,l3⟩:=hruns.last
  have hgA:gS D recs (hf s.h)=Ap (hf s.h) (Zl recs):=by
   rw[←af0];exact rY (fun i hi=>hall i (by omega))
  have htA:tS D recs s.tmps=s'.tmps:=by rw[l1];exact tY (fun i hi=>hall i (by omega))
  have hinA:∀b,InD D recs b↔Hj (Zl recs) b:=fun b=>by
   rw[abE]
   constructor
   ·rintro⟨j,o,d,_,h1,h2⟩;exact⟨j,o,d,h1,h2⟩
   ·rintro⟨j,o,d,h1,h2⟩;exact⟨j,o,d,hall j (by rw[←hlen];exact(acZ.1 h1).1),h1,h2⟩
  have hFI:=FF.step l3 (by rw[←hgA];exact hDI.hr) hDI.sim (hDI.loc.mono fun b hb=>(hinA b).1 hb) (fun b=>by rw[hDI.frs b,hinA b])
  rw[←l2]at hFI
  refine⟨s',recs.map fun x=>(x.2.es,x.2.fs),S,ρ,hk,hFI,?_,?_,?_⟩
  ·rw[←htA];exact hDI.tr
  ·rw[hDI.defers];exact hs.2.2.1.later hs.1.hr hDI.sim
  ·rw[hDI.defers]
   refine⟨hs.2.2.2.1,fun l hl=>?_⟩
   obtain⟨r,hr⟩:=hs.2.2.2.2 l hl
   obtain⟨st,pe,k⟩:=hDI.sim.loops l r hr
   exact⟨_,k⟩
 have main:∀fuel (listed:Array Bool) a w S ρ,listed.size=ops.size→((anO ops.size).filter fun i=> !listed.getD i false).length≤fuel→
  (∀(j:Nat) (o:Oper),ops[j]?=some o→listed.getD j false=true→∀e∈o.after.toList,Region.binds .any e=true→listed.getD e.on false=true)→
  DI s recs a0 w0 S0 ρ0 (fun i=>listed.getD i false) a w S ρ→wpAnyIn F nn P .any ops (OQ B k (fun _ _=>none) r) fuel listed a w:=by
  intro fuel
  induction fuel with
  |zero=>
   intro listed a w S ρ hsz hcnt hcl hDI
   have hall:∀i,i<ops.size→listed.getD i false=true:=fun i hi=>by
    cases e:listed.getD i false with
    |true=>rfl
    |false=>
     have:i∈(anO ops.size).filter fun i=> !listed.getD i false:=aq5.2 ⟨aiT.2 hi,by simp only[e];rfl⟩
     rw[List.length_eq_zero_iff.1 (Nat.le_zero.1 hcnt)]at this;simp at this
   refine⟨?_,fin _ a w S ρ hall hDI⟩
   unfold Region.ready
   rw[List.filter_eq_nil_iff]
   intro i hi hr
   rw[ai5]at hr
   have h1:=(nU (l:=listed) (i:=i) (by simpa using hr.1)).2
   rw[hall i (aiT.1 hi)]at h1;cases h1
  |succ fuel ih=>
   intro listed a w S ρ hsz hcnt hcl hDI
   refine⟨fun hnil=>fin _ a w S ρ (fun i hi=>?_) hDI,fun i hi=>?_⟩
   ·
    induction i using anC with
    |_ i ihi=>
     cases e:listed.getD i false with
     |true=>rfl
     |false=>
      have hmem:i∈Region.ready .any ops listed:=by
       unfold Region.ready
       refine aq5.2 ⟨aiT.2 hi,?_⟩
       rw[ai5]
       refine⟨?_,?_⟩
       ·have hlt:i<listed.size:=by omega
        rw[aeG,asF hlt]at e ⊢
        simp at e ⊢;exact e
       ·have ho:ops[i]?=some ops[i]:=asF hi
        rw[ho]
        simp only[ac4,asG,ar2]
        intro ed hed
        have hE:=acY.1 hedge i (aiT.2 (by simpa using hi))
        simp only[asE,ho,ar2]at hE
        have:=hE ed hed
        cases hb:Region.binds .any ed with
        |false=>rfl
        |true=>
         rw[hb]at this
         simp at this
         simp only[Bool.not_true,Bool.false_or]
         exact ihi ed.on this (by omega)
      rw[hnil]at hmem;simp at hmem
   ·have hi':=hi
    unfold Region.ready at hi'
    obtain⟨hir,hrd⟩:=aq5.1 hi'
    rw[ai5]at hrd
    have hir:=aiT.1 hir
    obtain⟨g1,g2⟩:=nU (l:=listed) (i:=i) (by simpa using hrd.1)
    have hrec:∃o d,recs[i]?=some (o,d):=⟨_,_,am4 (by omega:i<recs.length)⟩
    obtain⟨o,d,hrec⟩:=hrec
    have ho:=hget i o d hrec
    have hafter:∀e∈o.after.toList,Region.binds .any e=true→listed.getD e.on false=true:=fun e he hb=>by
     have:=hrd.2
     rw[ho]at this
     simp only[ac4,asG,ar2]at this
     have:=this e (by simpa using he)
     rw[hb]at this
     simpa using this
    have hset:∀j,j≠i→(listed.setIfInBounds i true).getD j false=listed.getD j false:=fun j hj=>getD_set_ne false (Ne.symm hj)
    have hseti:(listed.setIfInBounds i true).getD i false=true:=by
     rw[aeG,Array.getElem?_setIfInBounds_self_of_lt g1];rfl
    refine step (fun i=>listed.getD i false) i o d hrec g2 ?_ a w S ρ hDI _ _ (fun j=>(listed.setIfInBounds i true).getD j false) hseti hset ?_
    ·intro j o' hj hor e he hb
     rcases hor with hor|rfl
     ·exact hcl j o' hj hor e he hb
     ·rw[ho]at hj;cases hj;exact hafter e he hb
    ·intro a' w' S' ρ' hDI'
     refine ih (listed.setIfInBounds i true) a' w' S' ρ' (by simpa using hsz) ?_ ?_ hDI'
     ·have:=adR (l:=anO ops.size) (p:=fun i=> !listed.getD i false) (q:=fun j=> !(listed.setIfInBounds i true).getD j false) (fun x hx=>by
       by_cases hxi:x=i
       ·subst hxi;rw[hseti]at hx;simp at hx
       ·rw[hset x hxi]at hx;exact hx) (aiT.2 hir) (by rw[g2];rfl) (by rw[hseti];rfl)
      omega
     ·intro j o' hj hor e he hb
      have hD:listed.getD e.on false=true:=by
       by_cases hji:j=i
       ·subst hji;rw[ho]at hj;cases hj;exact hafter e he hb
       ·exact hcl j o' hj (by rw[←hset j hji];exact hor) e he hb
      exact getD_set_true hD
 refine wpIn_region_any hm (main ops.size (ar4 ops.size false) a0 w0.drew S0 ρ0 (by simp) ?_ ?_ ?_)
 ·exact ajA (List.length_filter_le _ _) (by simp)
 ·intro j o _ hj
  rw[aeG,as0]at hj
  split at hj<;>simp at hj
 ·have hno:∀i,(ar4 ops.size false).getD i false=false:=fun i=>by
   rw[aeG,as0]
   split<;>rfl
  have hnoD:∀b,¬InD (fun i=>(ar4 ops.size false).getD i false) recs b:=fun b ⟨j,_,_,q,_⟩=>by have h0:=hno j;simp only[h0]at q;cases q
  refine⟨?_,?_,Gu.drew _ _ _,fun b cb co st sz h _=>⟨h,rfl⟩,fun b=>⟨fun h=>⟨h,hnoD b⟩,fun h=>h.1⟩,rfl⟩
  ·rw[hQ hno];exact FF.hr.drew
  ·rw[pD hno];exact LR.sim (Gu.drew _ _ _) hs.2.1
end
section
variable {P:Program} {G:Nat→Option Obj} {O:Ez}
theorem eO{w:World}{S:Nat→Prop}{ρ:Am}:∀{ps:List Nat} {vs:List AV} {cs:List Value} {tmps:List AV} {ct:Array Value},LR w S ρ vs cs→ps.length=vs.length→LR w S ρ tmps ct.toList→
 LR w S ρ (Rj tmps ps vs) ((ps.zip cs).foldl (fun t (p:Nat × Value)=>t.setIfInBounds p.1 p.2) ct).toList
 | [],vs,cs,tmps,ct,_,_,h=>by simpa [Rj]using h
 |p::ps,[],cs,tmps,ct,_,hl,_=>by simp at hl
 |p::ps,v::vs,cs,tmps,ct,hv,hl,h=>by
  obtain⟨c,cs',rfl,h1,h2⟩:=hv.cons_inv
  simp only[Rj,List.zip_cons_cons,List.foldl_cons]
  exact eO h2 (by simpa using hl) (by rw[Array.toList_setIfInBounds];exact h.set p h1)
theorem Gu.loop{w:World}{S:Nat→Prop}{ρ:Am}{b l:Nat}(hb:ρ b=.lp l)(hS:¬S l){r:Loop}(hr:w.heap[l]?=some (.loop r))(st:LoopState)(pe:Option Code):
 Gu w (Ev.setB w l (.loop { r with state:=st,pending:=pe })) S S ρ ρ where
 size:=by simp[Ev.setB]
 os:=rfl
 tape:=rfl
 output:=rfl
 keep:=fun b hb=>Ba (fun e=>hS (e▸hb))
 sub:=fun _ h=>h
 le:=ρ.le_refl
 other:=fun b' _ _ hn=>Ba (fun e=>hn b (by rw[e];exact hb))
 rng:=fun id _ co st sz h=>.inr ⟨id,co,st,sz,h⟩
 grow:=fun _ h=>.inl h
 objs:=fun b o' hb ho=>by rw[Ba (fun e=>by rw[e,hr]at hb;cases hb;simp[Vl]at ho)];exact hb
 loops:=fun b' r' hb'=>by
  by_cases e:b'=l
  ·subst e;rw[hr]at hb';cases hb'
   exact⟨st,pe,Ve hr⟩
  ·exact⟨r'.state,r'.pending,by rw[Ba e];exact hb'⟩
 lrng:=fun id _ h=>.inr ⟨id,h⟩
theorem HR.loop{w:World}{S:Nat→Prop}{ρ:Am}{g:HF}(H:HR w S ρ g){b l:Nat}(hb:ρ b=.lp l){r:Loop}(hr:w.heap[l]?=some (.loop r)){ps:List Nat}{asg body:Code}{tmps:List AV}{st:Px}
 (hg:g b=some (.lp ps asg body tmps st)) {st':Px} {x:LoopState} {y:Option Code} (hh:st'.holds x y):HR (Ev.setB w l (.loop { r with state:=x,pending:=y })) S ρ (Je g b (.lp ps asg body tmps st')):=by
 have hs:=Gu.loop hb (H.lnS b l hb) hr x y
 refine⟨fun b' cb co st sz h=>?_,fun b' h=>?_,H.inj,fun b' h=>by have:=H.old b' h;simpa [Ev.setB]using this,fun b' l' h=>?_,H.linj,H.lnS⟩
 ·obtain⟨c,e,fz,fl,rows,h1,h2,h3,h4⟩:=H.at_ b' cb co st sz h
  have hne:b'≠b:=fun e=>by rw[e,hb]at h;cases h
  refine⟨c,e,fz,fl,rows,by rw[Ba (fun e=>by rw[e,hr]at h1;cases h1)];exact h1,h2,h3.sim hs,by simpa [Je,hne]using h4⟩
 ·have hne:b'≠b:=fun e=>by rw[e,hb]at h;cases h
  simpa [Je,hne]using H.dead b' h
 ·by_cases e:b'=b
  ·subst e
   rw[hb]at h;cases h
   obtain⟨r1,ps1,asg1,body1,tmps1,st1,h1,h2,h3⟩:=H.lps _ _ hb
   rw[hr]at h1;cases h1
   rw[hg]at h2;cases h2
   exact⟨_,ps,asg,body,tmps,st',Ve hr,by simp[Je],h3.params,h3.assign,h3.body,LR.sim hs h3.tmps,hh⟩
  ·obtain⟨r1,ps1,asg1,body1,tmps1,st1,h1,h2,h3⟩:=H.lps _ _ h
   have hne:l'≠l:=fun q=>e (H.linj _ _ _ h (q▸hb))
   exact⟨r1,ps1,asg1,body1,tmps1,st1,by rw[Ba hne];exact h1,by simpa [Je,e]using h2,h3.sim hs⟩
theorem FI.loop{h0:Aa}{w0:World}{S0:Nat→Prop}{ρ0:Am}{h:Aa}{w:World}{S:Nat→Prop}{ρ:Am}(F:FI h0 w0 S0 ρ0 h w S ρ){b l:Nat}(hb:ρ b=.lp l){r:Loop}(hr:w.heap[l]?=some (.loop r)){ps:List Nat}{asg body:Code}{tmps:List AV}{st:Px}
 (hg:h[b]?=some (.lp ps asg body tmps st)) {st':Px} {x:LoopState} {y:Option Code} (hh:st'.holds x y):
 FI h0 w0 S0 ρ0 (h.set b (.lp ps asg body tmps st')) (Ev.setB w l (.loop { r with state:=x,pending:=y })) S ρ:=by
 have hlt:b<h.length:=(acZ.1 hg).1
 have hg':hf h b=some (.lp ps asg body tmps st):=hg
 have hes:Ec h [.put b (.lp ps asg body tmps st')]:=by
  refine⟨⟨hlt,trivial⟩,fun b' ⟨e,he,Fa⟩ _=>?_,fun b' hn=>?_⟩
  ·simp at he;subst he;simp[Ad.id]at Fa;subst Fa
   refine⟨⟨_,hg',rfl⟩,fun c hc=>?_⟩
   simp[Ap,Bl,Je]at hc;subst hc;rfl
  ·simp only[Ap,Bl,Je]
   rw[if_neg (fun e=>hn ⟨_,acK.2 rfl,e.symm⟩)]
 have:=F.step hes (w':=Ev.setB w l (.loop { r with state:=x,pending:=y })) (S':=S) (ρ':=ρ) (F.hr.loop hb hr hg' hh) (Gu.loop hb (F.hr.lnS b l hb) hr x y)
  (fun b' cb co st sz h' _=>⟨h',Ba (fun e=>by
    obtain⟨_,_,_,_,_,q,_⟩:=F.hr.at_ _ _ _ _ _ h'
    rw[e,hr]at q;cases q)⟩)
  (fun b'=>⟨fun h'=>⟨h',fun⟨e,he,Fa⟩=>by
    simp at he;subst he;simp[Ad.id]at Fa;subst Fa;rw[hb]at h';cases h'⟩,fun h'=>h'.1⟩)
 exact this
theorem WF.inRound{F:Fence}(h:WF F)(l:Nat):WF (F.inRound l):=by
 rcases h with rfl|⟨l',rfl⟩
 ·exact .inr ⟨l,rfl⟩
 ·exact .inr ⟨l,rfl⟩
theorem jF{h h':Aa}{b:Nat}{ok:Px→Bool}{st:Px}(hs:Qa h b ok st=some h'):∃ps asg body tmps st',h[b]?=some (.lp ps asg body tmps st')∧ok st'=true∧h'=h.set b (.lp ps asg body tmps st):=by
 unfold Qa at hs
 split at hs
 ·rename_i ps asg body tmps st' hb
  split at hs
  ·rename_i hok;simp at hs;exact⟨ps,asg,body,tmps,st',hb,hok,hs.symm⟩
  ·simp at hs
 ·simp at hs
theorem FI.lpAt{h0:Aa}{w0:World}{S0:Nat→Prop}{ρ0:Am}{h:Aa}{w:World}{S:Nat→Prop}{ρ:Am}(F:FI h0 w0 S0 ρ0 h w S ρ){b l:Nat}(hb:ρ0 b=.lp l){ps:List Nat}{asg body:Code}{tmps:List AV}{st:Px}
 (hg:h[b]?=some (.lp ps asg body tmps st)):ρ b=.lp l∧∃r,w.heap[l]?=some (.loop r)∧st.holds r.state r.pending:=by
 have hρ:ρ b=.lp l:=by
  rcases F.sim.le b with q|q|q
  ·rw[hb]at q;cases q
  ·rw[q,hb]
  ·have:=F.hr.dead b q
   rw[show hf h b=some _ from hg]at this;cases this
 obtain⟨r,_,_,_,_,_,h1,h2,h3⟩:=F.hr.lps b l hρ
 rw[show hf h b=some _ from hg]at h2;cases h2
 exact⟨hρ,r,h1,h3.state⟩
theorem lY(hO:Hr P G O)(hL:bR P G O)(hD:cG P G O)(hR:Yn P G O){args:List AV}{h h':Aa}{out:Dx}(he:Nh O P args h=some (out,h')){w:World}{S:Nat→Prop}{ρ:Am}{cargs:Array Value}{l:Nat}
 (hI:Tj G w S) (H:HR w S ρ (hf h)) (dom:∀b,h.length≤b→ρ b=.fresh) (all:∀b,b<h.length→ρ b≠.fresh) (hargs:LR w S ρ args (cargs.toList++[.func (.yield l) #[] #[]])):
 ∃fn tmps asg body,(Instr.yield l cargs).run P w=.ok (.round l fn tmps asg body) w∧∀F nn,WF F→RoundIn F nn P l fn tmps asg body w (Ob h w S ρ out h'):=by
 unfold Nh at he
 split at he
 ·rename_i b vs hrev
  have ha:args=vs.reverse++[.yl b]:=by have:=congrArg List.reverse hrev;simpa using this
  subst ha
  have hlen:vs.reverse.length=cargs.toList.length:=by have:=hargs.1;simpa using this
  have hvs:LR w S ρ vs.reverse cargs.toList:=by have:=hargs.take vs.reverse.length;rw[atE,hlen,atE]at this<;>first|exact this|rfl
  have hyl:VR w S ρ (.yl b) (.func (.yield l) #[] #[]):=hargs.2 vs.reverse.length _ _ (by simp) (by rw[hlen];simp)
  split at he
  ·rename_i ps asg body tmps st0 hb
   have hρ:ρ b=.lp l:=by
    cases hyl with
    |yl q=>exact q
    |ylD q=>have:=H.dead b q;rw[show hf h b=some _ from hb]at this;cases this
   obtain⟨r,ps1,asg1,body1,tmps1,st1,h1,h2,h3⟩:=H.lps b l hρ
   rw[show hf h b=some _ from hb]at h2;cases h2
   split at he
   ·rename_i hps
    have hsz:cargs.size=r.params.size:=by
     have e1:=congrArg List.length h3.params
     simp at e1 hlen;omega
    refine⟨_,_,_,_,run_yield h1 hsz,fun F nn hF=>roundIn_of_wpIn (hF.fn _) ?_⟩
    rw[h3.assign,h3.body]
    obtain⟨⟨e1,s1⟩,hm1,he⟩:=aaR.1 he
    simp only at he
    have hT:TR w S ρ (Rj tmps ps vs.reverse) ((r.params.zip cargs).foldl (fun tmps (t,a)=>tmps.setIfInBounds t a) r.tmps):=by
     have:=eO (ps:=ps) hvs (by simpa using hps) h3.tmps
     rw[←apG,Array.toList_zip,h3.params]
     exact this
    have hs:Ri ⟨h,w,S,ρ,some l⟩ ⟨Rj tmps ps vs.reverse,h⟩ { tmps:=(r.params.zip cargs).foldl (fun tmps (t,a)=>tmps.setIfInBounds t a) r.tmps,defers:=[] } w S ρ:=
     ⟨FI.start H dom all,hT,fun d hd=>by simp at hd,List.Pairwise.nil,fun l' hl'=>by cases hl';exact⟨r,h1⟩⟩
    refine wpIn_mono (Us (hF.inRound l) hO hL hD hR rfl hI Mc hm1 hs) (fun ex a1 w1 hk=>?_)
    obtain⟨m,_,e',s',hp,S1,ρ1,hs1,hex⟩:=hk
    simp only[Cd,ac3.injEq,Prod.mk.injEq]at hp
    obtain⟨rfl,rfl⟩:=hp
    cases e' with
    |normal=>
     cases ex<;>simp[gR]at hex
     obtain⟨hb1,hset1,he⟩:=aaR.1 he
     obtain⟨⟨e2,s2⟩,hm2,he⟩:=aaR.1 he
     obtain⟨⟨rb,st2⟩,hre,he⟩:=aaR.1 he
     obtain⟨hb2,hset2,he⟩:=aaR.1 he
     simp only[ac3.injEq,Prod.mk.injEq]at he
     obtain⟨rfl,rfl⟩:=he
     obtain⟨qs,qa,qb,qt,qst,g1,g2,rfl⟩:=jF hset1
     obtain⟨hρ1,r1,hr1,hst1⟩:=hs1.1.lpAt (show(⟨h,w,S,ρ,some l⟩:yX).ρ0 b=.lp l from hρ) g1
     have hready:qst=.ready:=by cases qst<;>simp[Px.isReady]at g2;rfl
     subst hready
     refine⟨_,run_beginRound hr1 hst1.1,?_⟩
     have hFI1:=hs1.1.loop (st':=.busy) (x:=.busy) (y:=r1.pending) hρ1 hr1 g1 ⟨rfl,hst1.2⟩
     have hs2:Ri ⟨h,w,S,ρ,some l⟩ ⟨s'.tmps,s'.h.set b (.lp qs qa qb qt .busy)⟩ a1 (Ev.setB w1 l (.loop { r1 with state:=.busy,pending:=r1.pending })) S1 ρ1:=
      hs1.later hFI1 (Gu.loop hρ1 (hs1.1.hr.lnS b l hρ1) hr1 .busy r1.pending)
     refine wpIn_mono (Us (hF.inRound l) hO hL hD hR rfl hI Mc hm2 hs2) (fun ex2 a2 w2 hk2=>?_)
     obtain⟨m',_,e3,s3,hp2,S2,ρ2,hs3,hex2⟩:=hk2
     simp only[Cd,ac3.injEq,Prod.mk.injEq]at hp2
     obtain⟨rfl,rfl⟩:=hp2
     obtain⟨us,ua,ub,ut,ust,j1,j2,rfl⟩:=jF hset2
     obtain⟨hρ2,r2,hr2,hst2⟩:=hs3.1.lpAt (show(⟨h,w,S,ρ,some l⟩:yX).ρ0 b=.lp l from hρ) j1
     have last:∀(jump:Option Code),st2.holds (if jump.isNone then .ready else .done) jump→rb=jump.isNone→
      ∃v w',(Instr.endRound l jump).run P w2=.ok v w'∧Ob h w S ρ (.ret (.bool rb)) (s3.h.set b (.lp us ua ub ut st2)) (.returned v) w':=fun jump hh hrb=>by
      refine⟨_,_,run_endRound jump hr2,?_⟩
      have hFI2:=hs3.1.loop hρ2 hr2 j1 hh
      subst hrb
      exact⟨_,S2,ρ2,⟨⟨_,rfl⟩,rfl⟩,hFI2.post (VR.bool _)⟩
     cases e3 with
     |normal=>
      cases ex2<;>simp[gR]at hex2
      simp[Pl]at hre
      obtain⟨rfl,rfl⟩:=hre
      exact last none ⟨rfl,rfl⟩ rfl
     |ret=>
      cases ex2<;>simp[gR]at hex2
      simp[Pl]at hre
      obtain⟨rfl,rfl⟩:=hre
      exact last (some .ret) ⟨rfl,rfl⟩ rfl
     |exit i=>
      cases ex2<;>simp[gR]at hex2
      subst hex2
      simp[Pl]at hre
      obtain⟨rfl,rfl⟩:=hre
      exact last (some (.exit i)) ⟨rfl,rfl⟩ rfl
     |pan v=>simp[Pl]at hre
    |_=>simp at he
   ·simp at he
  ·simp at he
 ·simp at he
end
section
variable {P:Program} {G:Nat→Option Obj} {O:Ez}
theorem HR.endLoop{w:World}{S:Nat→Prop}{ρ:Am}{g:HF}(H:HR w S ρ g){b l:Nat}(hb:ρ b=.lp l){r:Loop}(hr:w.heap[l]?=some (.loop r))(x:LoopState)(y:Option Code):
 HR (Ev.setB w l (.loop { r with state:=x,pending:=y })) S (ρ.put b .dead) (Je g b .dead):=by
 have hs:=(Gu.loop hb (H.lnS b l hb) hr x y).trans (Gu.kill _ S ρ b)
 have off:∀b',∀z,z≠.dead→ρ.put b .dead b'=z→b'≠b∧ρ b'=z:=fun b' z hz h=>by
  by_cases e:b'=b
  ·subst e;rw[Am.put_same]at h;exact(hz h.symm).elim
  ·rw[Am.put_other _ _ e]at h;exact⟨e,h⟩
 refine⟨fun b' cb co st sz h=>?_,fun b' h=>?_,fun b1 b2 cb co st sz co' st' sz' h1 h2=>?_,fun b' h=>by have:=H.old b' h;simpa [Ev.setB]using this,fun b' l' h=>?_,fun b1 b2 l' h1 h2=>?_,fun b' l' h=>?_⟩
 ·obtain⟨hne,h⟩:=off b' _ (by simp) h
  obtain⟨c,e,fz,fl,rows,h1,h2,h3,h4⟩:=H.at_ b' cb co st sz h
  exact⟨c,e,fz,fl,rows,by rw[Ba (fun e=>by rw[e,hr]at h1;cases h1)];exact h1,h2,h3.sim hs,by simpa [Je,hne]using h4⟩
 ·by_cases e:b'=b
  ·subst e;simp[Je]
  ·rw[Am.put_other _ _ e]at h;simpa [Je,e]using H.dead b' h
 ·exact H.inj _ _ _ _ _ _ _ _ _ (off b1 _ (by simp) h1).2 (off b2 _ (by simp) h2).2
 ·obtain⟨hne,h⟩:=off b' _ (by simp) h
  obtain⟨r1,ps1,asg1,body1,tmps1,st1,h1,h2,h3⟩:=H.lps _ _ h
  have hnl:l'≠l:=fun q=>hne (H.linj _ _ _ h (q▸hb))
  exact⟨r1,ps1,asg1,body1,tmps1,st1,by rw[Ba hnl];exact h1,by simpa [Je,hne]using h2,h3.sim hs⟩
 ·exact H.linj _ _ _ (off b1 _ (by simp) h1).2 (off b2 _ (by simp) h2).2
 ·exact H.lnS _ _ (off b' _ (by simp) h).2
theorem FI.endLoop{h0:Aa}{w0:World}{S0:Nat→Prop}{ρ0:Am}{h:Aa}{w:World}{S:Nat→Prop}{ρ:Am}(F:FI h0 w0 S0 ρ0 h w S ρ){b l:Nat}(hb:ρ b=.lp l){r:Loop}(hr:w.heap[l]?=some (.loop r)){ps:List Nat}{asg body:Code}{tmps:List AV}{st:Px}
 (hg:h[b]?=some (.lp ps asg body tmps st)) (x:LoopState) (y:Option Code):
 FI h0 w0 S0 ρ0 (h.set b .dead) (Ev.setB w l (.loop { r with state:=x,pending:=y })) S (ρ.put b .dead)∧Gu w (Ev.setB w l (.loop { r with state:=x,pending:=y })) S S ρ (ρ.put b .dead):=by
 have hlt:b<h.length:=(acZ.1 hg).1
 have hg':hf h b=some (.lp ps asg body tmps st):=hg
 have hs:=(Gu.loop hb (F.hr.lnS b l hb) hr x y).trans (Gu.kill _ S ρ b)
 have hes:Ec h [.put b .dead]:=by
  refine⟨⟨hlt,trivial⟩,fun b' ⟨e,he,Fa⟩ _=>?_,fun b' hn=>?_⟩
  ·simp at he;subst he;simp[Ad.id]at Fa;subst Fa
   refine⟨⟨_,hg',rfl⟩,fun c hc=>?_⟩
   simp[Ap,Bl,Je]at hc;subst hc;rfl
  ·simp only[Ap,Bl,Je]
   rw[if_neg (fun e=>hn ⟨_,acK.2 rfl,e.symm⟩)]
 refine⟨F.step hes (w':=Ev.setB w l (.loop { r with state:=x,pending:=y })) (S':=S) (ρ':=ρ.put b .dead) (F.hr.endLoop hb hr x y) hs (fun b' cb co st sz h' _=>⟨?_,Ba (fun e=>?_)⟩) (fun b'=>⟨fun h'=>?_,fun h'=>?_⟩),hs⟩
 ·rw[Am.put_other _ _ (fun e=>by rw[e,hb]at h';cases h')];exact h'
 ·obtain⟨_,_,_,_,_,q,_⟩:=F.hr.at_ _ _ _ _ _ h'
  rw[e,hr]at q;cases q
 ·by_cases e:b'=b
  ·subst e;rw[Am.put_same]at h';cases h'
  ·rw[Am.put_other _ _ e]at h'
   exact⟨h',fun⟨x,hx,Fa⟩=>by simp at hx;subst hx;exact e Fa.symm⟩
 ·rw[Am.put_other _ _ (fun e=>by rw[e,hb]at h';cases h'.1)];exact h'.1
theorem Gu.extra{w:World}{S:Nat→Prop}{ρ:Am}(hS:∀b,S b→b<w.heap.size)(o:Obj):Gu w (w.alloc o) S S ρ ρ where
 size:=by simp
 os:=rfl
 tape:=rfl
 output:=rfl
 keep:=fun b hb=>Dz (hS b hb)
 sub:=fun _ h=>h
 le:=ρ.le_refl
 other:=fun b h _ _=>Dz h
 rng:=fun id _ co st sz h=>.inr ⟨id,co,st,sz,h⟩
 grow:=fun _ h=>.inl h
 objs:=fun b o' hb _=>by rw[Dz (aeO.1 hb).1];exact hb
 loops:=fun b r hb=>⟨r.state,r.pending,by rw[Dz (aeO.1 hb).1];exact hb⟩
 lrng:=fun id _ h=>.inr ⟨id,h⟩
theorem HR.extra{w:World}{S:Nat→Prop}{ρ:Am}{g:HF}(H:HR w S ρ g)(o:Obj):HR (w.alloc o) S ρ g where
 at_:=fun b cb co st sz h=>by
  obtain⟨c,e,fz,fl,rows,h1,h2,h3,h4⟩:=H.at_ b cb co st sz h
  exact⟨c,e,fz,fl,rows,by rw[Dz (aeO.1 h1).1];exact h1,h2,h3.sim (Gu.extra H.old o),h4⟩
 dead:=H.dead
 inj:=H.inj
 old:=fun b h=>by have:=H.old b h;simp;omega
 lps:=fun b l h=>by
  obtain⟨r,ps,asg,body,tmps,st,h1,h2,h3⟩:=H.lps b l h
  exact⟨r,ps,asg,body,tmps,st,by rw[Dz (aeO.1 h1).1];exact h1,h2,h3.sim (Gu.extra H.old o)⟩
 linj:=H.linj
 lnS:=H.lnS
theorem FI.extra{h0:Aa}{w0:World}{S0:Nat→Prop}{ρ0:Am}{h:Aa}{w:World}{S:Nat→Prop}{ρ:Am}(F:FI h0 w0 S0 ρ0 h w S ρ)(o:Obj):FI h0 w0 S0 ρ0 h (w.alloc o) S ρ:=
 F.step (Ec.nil h) (F.hr.extra o) (Gu.extra F.hr.old o) (fun b cb co st sz hb _=>⟨hb,Dz (F.hr.lt hb)⟩) (fun b=>⟨fun h=>⟨h,fun⟨e,he,_⟩=>by simp at he⟩,fun h=>h.1⟩)
theorem FI.newLoop{h0:Aa}{w0:World}{S0:Nat→Prop}{ρ0:Am}{h:Aa}{w:World}{S:Nat→Prop}{ρ:Am}(F:FI h0 w0 S0 ρ0 h w S ρ){tmps:List AV}{ct:Array Value}(T:TR w S ρ tmps ct)(fn:FuncId)(ps:Array Tmp)(asg body:Code)(D:Nat):
 FI h0 w0 S0 ρ0 (h++[.lp ps.toList asg body tmps .ready]) (w.alloc (.loop { state:=.ready,pending:=none,fn,tmps:=ct,params:=ps,assign:=asg,body,defers:=D })) S (ρ.put h.length (.lp w.heap.size))∧
 Gu w (w.alloc (.loop { state:=.ready,pending:=none,fn,tmps:=ct,params:=ps,assign:=asg,body,defers:=D })) S S ρ (ρ.put h.length (.lp w.heap.size)):=by
 have hfr:ρ h.length=.fresh:=F.dom _ (ac2 _)
 generalize ho:Obj.loop { state:=.ready,pending:=none,fn,tmps:=ct,params:=ps,assign:=asg,body,defers:=D }=o
 have hs:Gu w (w.alloc o) S S ρ (ρ.put h.length (.lp w.heap.size)):=by
  have s:=Gu.extra (w:=w) (ρ:=ρ) F.hr.old o
  refine⟨s.size,s.os,s.tape,s.output,s.keep,s.sub,Am.le_put_fresh hfr _,s.other,fun id cb co st sz hi=>?_,s.grow,s.objs,s.loops,fun id l hi=>?_⟩
  ·by_cases e:id=h.length
   ·rw[e,Am.put_same]at hi;cases hi
   ·rw[Am.put_other _ _ e]at hi;exact .inr ⟨id,co,st,sz,hi⟩
  ·by_cases e:id=h.length
   ·rw[e,Am.put_same]at hi;cases hi;exact .inl (ac2 _)
   ·rw[Am.put_other _ _ e]at hi;exact .inr ⟨id,hi⟩
 have H:=F.hr
 have lplt:∀b l,ρ b=.lp l→l<w.heap.size:=fun b l hb=>by
  obtain⟨_,_,_,_,_,_,h1,_⟩:=H.lps b l hb;exact(aeO.1 h1).1
 have hH:HR (w.alloc o) S (ρ.put h.length (.lp w.heap.size)) (Je (hf h) h.length (.lp ps.toList asg body tmps .ready)):=by
  refine⟨fun b cb co st sz hb=>?_,fun b hb=>?_,fun b1 b2 cb co st sz co' st' sz' h1 h2=>?_,fun b hb=>by have:=H.old b hb;simp;omega,fun b l hb=>?_,fun b1 b2 l h1 h2=>?_,fun b l hb hS=>?_⟩
  ·by_cases e:b=h.length
   ·rw[e,Am.put_same]at hb;cases hb
   ·rw[Am.put_other _ _ e]at hb
    obtain⟨c,e',fz,fl,rows,h1,h2,h3,h4⟩:=H.at_ b cb co st sz hb
    exact⟨c,e',fz,fl,rows,by rw[Dz (aeO.1 h1).1];exact h1,h2,h3.sim hs,by simpa [Je,e]using h4⟩
  ·by_cases e:b=h.length
   ·rw[e,Am.put_same]at hb;cases hb
   ·rw[Am.put_other _ _ e]at hb;simpa [Je,e]using H.dead b hb
  ·have off:∀x c1 s1 z1,ρ.put h.length (.lp w.heap.size) x=.pl cb c1 s1 z1→ρ x=.pl cb c1 s1 z1:=fun x c1 s1 z1 hx=>by
    by_cases e:x=h.length
    ·rw[e,Am.put_same]at hx;cases hx
    ·rw[Am.put_other _ _ e]at hx;exact hx
   exact H.inj _ _ _ _ _ _ _ _ _ (off _ _ _ _ h1) (off _ _ _ _ h2)
  ·by_cases e:b=h.length
   ·subst e;rw[Am.put_same]at hb;cases hb
    rw[←ho]at hs ⊢
    exact⟨_,ps.toList,asg,body,tmps,.ready,eA,by simp[Je],rfl,rfl,rfl,LR.sim hs T,rfl,rfl⟩
   ·rw[Am.put_other _ _ e]at hb
    obtain⟨r,ps',asg',body',tmps',st,h1,h2,h3⟩:=H.lps b l hb
    exact⟨r,ps',asg',body',tmps',st,by rw[Dz (aeO.1 h1).1];exact h1,by simpa [Je,e]using h2,h3.sim hs⟩
  ·by_cases e1:b1=h.length<;>by_cases e2:b2=h.length
   ·rw[e1,e2]
   ·rw[e1,Am.put_same]at h1;cases h1;rw[Am.put_other _ _ e2]at h2;have:=lplt _ _ h2;omega
   ·rw[e2,Am.put_same]at h2;cases h2;rw[Am.put_other _ _ e1]at h1;have:=lplt _ _ h1;omega
   ·rw[Am.put_other _ _ e1]at h1;rw[Am.put_other _ _ e2]at h2;exact H.linj _ _ _ h1 h2
  ·by_cases e:b=h.length
   ·rw[e,Am.put_same]at hb;cases hb;have:=H.old _ hS;omega
   ·rw[Am.put_other _ _ e]at hb;exact H.lnS _ _ hb hS
 refine⟨?_,hs⟩
 exact F.step (Ec.new h (.lp ps.toList asg body tmps .ready)) hH hs (fun b cb co st sz hb _=>⟨by rw[Am.put_other _ _ (fun e=>by rw[e,hfr]at hb;cases hb)];exact hb,Dz (H.lt hb)⟩)
  (fun b=>⟨fun hb=>by
    by_cases e:b=h.length
    ·rw[e,Am.put_same]at hb;cases hb
    ·rw[Am.put_other _ _ e]at hb;exact⟨hb,fun⟨x,hx,Fa⟩=>by simp at hx;subst hx;exact e Fa.symm⟩,fun⟨h1,h2⟩=>by
    rw[Am.put_other _ _ (show b≠h.length from fun e=>h2 ⟨_,acK.2 rfl,e.symm⟩)];exact h1⟩)
theorem iM(hO:Hr P G O){F:Fence}{nn:Nat}(hF:WF F){f:Operand}{ps:Array Nat}{asg body:Code}{s:St}{g:Nat}{fa fb:List AV}{d:Kr}{v:AV}{ps':List Nat}{asg' body':Code}{tm':List AV}{st:Px}{e:Ex}
 (hf:Ah s.tmps f=some (.func (.func g) fa fb))
 (hc:Ge O (Ev.hf (s.h++[.lp ps.toList asg body s.tmps .ready])) (s.h.length+1) (Xv g (fa++[.yl s.h.length]++fb)) (fa++[.yl s.h.length]++fb)=some d) (hout:d.out=.ret v)
 (hlp:(Ar (s.h++[.lp ps.toList asg body s.tmps .ready]) d.es)[s.h.length]?=some (.lp ps' asg' body' tm' st)) (hex:Wn st=some e)
 {B:yX} {a:Act} {w:World} {S:Nat→Prop} {ρ:Am} (hI:Tj G B.w0 B.S0) (hs:Ri B s a w S ρ) (fn:FuncId) (D:Nat):
 ∃dd args,(resolve a.eval (rangeCall f w.heap.size) 0).run P (w.alloc (.loop { state:=.ready,pending:=none,fn,tmps:=a.tmps,params:=ps,assign:=asg,body,defers:=D }))=.ok dd (w.alloc (.loop { state:=.ready,pending:=none,fn,tmps:=a.tmps,params:=ps,assign:=asg,body,defers:=D }))∧
  (invoke dd.target dd.args).run P (w.alloc (.loop { state:=.ready,pending:=none,fn,tmps:=a.tmps,params:=ps,assign:=asg,body,defers:=D }))=.ok (.enter g args) (w.alloc (.loop { state:=.ready,pending:=none,fn,tmps:=a.tmps,params:=ps,assign:=asg,body,defers:=D }))∧
  CallsIn F (nn-1) P g args (w.alloc (.loop { state:=.ready,pending:=none,fn,tmps:=a.tmps,params:=ps,assign:=asg,body,defers:=D }))
   (rangePost F nn P w.heap.size (tR B e ⟨s.tmps,(Ar (s.h++[.lp ps.toList asg body s.tmps .ready]) d.es).set s.h.length .dead⟩) a):=by
 obtain⟨hFI,hsim⟩:=hs.1.newLoop hs.2.1 fn ps asg body D
 generalize hw1:w.alloc (.loop { state:=.ready,pending:=none,fn,tmps:=a.tmps,params:=ps,assign:=asg,body,defers:=D })=w1 at *
 have hs1:=hs.later hFI hsim
 have hfr:=An hs1.2.1 hf
 generalize hfe:a.eval f=cf at hfr
 cases hfr with
 | @func _ _ _ _ va vc q1 q2 q3 q4=>
   have hlr:LR w1 S (ρ.put s.h.length (.lp w.heap.size)) (fa++[.yl s.h.length]++fb) (va++#[Value.func (.yield w.heap.size) #[] #[]]++vc).toList:=by
    have e1:(va++#[Value.func (.yield w.heap.size) #[] #[]]++vc).toList=va.toList++[Value.func (.yield w.heap.size) #[] #[]]++vc.toList:=by simp
    rw[e1]
    exact(LR.append (LR.append ⟨by simpa using q1,fun i x v hx hv=>q3 i x v hx (by simpa using hv)⟩ (.cons (.yl (Am.put_same _ _ _)) .nil)) ⟨by simpa using q2,fun i x v hx hv=>q4 i x v hx (by simpa using hv)⟩)
   obtain⟨henter,hcalls⟩:=eI hO hI hFI (kV _ _) hlr (by simpa using hc)
   refine⟨{ target:=.fn (.func g) vc,args:=va++#[Value.func (.yield w.heap.size) #[] #[]] },va++#[Value.func (.yield w.heap.size) #[] #[]]++vc,?_,?_,?_⟩
   ·simp only[resolve,rangeCall,hfe]
    try simp[go_sem]
   ·simp[invoke,go_sem,henter]
   ·refine hF.calls (hcalls.mono fun en w' ⟨cv,S',ρ',he,hv,hFI2,hsim2⟩=>?_)
    cases en with
    |panicked ch=>obtain⟨⟨x,hx⟩,_⟩:=he;rw[hout]at hx;cases hx
    |outgrown=>exact he.elim
    |returned rv=>
     have hρ':ρ' s.h.length=.lp w.heap.size:=by
      rcases hsim2.le s.h.length with q|q|q
      ·rw[Am.put_same]at q;cases q
      ·rw[q,Am.put_same]
      ·have:=hFI2.hr.dead _ q
       rw[show Ev.hf _ s.h.length=some _ from hlp]at this;cases this
     obtain⟨r,_,_,_,_,_,hr,h2,h3⟩:=hFI2.hr.lps _ _ hρ'
     rw[show Ev.hf _ s.h.length=some _ from hlp]at h2;cases h2
     have hnb:r.state≠.busy:=by
      cases st with
      |ready=>rw[h3.state.1];simp
      |busy=>simp[Wn]at hex
      |done c=>rw[h3.state.1];simp
     refine⟨r.pending,_,run_endLoop hr hnb,?_⟩
     obtain⟨hFI3,hsim3⟩:=hFI2.endLoop hρ' hr hlp .exhausted r.pending
     have hs3:=(hs1.later hFI2 hsim2).later hFI3 hsim3
     cases st with
     |ready=>
      rw[h3.state.2]at hs3 ⊢
      simp[Wn]at hex;subst hex
      exact⟨_,_,hs3,trivial⟩
     |busy=>simp[Wn]at hex
     |done c=>
      rw[h3.state.2]at hs3 ⊢
      cases c<;>simp[Wn]at hex<;>subst hex
      ·exact wpIn_exit ⟨_,_,hs3,rfl⟩
      ·exact wpIn_ret ⟨_,_,hs3,trivial⟩
theorem mF(hO:Hr P G O):Yn P G O:=by
 intro f ps asg body s g fa fb d v ps' asg' body' tm' st e hf hc hout hlp hex F nn hF B a w S ρ hB hI hs
 refine wpIn_rangeFunc (fun fn _=>?_)
 rcases hF with rfl|⟨l,rfl⟩
 ·have hs':Ri B s { a with defers:={ target:=.collected w.heap.size,args:=#[] }::a.defers } (w.alloc (.deferred (some []))) S ρ:=by
   have hm:=hs.later (hs.1.extra (.deferred (some []))) (Gu.extra hs.1.hr.old _)
   refine⟨hm.1,hm.2.1,fun d hd=>?_,?_,hm.2.2.2.2⟩
   ·rcases List.mem_cons.1 hd with rfl|hd
    ·exact⟨w.heap.size,rfl,eA,fun h=>Nat.lt_irrefl _ (hs.1.hr.old _ h),hs.1.sim.size⟩
    ·exact hm.2.2.1 d hd
   ·refine List.pairwise_cons.2 ⟨fun d hd=>?_,hs.2.2.2.1⟩
    obtain⟨r,rfl,k2,_⟩:=hs.2.2.1 d hd
    have:=(aeO.1 k2).1
    simp[sX];omega
  obtain⟨dd,args,k1,k2,k3⟩:=iM (nn:=nn) hO (.inl rfl) hf hc hout hlp hex hI hs' fn w.heap.size
  have hsz:(w.alloc (.deferred (some []))).heap.size=w.heap.size+1:=by simp
  rw[hsz]at k1 k3
  exact⟨_,_,_,dd,_,g,args,_,run_enterLoop_outer _ _ _ _ _,k1,fun _ _=>trivial,k2,fun h=>by simp[Fence.wide]at h,k3⟩
 ·obtain⟨r₀,hr₀⟩:=hs.2.2.2.2 l hB
  obtain⟨dd,args,k1,k2,k3⟩:=iM (nn:=nn) hO (F:=Fence.wide.inRound l) (.inr ⟨l,rfl⟩) hf hc hout hlp hex hI hs fn r₀.defers
  exact⟨_,_,_,dd,_,g,args,_,run_enterLoop_inner hr₀ _ _ _ _ _,k1,fun _ _=>trivial,k2,fun h=>by simp[Fence.wide,Fence.inRound]at h,k3⟩
end
section
variable {P:Program} {G:Nat→Option Obj}
def oY(P:Program)(G:Nat→Option Obj)(pr:Oe):Prop:=∀f p,pr f=some p→∀args h out h',p args h=some (out,h')→
 (∀args w,(callFunc f args).run P w=.ok (.enter f args) w)∧
 ∀w S ρ (cargs:Array Value),Tj G w S→HR w S ρ (hf h)→(∀b,h.length≤b→ρ b=.fresh)→(∀b,b<h.length→ρ b≠.fresh)→LR w S ρ args cargs.toList→Calls P f cargs w (Ob h w S ρ out h')
theorem vU(hN:aaA P){pr:Oe}(hP:oY P G pr)(hM:P.follows .mixedOrders=true):∀n,Hr P G (Um P pr n)∧bR P G (Um P pr n):=by
 intro n
 induction n using anC with
 |_ n IH=>
  constructor
  ·cases n with
   |zero=>exact⟨fun f args h out h' hc=>by simp[Um]at hc,fun args h out h' hc=>by simp[Um]at hc,fun f args h out h' hc=>by simp[Um]at hc⟩
   |succ n=>
    obtain⟨i1,i2⟩:=IH n (by omega)
    have i3:=qY hM i1
    have i4:=mF i1
    refine⟨fun f args h out h' hc=>?_,fun args h out h' hc w S ρ cargs l hI H dom all hargs=>?_,fun f args h out h' hc=>?_⟩
    ·simp only[Um]at hc
     split at hc
     ·rename_i p hp;exact hP f p hp args h out h' hc
     ·exact aaK hN i1 i2 i3 i4 hc
    ·simp only[Um]at hc
     exact lY i1 i2 i3 i4 hc hI H dom all hargs
    ·simp only[Um]at hc
     split at hc
     ·simp at hc
     ·exact abV hN i1 i2 i3 i4 hc
  ·intro c s e s' hl F nn hF B a w S ρ hB hG hs
   let I:Act→World→Prop:=fun a w=>∃m,m≤n∧∃s S ρ,(Um P pr m).loop c s=some (e,s')∧Ri B s a w S ρ
   let Q:Act→World→Nat→Prop:=fun a w m=>m≤n∧∃s S ρ,(Um P pr m).loop c s=some (e,s')∧Ri B s a w S ρ
   have least:∀p:Act × World,∃m,(∃k,Q p.1 p.2 k)→Q p.1 p.2 m∧∀k,Q p.1 p.2 k→m≤k:=fun p=>by
    by_cases hex:∃k,Q p.1 p.2 k
    ·obtain⟨k,hk⟩:=hex
     induction k using anC with
     |_ k ih=>
      by_cases hlt:∃j,j<k∧Q p.1 p.2 j
      ·obtain⟨j,hj,hq⟩:=hlt;exact ih j hj hq
      ·exact⟨k,fun _=>⟨hk,fun j hq=>Nat.le_of_not_lt (fun h=>hlt ⟨j,h,hq⟩)⟩⟩
    ·exact⟨0,fun h=>(hex h).elim⟩
   obtain⟨f,hf⟩:=Classical.axiomOfChoice least
   have μle:∀a w m,Q a w m→f (a,w)≤m:=fun a w m hq=>(hf (a,w) ⟨m,hq⟩).2 m hq
   have μq:∀a w,(∃m,Q a w m)→Q a w (f (a,w)):=fun a w hex=>(hf (a,w) hex).1
   refine wpIn_loop I (fun a w=>f (a,w)) ⟨n,ac2 _,s,S,ρ,hl,hs⟩ (fun a w hI=>?_)
   obtain⟨hm,s1,S1,ρ1,hl1,hs1⟩:=μq a w (by obtain⟨m,hm,rest⟩:=hI;exact⟨m,hm,rest⟩)
   generalize hmu:f (a,w)=m at hm hl1
   cases m with
   |zero=>simp[Um]at hl1
   |succ m=>
    obtain⟨i1,i2⟩:=IH m (by omega)
    have i3:=qY hM i1
    have i4:=mF i1
    simp only[Um,Xg]at hl1
    split at hl1
    ·rename_i e1 s2 hm1
     refine wpIn_mono (Us hF i1 i2 i3 i4 hB hG Mc hm1 hs1) (fun ex a' w' hk=>?_)
     obtain⟨m',_,e2,s3,hp,S2,ρ2,hs2,hex⟩:=hk
     simp only[Cd,ac3.injEq,Prod.mk.injEq]at hp
     obtain⟨rfl,rfl⟩:=hp
     cases e2 with
     |normal=>
      cases ex<;>simp[gR]at hex
      have hq:Q a' w' m:=⟨by omega,s3,S2,ρ2,hl1,hs2⟩
      refine⟨⟨m,hq⟩,?_⟩
      have:=μle a' w' m hq
      omega
     |exit i=>
      cases ex<;>simp[gR]at hex
      simp only[ac3.injEq,Prod.mk.injEq]at hl1
      obtain⟨rfl,rfl⟩:=hl1
      exact⟨S2,ρ2,hs2,hex⟩
     |ret=>
      cases ex<;>simp[gR]at hex
      simp only[ac3.injEq,Prod.mk.injEq]at hl1
      obtain⟨rfl,rfl⟩:=hl1
      exact⟨S2,ρ2,hs2,trivial⟩
     |pan v=>
      cases ex with
      |panic ch=>
       simp only[ac3.injEq,Prod.mk.injEq]at hl1
       obtain⟨rfl,rfl⟩:=hl1
       exact⟨S2,ρ2,hs2,hex⟩
      |_=>simp[gR]at hex
    ·simp at hl1
end
def cV(p:Nat→Prop):Prop:=∃N,∀m,N≤m→p m
theorem cV.mono{p q:Nat→Prop}(h:cV p)(k:∀m,p m→q m):cV q:=by
 obtain⟨N,h⟩:=h;exact⟨N,fun m hm=>k m (h m hm)⟩
theorem cV.and{p q:Nat→Prop}(h:cV p)(k:cV q):cV fun m=>p m∧q m:=by
 obtain⟨N,h⟩:=h;obtain⟨M,k⟩:=k
 exact⟨max N M,fun m hm=>⟨h m (by omega),k m (by omega)⟩⟩
theorem cV.of{p:Nat→Prop}(h:∀m,p m):cV p:=⟨0,fun m _=>h m⟩
structure zZ(O:Ez)(F:Nat→Ez):Prop where
 call:∀{f a h r},O.call f a h=some r→cV fun m=>(F m).call f a h=some r
 loop:∀{c s r},O.loop c s=some r→cV fun m=>(F m).loop c s=some r
 md:∀m,(F m).md=O.md
section
variable {P:Program} {G:Nat→Option Obj} {O:Ez} {F:Nat→Ez}
theorem jQ(hC:zZ O F){g:HF}{base:Nat}{f:Sj}{args:List AV}{d:Kr}(h:Du O g base f args=some d):cV fun m=>Du (F m) g base f args=some d:=by
 unfold Du at h
 simp only[aaR]at h
 obtain⟨vs,h1,⟨vs',cs,m⟩,h2,h⟩:=h
 simp only at h
 split at h
 ·simp at h
 ·rename_i hn
  simp only[aaR]at h
  obtain⟨⟨out,h'⟩,h3,h4⟩:=h
  refine(hC.call h3).mono fun n hn'=>?_
  unfold Du
  simp only[h1,h2,aaV,hn,hn']
  simpa using h4
theorem kP(hC:zZ O F){g:HF}{base:Nat}{f:Sj}{args:List AV}{d:Kr}(h:Ji O g base f args=some d):cV fun m=>Ji (F m) g base f args=some d:=by
 unfold Ji at h
 obtain⟨h0,h1,h⟩:=aaR.1 h
 obtain⟨⟨out,h'⟩,h2,h⟩:=aaR.1 h
 refine(hC.call h2).mono fun n hn=>?_
 unfold Ji
 rw[h1,aaV,hn]
 exact h
theorem Vj(hC:zZ O F){g:HF}{base:Nat}{f:Sj}{args:List AV}{d:Kr}(h:Ge O g base f args=some d):cV fun m=>Ge (F m) g base f args=some d:=by
 cases f with
 |fn f=>exact jQ hC h
 |round=>exact kP hC h
 |sh f=>
  cases hq:(iS args||O.md f)with
  |true=>
   simp only[Ge,hq,cond_true]at h
   refine(kP hC h).mono fun m hm=>?_
   simp only[Ge,hC.md m,hq,cond_true];exact hm
  |false=>
   simp only[Ge,hq,cond_false]at h
   refine(jQ hC h).mono fun m hm=>?_
   simp only[Ge,hC.md m,hq,cond_false];exact hm
theorem Uw(hC:zZ O F){ops:List Oper}{gs:List Nat}{r:Ex × St}{k:St→Wz→R}{k':Nat→St→Wz→R}{kp:AV→St→R}{kp':Nat→AV→St→R}
 (hk:∀s log,k s log=some r→cV fun m=>k' m s log=some r) (hkp:∀v s,kp v s=some r→cV fun m=>kp' m v s=some r):
 ∀{rest:List Oper} {i:Nat} {s:St} {log:Wz},Fg O P ops gs rest i s log k kp=some r→cV fun m=>Fg (F m) P ops gs rest i s log (k' m) (kp' m)=some r
 | [],i,s,log,h=>hk s log h
 |o::rest,i,s,log,h=>by
  unfold Fg at h
  split at h
  ·simp at h
  ·rename_i hw
   unfold Fg
   simp only[hw]
   exact Uw hC hk hkp h
  ·rename_i hw
   unfold Fg
   simp only[hw]
   cases hkd:Gk o.op with
   |call c=>
    rw[hkd]at h
    simp only[aaR,Fp]at h ⊢
    obtain⟨⟨f,args⟩,h1,d,h2,h⟩:=h
    simp only at h2
    cases hout:d.out with
    |ret v=>
     rw[hout]at h
     exact((Vj hC h2).and (Uw hC hk hkp h)).mono fun m hm=>⟨_,h1,d,hm.1,by rw[hout];exact hm.2⟩
    |pan v=>
     rw[hout]at h
     exact((Vj hC h2).and (hkp _ _ h)).mono fun m hm=>⟨_,h1,d,hm.1,by rw[hout];exact hm.2⟩
   |panic x=>
    rw[hkd]at h
    simp only[aaR]at h ⊢
    obtain⟨v,h1,h⟩:=h
    split at h
    ·exact(hkp _ _ h).mono fun m hm=>⟨_,h1,hm⟩
    ·simp at h
   |other=>
    rw[hkd]at h
    simp only[aaR,Fp]at h ⊢
    obtain⟨d,h1,h⟩:=h
    exact(Uw hC hk hkp h).mono fun m hm=>⟨_,h1,hm⟩
theorem Nz{ev:Code→List Ai→St→R}{ev':Nat→Code→List Ai→St→R}{r:Ex × St}(he:∀c k s,ev c k s=some r→cV fun m=>ev' m c k s=some r):
 ∀{k:List Ai} {e:Ex} {s:St},Cd ev k e s=some r→cV fun m=>Cd (ev' m) k e s=some r
 | [],e,s,h=>.of fun _=>h
 | .code c::k,.normal,s,h=>he c k s h
 | .code c::k,.exit i,s,h=>Nz he (k:=k) h
 | .code c::k,.ret,s,h=>Nz he (k:=k) h
 | .code c::k,.pan v,s,h=>Nz he (k:=k) h
 | .blk id::k,.normal,s,h=>Nz he (k:=k) h
 | .blk id::k,.ret,s,h=>Nz he (k:=k) h
 | .blk id::k,.pan v,s,h=>Nz he (k:=k) h
 | .blk id::k,.exit i,s,h=>by
   simp only[Cd]at h ⊢
   cases hi:(i==id)with
   |true=>rw[hi]at h;exact Nz he (k:=k) h
   |false=>rw[hi]at h;exact Nz he (k:=k) h
theorem Nx(hC:zZ O F){r:Ex × St}:∀(n:Nat) {c:Code} {k:List Ai} {s:St},Cj O P n c k s=some r→cV fun m=>Cj (F m) P n c k s=some r
 |0,c,k,s,h=>by simp[Cj]at h
 |n+1,c,k,s,h=>by
  have IH:∀c k s,Cj O P n c k s=some r→cV fun m=>Cj (F m) P n c k s=some r:=fun c k s h=>Nx hC n h
  have pop:∀{k:List Ai} {e:Ex} {s:St},Cd (Cj O P n) k e s=some r→cV fun m=>Cd (Cj (F m) P n) k e s=some r:=fun h=>Nz IH h
  cases c with
  |skip=>exact pop h
  |label l=>exact pop h
  |region id ops draw=>
   cases draw with
   |false=>exact Uw hC (fun s log h=>pop h) (fun v s h=>pop h) h
   |true=>
    simp only[Cj,He]at h ⊢
    cases hd:Ol ops.toList with
    |false=>rw[hd]at h;simp at h
    |true=>
     rw[hd]at h
     refine Uw hC (fun s log h=>?_) (fun v s h=>by simp at h) h
     cases hdd:Et ops.toList log with
     |false=>rw[hdd]at h;simp at h
     |true=>rw[hdd]at h;exact pop h
  |seq a b=>exact IH a _ s h
  |cond oc a b=>
   simp only[Cj,zL]at h ⊢
   cases he:Ah s.tmps oc with
   |none=>rw[he]at h;simp at h
   |some v=>
    rw[he]at h
    cases v with
    |bool b=>
     cases b with
     |true=>exact IH a k s h
     |false=>exact IH _ k s h
    |_=>simp at h
  |block id c=>exact IH c _ s h
  |loop c=>
   simp only[Cj,Xg]at h ⊢
   cases hl:O.loop c s with
   |none=>rw[hl]at h;simp at h
   |some x=>
    obtain⟨e,s'⟩:=x
    rw[hl]at h
    exact((hC.loop hl).and (pop h)).mono fun m hm=>by rw[hm.1];exact hm.2
  |exit id=>exact pop h
  |ret=>exact pop h
  |rangeFunc f ps asg body=>
   simp only[Cj,aaR]at h ⊢
   obtain⟨fv,h1,h⟩:=h
   split at h
   ·obtain⟨d,h2,h⟩:=aaR.1 h
    have fin:∀{e:Ex} {s':St},Cd (Cj O P n) k e s'=some r→cV fun m=>Cd (Cj (F m) P n) k e s'=some r:=fun h=>pop h
    cases hout:d.out with
    |pan v=>rw[hout]at h;simp at h
    |ret v=>
     rw[hout]at h
     simp only at h
     split at h
     ·rename_i hb
      exact((Vj hC h2).and (fin h)).mono fun m hm=>⟨_,h1,by simp only[hm.1,aaV,hout,hb];exact hm.2⟩
     ·rename_i hb
      exact((Vj hC h2).and (fin h)).mono fun m hm=>⟨_,h1,by simp only[hm.1,aaV,hout,hb];exact hm.2⟩
     ·rename_i hb
      exact((Vj hC h2).and (fin h)).mono fun m hm=>⟨_,h1,by simp only[hm.1,aaV,hout,hb];exact hm.2⟩
     ·simp at h
   ·simp at h
  |scope b=>exact IH b _ s h
  |goto l=>simp[Cj]at h
  |refuse s=>simp[Cj]at h
theorem xM(hC:zZ O F){f:Nat}{args:List AV}{h:Aa}{r:Dx × Aa}(he:evF O P f args h=some r):cV fun m=>evF (F m) P f args h=some r:=by
 unfold evF at he ⊢
 cases hfn:P.funcs[f]? with
 |none=>rw[hfn]at he;simp at he
 |some fn=>
  rw[hfn]at he
  simp only at he ⊢
  cases hb:fn.body with
  |none=>rw[hb]at he;simp at he
  |some c=>
   rw[hb]at he
   simp only at he ⊢
   obtain⟨x,h1,h2⟩:=aaR.1 he
   exact(Nx hC _ h1).mono fun m hm=>by rw[hm];exact h2
theorem yN(hC:zZ O F){f:Nat}{args:List AV}{h:Aa}{r:Dx × Aa}(he:evS O P f args h=some r):cV fun m=>evS (F m) P f args h=some r:=by
 unfold evS at he ⊢
 cases hfn:P.funcs[f]? with
 |none=>rw[hfn]at he;simp at he
 |some fn=>
  rw[hfn]at he
  simp only at he ⊢
  cases hb:fn.body with
  |none=>rw[hb]at he;simp at he
  |some c=>
   rw[hb]at he
   simp only at he ⊢
   obtain⟨x,h1,h2⟩:=aaR.1 he
   exact(Nx hC _ h1).mono fun m hm=>by rw[hm];exact h2
theorem fU(hC:zZ O F){args:List AV}{h:Aa}{r:Dx × Aa}(he:Nh O P args h=some r):cV fun m=>Nh (F m) P args h=some r:=by
 unfold Nh at he
 split at he
 ·rename_i b vs hrev
  unfold Nh
  simp only[hrev]
  split at he
  ·rename_i ps asg body tmps st hb
   split at he
   ·rename_i hl
    obtain⟨⟨e,s⟩,h1,h2⟩:=aaR.1 he
    cases e with
    |normal=>
     simp only at h2
     obtain⟨x,h3,h4⟩:=aaR.1 h2
     obtain⟨y,h5,h6⟩:=aaR.1 h4
     exact((Nx hC _ h1).and (Nx hC _ h5)).mono fun m hm=>by
      rw[if_pos hl,hm.1];simp only[aaV,h3];rw[hm.2];exact h6
    |_=>simp at h2
   ·simp at he
  ·simp at he
 ·simp at he
def bT(P:Program)(pr:Oe)(O:Ez):Ez where
 call:=fun f args h=>match f with
  | .round=>Nh O P args h
  | .sh f=>match pr f with
    |some _=>none
    |none=>evS O P f args h
  | .fn f=>match pr f with
    |some p=>p args h
    |none=>evF O P f args h
 loop:=fun c s=>Xg (Cj O P Mc c [] s) fun e s=>match e with
  | .normal=>O.loop c s
  |e=>some (e,s)
 md:=pr.md
variable {pr:Oe}
theorem af5(n:Nat):Um P pr (n+1)=bT P pr (Um P pr n):=rfl
theorem nK(hC:zZ O F):zZ (bT P pr O) (fun m=>bT P pr (F m)) where
 call:=fun {f a h r} hc=>by
  cases f with
  |round=>exact fU hC hc
  |fn f=>
   simp only[bT]at hc ⊢
   cases hp:pr f with
   |some p=>rw[hp]at hc;exact .of fun _=>hc
   |none=>rw[hp]at hc;exact xM hC hc
  |sh f=>
   simp only[bT]at hc ⊢
   cases hp:pr f with
   |some p=>rw[hp]at hc;simp at hc
   |none=>rw[hp]at hc;exact yN hC hc
 loop:=fun {c s r} hl=>by
  simp only[bT,Xg]at hl ⊢
  cases hm:Cj O P Mc c [] s with
  |none=>rw[hm]at hl;simp at hl
  |some x=>
   obtain⟨e,s'⟩:=x
   rw[hm]at hl
   cases e with
   |normal=>exact((Nx hC _ hm).and (hC.loop hl)).mono fun m hm=>by rw[hm.1];exact hm.2
   |exit i=>exact(Nx hC _ hm).mono fun m hm=>by rw[hm];exact hl
   |ret=>exact(Nx hC _ hm).mono fun m hm=>by rw[hm];exact hl
   |pan v=>exact(Nx hC _ hm).mono fun m hm=>by rw[hm];exact hl
 md:=fun _=>rfl
theorem cV.const{p:Prop}(h:cV fun _=>p):p:=by
 obtain⟨N,h⟩:=h;exact h N (ac2 _)
theorem jR:∀(n:Nat),zZ (Um P pr n) (fun _=>Um P pr (n+1))
 |0=>⟨fun h=>by simp[Um]at h,fun h=>by simp[Um]at h,fun _=>rfl⟩
 |n+1=>nK (jR n)
theorem fO{n m:Nat}(hnm:n≤m){f:Sj}{a:List AV}{h:Aa}{r:Dx × Aa}(hc:(Um P pr n).call f a h=some r):(Um P pr m).call f a h=some r:=by
 induction hnm with
 |refl=>exact hc
 |step _ ih=>exact((jR _).call ih).const
theorem eQ{n m:Nat}(hnm:n≤m){c:Code}{s:St}{r:Ex × St}(hc:(Um P pr n).loop c s=some r):(Um P pr m).loop c s=some r:=by
 induction hnm with
 |refl=>exact hc
 |step _ ih=>exact((jR _).loop ih).const
open Classical in
noncomputable def lim{α:Type}(x:Nat→Option α):Option α:=if h:∃n r,x n=some r then x h.choose else none
theorem rI{α:Type}{x:Nat→Option α}(hm:∀n m r,n≤m→x n=some r→x m=some r){r:α}:lim x=some r↔∃n,x n=some r:=by
 unfold lim
 constructor
 ·intro h
  split at h
  ·exact⟨_,h⟩
  ·simp at h
 ·rintro⟨n,hn⟩
  have hex:∃n r,x n=some r:=⟨n,r,hn⟩
  rw[dif_pos hex]
  obtain⟨r',hr'⟩:=hex.choose_spec
  rcases Nat.le_total n hex.choose with h|h
  ·exact hm _ _ _ h hn
  ·have:=hm _ _ _ h hr'
   rw[hn]at this;cases this;exact hr'
noncomputable def om(P:Program)(pr:Oe):Ez where
 call:=fun f a h=>lim fun n=>(Um P pr n).call f a h
 loop:=fun c s=>lim fun n=>(Um P pr n).loop c s
 md:=pr.md
theorem Rw{f:Sj}{a:List AV}{h:Aa}{r:Dx × Aa}:(om P pr).call f a h=some r↔∃n,(Um P pr n).call f a h=some r:=rI fun _ _ _ h k=>fO h k
theorem oS{c:Code}{s:St}{r:Ex × St}:(om P pr).loop c s=some r↔∃n,(Um P pr n).loop c s=some r:=rI fun _ _ _ h k=>eQ h k
theorem dX:zZ (om P pr) (Um P pr) where
 call:=fun h=>by obtain⟨n,hn⟩:=Rw.1 h;exact⟨n,fun m hm=>fO hm hn⟩
 loop:=fun h=>by obtain⟨n,hn⟩:=oS.1 h;exact⟨n,fun m hm=>eQ hm hn⟩
 md:=fun m=>by cases m<;>rfl
theorem anP{f:Nat}(hp:pr f=none){a:List AV}{h:Aa}{r:Dx × Aa}(he:evF (om P pr) P f a h=some r):(om P pr).call (.fn f) a h=some r:=by
 obtain⟨N,hN⟩:=xM dX he
 refine Rw.2 ⟨N+1,?_⟩
 have:=hN N (ac2 _)
 simp only[Um,hp];exact this
theorem anF{f:Nat}(hp:pr f=none){a:List AV}{h:Aa}{r:Dx × Aa}(he:evS (om P pr) P f a h=some r):(om P pr).call (.sh f) a h=some r:=by
 obtain⟨N,hN⟩:=yN dX he
 refine Rw.2 ⟨N+1,?_⟩
 have:=hN N (ac2 _)
 simp only[Um,hp];exact this
theorem amU{f:Nat}{p:List AV→Aa→Option (Dx × Aa)}(hp:pr f=some p){a:List AV}{h:Aa}{r:Dx × Aa}(he:p a h=some r):(om P pr).call (.fn f) a h=some r:=
 Rw.2 ⟨1,by simp only[Um,hp];exact he⟩
theorem uC{a:List AV}{h:Aa}{r:Dx × Aa}(he:Nh (om P pr) P a h=some r):(om P pr).call .round a h=some r:=by
 obtain⟨N,hN⟩:=fU dX he
 exact Rw.2 ⟨N+1,hN N (ac2 _)⟩
theorem Vu{c:Code}{s s':St}{r:Ex × St}(hb:Cj (om P pr) P Mc c [] s=some (.normal,s'))(hr:(om P pr).loop c s'=some r):(om P pr).loop c s=some r:=by
 obtain⟨N,hN⟩:=Nx dX _ hb
 obtain⟨M,hM⟩:=dX.loop hr
 refine oS.2 ⟨max N M+1,?_⟩
 simp only[Um,Xg,hN _ (Nat.le_max_left ..)]
 exact hM _ (Nat.le_max_right ..)
theorem Hu{c:Code}{s s':St}{e:Ex}(hb:Cj (om P pr) P Mc c [] s=some (e,s'))(he:e≠.normal):(om P pr).loop c s=some (e,s'):=by
 obtain⟨N,hN⟩:=Nx dX _ hb
 refine oS.2 ⟨N+1,?_⟩
 have h1:=hN N (ac2 _)
 simp only[Um,Xg]
 rw[h1]
 cases e<;>first|rfl|exact(he rfl).elim
theorem atY(hN:aaA P)(hP:oY P G pr)(hM:P.follows .mixedOrders=true):Hr P G (om P pr):=by
 refine⟨fun f args h out h' hc=>?_,fun args h out h' hc=>?_,fun f args h out h' hc=>?_⟩
 ·obtain⟨n,hn⟩:=Rw.1 hc
  exact(vU hN hP hM n).1.1 f args h out h' hn
 ·obtain⟨n,hn⟩:=Rw.1 hc
  exact(vU hN hP hM n).1.2.1 args h out h' hn
 ·obtain⟨n,hn⟩:=Rw.1 hc
  exact(vU hN hP hM n).1.2.2 f args h out h' hn
end
abbrev Tm:=Nat→AV
def mk(n:Nat)(t:Tm):List AV:=(anO n).map t
def up(t:Tm)(d:Nat)(v:AV):Tm:=fun i=>if i=d then v else t i
def Dh(args:List AV):Tm:=fun i=>(args[i]?).getD (.tup [])
theorem auA(t:Tm)(d:Nat)(v:AV)(i:Nat):up t d v i=if i=d then v else t i:=aaF rfl rfl
theorem aiD(a:AV)(l:List AV):Dh (a::l) 0=a:=aaF rfl rfl
theorem afO(a:AV)(l:List AV)(i:Nat):Dh (a::l) (i+1)=Dh l i:=by simp[Dh]
theorem aj8(n:Nat)(t:Tm)(i:Nat):Hl (mk n t) i=if i<n then t i else .tup []:=by
 unfold Hl mk
 rw[ajY]
 split
 ·rename_i h;rw[ar5 h];rfl
 ·rename_i h;rw[am2 (by simpa using h)];rfl
theorem ah2(n:Nat)(t:Tm)(d:Nat)(v:AV):(mk n t).set d v=mk n (up t d v):=by
 refine am3 fun i=>?_
 unfold mk up
 rw[ai7]
 simp only[List.length_map,List.length_range,ajY]
 by_cases hi:i<n
 ·rw[ar5 hi]
  by_cases hd:d=i
  ·subst hd;simp[hi]
  ·have:¬i=d:=fun e=>hd e.symm
   simp[hd,this]
 ·rw[am2 (by simpa using hi)]
  by_cases hd:d=i
  ·subst hd;simp[hi]
  ·simp[hd]
theorem apF(n:Nat)(t:Tm)(d:Nat)(v:AV):put (mk n t) (some d) v=mk n (up t d v):=ah2 n t d v
theorem afI(l:List AV)(v:AV):put l none v=l:=aaF rfl rfl
theorem afZ(n:Nat)(args:List AV)(h:args.length≤n):args++List.replicate (n-args.length) (.tup [])=mk n (Dh args):=by
 refine am3 fun i=>?_
 unfold mk Dh
 rw[ajY]
 by_cases hi:i<n
 ·rw[ar5 hi]
  by_cases hj:i<args.length
  ·rw[asB hj];simp[hj]
  ·rw[List.getElem?_append_right (by omega),List.getElem?_replicate,if_pos (by omega),ac4,am2 (by omega:args.length≤i)];rfl
 ·rw[am2 (by simp;omega),am2 (by simpa using hi)];rfl
section
variable {P:Program} {O:Ez}
def Eg(O:Ez)(P:Program)(t:List AV)(h:Aa)(op:Op):Option (Dx × List Ad):=
 match Gk op with
 | .call c=>(callee t c).bind fun(f,args)=>(Ge O (hf h) h.length f args).map fun d=>(d.out,d.es)
 | .panic x=>(Ah t x).bind fun v=>match v with
   | .iface _ _=>some (.pan v,[])
   |_=>none
 | .other=>(exec P (hf h) h.length t op).map fun d=>(.ret d.v,d.es)
def rg(O:Ez)(P:Program)(n:Nat)(k:List Ai)(ops rest:List Oper)(i:Nat)(t:List AV)(h:Aa):R:=
 Fg O P ops (Uh ops) rest i ⟨t,h⟩ [] (fun s _=>Cd (Cj O P n) k .normal s) (fun v s=>Cd (Cj O P n) k (.pan v) s)
def rgD(O:Ez)(P:Program)(n:Nat)(k:List Ai)(ops rest:List Oper)(i:Nat)(d:Option Nat)(x:Option (Dx × List Ad))(t:List AV)(h:Aa):R:=
 match x with
 |some (.ret v,es)=>rg O P n k ops rest i (put t d v) (Ar h es)
 |some (.pan v,es)=>Cd (Cj O P n) k (.pan v) ⟨t,Ar h es⟩
 |none=>none
theorem Qq{ops:List Oper}{gs:List Nat}{k:St→R}{kp:AV→St→R}:∀{rest:List Oper} {i:Nat} {s:St} (log log':Wz),Fg O P ops gs rest i s log (fun s _=>k s) kp=Fg O P ops gs rest i s log' (fun s _=>k s) kp
 | [],i,s,log,log'=>rfl
 |o::rest,i,s,log,log'=>by
  unfold Fg
  split
  ·rfl
  ·exact Qq _ _
  ·split
   ·congr 1;funext x
    obtain⟨f,args⟩:=x
    simp only
    congr 1;funext d
    split
    ·simp only[Fp];exact Qq _ _
    ·rfl
   ·rfl
   ·congr 1;funext d
    simp only[Fp];exact Qq _ _
theorem as6(n:Nat)(k:List Ai)(ops rest:List Oper)(i:Nat)(t:List AV)(h:Aa)(o:Oper)(hw:Fb ops t o=some true):
 rg O P n k ops (o::rest) i t h=rgD O P n k ops rest (i+1) o.dst (Eg O P t h o.op) t h:=by
 unfold rg Fg
 simp only[hw]
 unfold Eg
 cases hk:Gk o.op with
 |call c=>
  simp only
  cases hc:callee t c with
  |none=>rfl
  |some x=>
   obtain⟨f,args⟩:=x
   cases ha:Ge O (hf h) h.length f args with
   |none=>simp[rgD,ha]
   |some d=>
    simp only[aaV,ha,ac4,rgD]
    cases ho:d.out with
    |ret v=>simp only[Fp];exact Qq _ _
    |pan v=>rfl
 |panic x=>
  simp only
  cases he:Ah t x with
  |none=>rfl
  |some v=>cases v<;>simp[rgD,Ar]
 |other=>
  simp only
  cases he:exec P (hf h) h.length t o.op with
  |none=>simp[rgD]
  |some d=>simp only[aaV,ac4,rgD,Fp];exact Qq _ _
theorem alV(n:Nat)(k:List Ai)(ops rest:List Oper)(i:Nat)(t:List AV)(h:Aa)(o:Oper)(hw:Fb ops t o=some false):
 rg O P n k ops (o::rest) i t h=rg O P n k ops rest (i+1) (put t o.dst (.tup [])) h:=by
 unfold rg
 conv=>lhs;unfold Fg
 simp only[hw]
 exact Qq _ _
def cdK(O:Ez)(P:Program)(n:Nat)(a b:Code)(k:List Ai)(v:Option AV)(s:St):R:=
 match v with
 |some (.bool true)=>Cj O P n a k s
 |some (.bool false)=>Cj O P n b k s
 |_=>none
theorem af8(n:Nat)(a b:Code)(k:List Ai)(s:St):cdK O P n a b k (some (.bool true)) s=Cj O P n a k s:=aaF rfl rfl
theorem abG(n:Nat)(a b:Code)(k:List Ai)(s:St):cdK O P n a b k (some (.bool false)) s=Cj O P n b k s:=aaF rfl rfl
def lpK(O:Ez)(P:Program)(n:Nat)(k:List Ai)(x:R):R:=
 match x with
 |some (e,s)=>Cd (Cj O P n) k e s
 |none=>none
theorem aiZ(n:Nat)(k:List Ai)(s:St):Cj O P (n+1) .skip k s=Cd (Cj O P n) k .normal s:=aaF rfl rfl
theorem akP(n:Nat)(a b:Code)(k:List Ai)(s:St):Cj O P (n+1) (.seq a b) k s=Cj O P n a (.code b::k) s:=aaF rfl rfl
theorem ahB(n:Nat)(c:Operand)(a b:Code)(k:List Ai)(t:List AV)(h:Aa):Cj O P (n+1) (.cond c a b) k ⟨t,h⟩=cdK O P n a b k (Ah t c) ⟨t,h⟩:=by
 simp only[Cj,zL,cdK]
 cases Ah t c with
 |none=>rfl
 |some v=>
  cases v with
  |bool g=>cases g<;>rfl
  |_=>rfl
theorem aaT(n:Nat)(id:Nat)(c:Code)(k:List Ai)(s:St):Cj O P (n+1) (.block id c) k s=Cj O P n c (.blk id::k) s:=aaF rfl rfl
theorem ah9(n:Nat)(c:Code)(k:List Ai)(s:St):Cj O P (n+1) (.loop c) k s=lpK O P n k (O.loop c s):=by
 simp only[Cj,Xg,lpK]
 cases O.loop c s<;>rfl
theorem agI(n:Nat)(id:Nat)(k:List Ai)(s:St):Cj O P (n+1) (.exit id) k s=Cd (Cj O P n) k (.exit id) s:=aaF rfl rfl
theorem ajJ(n:Nat)(k:List Ai)(s:St):Cj O P (n+1) .ret k s=Cd (Cj O P n) k .ret s:=aaF rfl rfl
theorem aeW(ev:Code→List Ai→St→R)(e:Ex)(s:St):Cd ev [] e s=some (e,s):=aaF rfl rfl
theorem abJ(n:Nat)(c:Code)(k:List Ai)(s:St):Cd (Cj O P n) (.code c::k) .normal s=Cj O P n c k s:=aaF rfl rfl
theorem jN(ev:Code→List Ai→St→R)(c:Code)(k:List Ai)(i:Nat)(s:St):Cd ev (.code c::k) (.exit i) s=Cd ev k (.exit i) s:=aaF rfl rfl
theorem mA(ev:Code→List Ai→St→R)(c:Code)(k:List Ai)(s:St):Cd ev (.code c::k) .ret s=Cd ev k .ret s:=aaF rfl rfl
theorem ae6(ev:Code→List Ai→St→R)(id:Nat)(k:List Ai)(s:St):Cd ev (.blk id::k) .normal s=Cd ev k .normal s:=aaF rfl rfl
theorem oP(ev:Code→List Ai→St→R)(id:Nat)(k:List Ai)(s:St):Cd ev (.blk id::k) .ret s=Cd ev k .ret s:=aaF rfl rfl
theorem lS(ev:Code→List Ai→St→R)(id i:Nat)(k:List Ai)(s:St):Cd ev (.blk id::k) (.exit i) s=if i=id then Cd ev k .normal s else Cd ev k (.exit i) s:=by
 simp only[Cd]
 by_cases h:i=id
 ·subst h;simp
 ·have:(i==id)=false:=by simpa using h
  rw[this];simp[h]
def fnK(P:Program)(k:Nat)(rs:List ResultVar)(x:R):Option (Dx × Aa):=
 match x with
 |some (.normal,s)|some (.ret,s)=>(Rh P s rs).bind fun vs=>(Py k (Qw vs) s.h).map fun(v,h)=>(.ret v,h)
 |some (.pan v,s)=>(Py k v s.h).map fun(v,h)=>(.pan v,h)
 |_=>none
def af9(k:Nat)(vs:Option (List AV))(h:Aa):Option (Dx × Aa):=vs.bind fun vs=>(Py k (Qw vs) h).map fun(v,h)=>(.ret v,h)
theorem anY{f:Nat}{fn:Func}(hf:P.funcs[f]?=some fn){c:Code}(hb:fn.body=some c){args:List AV}(hl:args.length≤fn.ntmps)(h:Aa):
 evF O P f args h=fnK P h.length fn.results.toList (Cj O P Mc c [] ⟨mk fn.ntmps (Dh args),h⟩):=by
 unfold evF
 simp only[hf,hb]
 rw[afZ _ _ hl]
 cases Cj O P Mc c [] ⟨mk fn.ntmps (Dh args),h⟩with
 |none=>rfl
 |some x=>
  obtain⟨e,s⟩:=x
  cases e<;>rfl
structure CO where
 dst:Option Nat
 op:Op
 g:Option (Option Nat × Bool)
def Ia(ops:List Oper)(o:Oper):CO:=⟨o.dst,o.op,o.guard.map fun(j,w)=>((ops[j]?).bind (·.dst),w)⟩
def rc(O:Ez)(P:Program)(n:Nat)(k:List Ai):List CO→List AV→Aa→R
 | [],t,h=>Cd (Cj O P n) k .normal ⟨t,h⟩
 |c::cs,t,h=>
  match(match c.g with
   |none=>some true
   |some (none,_)=>none
   |some (some q,w)=>match Hl t q with
    | .bool b=>some (b==w)
    | .tup []=>some false
    |_=>none)with
  |none=>none
  |some false=>rc O P n k cs (put t c.dst (.tup [])) h
  |some true=>match Eg O P t h c.op with
   |some (.ret v,es)=>rc O P n k cs (put t c.dst v) (Ar h es)
   |some (.pan v,es)=>Cd (Cj O P n) k (.pan v) ⟨t,Ar h es⟩
   |none=>none
def rcD(O:Ez)(P:Program)(n:Nat)(k:List Ai)(d:Option Nat)(cs:List CO)(x:Option (Dx × List Ad))(t:List AV)(h:Aa):R:=
 match x with
 |some (.ret v,es)=>rc O P n k cs (put t d v) (Ar h es)
 |some (.pan v,es)=>Cd (Cj O P n) k (.pan v) ⟨t,Ar h es⟩
 |none=>none
def rcG(O:Ez)(P:Program)(n:Nat)(k:List Ai)(d:Option Nat)(op:Op)(cs:List CO)(v:AV)(w:Bool)(t:List AV)(h:Aa):R:=
 match v with
 | .bool b=>match b==w with
   |true=>rcD O P n k d cs (Eg O P t h op) t h
   |false=>rc O P n k cs (put t d (.tup [])) h
 | .tup []=>rc O P n k cs (put t d (.tup [])) h
 |_=>none
theorem ag4{n:Nat}{k:List Ai}{ops:List Oper}:∀{rest:List Oper} {i:Nat} {t:List AV} {h:Aa},rg O P n k ops rest i t h=rc O P n k (rest.map (Ia ops)) t h
 | [],i,t,h=>rfl
 |o::rest,i,t,h=>by
  simp only[List.map_cons]
  have hw:(match(Ia ops o).g with
   |none=>some true
   |some (none,_)=>none
   |some (some q,w)=>match Hl t q with
    | .bool b=>some (b==w)
    | .tup []=>some false
    |_=>none)=Fb ops t o:=by
   unfold Ia Fb
   cases o.guard with
   |none=>rfl
   |some x=>
    obtain⟨j,w⟩:=x
    simp only[ac4]
    cases(ops[j]?).bind (·.dst)with
    |none=>rfl
    |some q=>
     simp only
     cases Hl t q<;>first|rfl|(rename_i l;cases l<;>rfl)
  unfold rc
  rw[hw]
  cases hwa:Fb ops t o with
  |none=>unfold rg Fg;simp only[hwa]
  |some b=>
   cases b with
   |false=>rw[alV n k ops rest i t h o hwa];exact ag4
   |true=>
    rw[as6 n k ops rest i t h o hwa]
    show rgD O P n k ops rest (i+1) o.dst (Eg O P t h o.op) t h=match Eg O P t h o.op with
     |some (.ret v,es)=>rc O P n k (rest.map (Ia ops)) (put t o.dst v) (Ar h es)
     |some (.pan v,es)=>Cd (Cj O P n) k (.pan v) ⟨t,Ar h es⟩
     |none=>none
    cases Eg O P t h o.op with
    |none=>rfl
    |some x=>
     obtain⟨out,es⟩:=x
     cases out with
     |ret v=>exact ag4
     |pan v=>rfl
theorem ap0(n:Nat)(k:List Ai)(t:List AV)(h:Aa):rc O P n k [] t h=Cd (Cj O P n) k .normal ⟨t,h⟩:=aaF rfl rfl
theorem au6(n:Nat)(k:List Ai)(d:Option Nat)(op:Op)(cs:List CO)(t:List AV)(h:Aa):rc O P n k (⟨d,op,none⟩::cs) t h=rcD O P n k d cs (Eg O P t h op) t h:=aaF rfl rfl
theorem au8(n:Nat)(k:List Ai)(d:Option Nat)(op:Op)(cs:List CO)(q:Nat)(w:Bool)(t:List AV)(h:Aa):rc O P n k (⟨d,op,some (some q,w)⟩::cs) t h=rcG O P n k d op cs (Hl t q) w t h:=by
 unfold rc rcG
 simp only
 cases Hl t q with
 |bool b=>simp only;cases(b==w)<;>rfl
 |tup l=>cases l<;>rfl
 |_=>rfl
theorem amV(n:Nat)(k:List Ai)(d:Option Nat)(cs:List CO)(v:AV)(es:List Ad)(t:List AV)(h:Aa):rcD O P n k d cs (some (.ret v,es)) t h=rc O P n k cs (put t d v) (Ar h es):=aaF rfl rfl
theorem aoN(n:Nat)(k:List Ai)(d:Option Nat)(op:Op)(cs:List CO)(t:List AV)(h:Aa):rcG O P n k d op cs (.bool true) true t h=rcD O P n k d cs (Eg O P t h op) t h:=aaF rfl rfl
theorem aq8(n:Nat)(k:List Ai)(d:Option Nat)(op:Op)(cs:List CO)(t:List AV)(h:Aa):rcG O P n k d op cs (.bool false) false t h=rcD O P n k d cs (Eg O P t h op) t h:=aaF rfl rfl
theorem aoX(n:Nat)(k:List Ai)(d:Option Nat)(op:Op)(cs:List CO)(t:List AV)(h:Aa):rcG O P n k d op cs (.bool true) false t h=rc O P n k cs (put t d (.tup [])) h:=aaF rfl rfl
theorem aqD(n:Nat)(k:List Ai)(d:Option Nat)(op:Op)(cs:List CO)(t:List AV)(h:Aa):rcG O P n k d op cs (.bool false) true t h=rc O P n k cs (put t d (.tup [])) h:=aaF rfl rfl
theorem an2(n:Nat)(k:List Ai)(d:Option Nat)(op:Op)(cs:List CO)(w:Bool)(t:List AV)(h:Aa):rcG O P n k d op cs (.tup []) w t h=rc O P n k cs (put t d (.tup [])) h:=aaF rfl rfl
theorem ao2(n:Nat)(id:Nat)(ops:Array Oper)(k:List Ai)(t:List AV)(h:Aa):Cj O P (n+1) (.region id ops false) k ⟨t,h⟩=rc O P n k (ops.toList.map (Ia ops.toList)) t h:=ag4
end
section
variable {P:Program} {O:Ez}
abbrev OE:=Option (Dx × List Ad)
def r1(x:Option AV):OE:=x.map fun v=>(.ret v,[])
theorem bF(v:AV):r1 (some v)=some (.ret v,[]):=aaF rfl rfl
def rD(x:Option Jo):OE:=x.map fun d=>(.ret d.v,d.es)
theorem amO(v:AV)(es:List Ad)(fs:List Dm):rD (some ⟨v,es,fs⟩)=some (.ret v,es):=aaF rfl rfl
theorem Gq(x:Option AV):rD (Gv x)=r1 x:=by cases x<;>rfl
theorem Dk(t:List AV)(h:Aa)(op:Op)(hk:Gk op=.other):Eg O P t h op=rD (exec P (hf h) h.length t op):=by unfold Eg;rw[hk];rfl
theorem al4(t:List AV)(h:Aa)(x:Operand):Eg O P t h (.move x)=r1 (Ah t x):=by rw[Dk _ _ _ rfl];exact Gq _
theorem aa3(t:List AV)(h:Aa)(x:Operand):Eg O P t h (.assign x)=r1 (Ah t x):=by rw[Dk _ _ _ rfl];exact Gq _
def pk(c a b:Option AV):OE:=
 match c,a,b with
 |some (.bool true),some a,some _=>some (.ret a,[])
 |some (.bool false),some _,some b=>some (.ret b,[])
 |_,_,_=>none
theorem alA(a b:AV):pk (some (.bool true)) (some a) (some b)=some (.ret a,[]):=aaF rfl rfl
theorem ahX(a b:AV):pk (some (.bool false)) (some a) (some b)=some (.ret b,[]):=aaF rfl rfl
theorem akV(t:List AV)(h:Aa)(c a b:Operand):Eg O P t h (.pick c a b)=pk (Ah t c) (Ah t a) (Ah t b):=by
 rw[Dk _ _ _ rfl]
 simp only[exec]
 cases Ah t c with
 |none=>rfl
 |some v=>
  cases Ah t a with
  |none=>cases v<;>first|rfl|(rename_i q;cases q<;>rfl)
  |some x=>
   cases Ah t b with
   |none=>cases v<;>first|rfl|(rename_i q;cases q<;>rfl)
   |some y=>cases v<;>first|rfl|(rename_i q;cases q<;>rfl)
def bn(P:Program)(op:BinOp)(ty:TypeId)(a b:Option AV):Option AV:=a.bind fun a=>b.bind fun b=>Jy P op ty a b
theorem ajZ(op:BinOp)(ty:TypeId)(a b:AV):bn P op ty (some a) (some b)=Jy P op ty a b:=aaF rfl rfl
theorem ap3(t:List AV)(h:Aa)(op:BinOp)(ty:TypeId)(x y:Operand)(u:TypeId):Eg O P t h (.binOp op ty x y u)=r1 (bn P op ty (Ah t x) (Ah t y)):=by
 rw[Dk _ _ _ rfl]
 simp only[exec,bn]
 cases Ah t x with
 |none=>rfl
 |some a=>
  cases Ah t y with
  |none=>rfl
  |some b=>exact Gq _
section bins
variable (P:Program) (ty:TypeId) (k:IntKind) (a b:Int)
theorem avP:Jy P .add ty (.int k a) (.int k b)=some (.int k (k.wrap (a+b))):=by simp[Jy,Jr]
theorem au5:Jy P .sub ty (.int k a) (.int k b)=some (.int k (k.wrap (a-b))):=by simp[Jy,Jr]
theorem auM:Jy P .mul ty (.int k a) (.int k b)=some (.int k (k.wrap (a*b))):=by simp[Jy,Jr]
theorem asW:Jy P .quo ty (.int k a) (.int k b)=if b=0 then none else some (.int k (k.wrap (a.tdiv b))):=by simp[Jy,Jr]
theorem asZ:Jy P .eql ty (.int k a) (.int k b)=some (.bool (a==b)):=by simp[Jy,Jr]
theorem asT:Jy P .neq ty (.int k a) (.int k b)=some (.bool !(a==b)):=by simp[Jy,Jr,bne]
theorem atZ:Jy P .lss ty (.int k a) (.int k b)=some (.bool (decide (a<b))):=by simp[Jy,Jr]
theorem auD:Jy P .leq ty (.int k a) (.int k b)=some (.bool (decide (a≤b))):=by simp[Jy,Jr]
theorem atH:Jy P .gtr ty (.int k a) (.int k b)=some (.bool (decide (b<a))):=by simp[Jy,Jr]
theorem avE:Jy P .geq ty (.int k a) (.int k b)=some (.bool (decide (b≤a))):=by simp[Jy,Jr]
end bins
theorem atN(t:List AV)(h:Aa)(op:UnOp)(ty:TypeId)(x:Operand):Eg O P t h (.unOp op ty x)=r1 ((Ah t x).bind (aUn op)):=by
 rw[Dk _ _ _ rfl]
 simp only[exec]
 cases Ah t x with
 |none=>rfl
 |some a=>exact Gq _
def Me(c:Option CB)(r:Nat):Option (List AV):=
 match c with
 |some (.live _ _ _ rows)=>rows[r]?
 |some (.frz _ _ rows)=>rows[r]?
 |_=>none
theorem abS(st:Nat)(fl w:Bool)(rows:List (List AV))(r:Nat):Me (some (.live st fl w rows)) r=rows[r]?:=aaF rfl rfl
theorem rW(h:Aa)(b r:Nat):Zq (hf h) b r=Me (h[b]?) r:=by
 unfold Zq Me hf
 cases h[b]? with
 |none=>rfl
 |some c=>cases c<;>rfl
def ldC(cs:Option (List AV))(o:Nat):OE:=cs.bind fun cs=>r1 (cs[o]?)
def zX(cs:Option (List AV))(o n:Nat):OE:=cs.bind fun cs=>if o+n≤cs.length then some (.ret (.agg ((cs.drop o).take n)),[])else none
theorem afH(cs:List AV)(o:Nat):ldC (some cs) o=r1 (cs[o]?):=aaF rfl rfl
theorem aiU(cs:List AV)(o n:Nat):zX (some cs) o n=if o+n≤cs.length then some (.ret (.agg ((cs.drop o).take n)),[])else none:=aaF rfl rfl
def ld(P:Program)(ty:TypeId)(h:Aa)(p:Option AV):OE:=p.bind fun p=>rD (Po P (hf h) ty p)
theorem akM(t:List AV)(h:Aa)(ty:TypeId)(a:Operand):Eg O P t h (.load ty a)=ld P ty h (Ah t a):=by
 rw[Dk _ _ _ rfl]
 simp only[exec,ld]
 cases Ah t a<;>rfl
def asU(P:Program)(ty:TypeId):Prop:=gG P ty=some false∧∃n,Ul P ty=some n
def avQ(P:Program)(ty:TypeId)(n:Nat):Prop:=gG P ty=some true∧Ul P ty=some n
theorem Zs{ty:TypeId}(hs:asU P ty)(h:Aa)(b r o:Nat):ld P ty h (some (.ptr b r o))=ldC (Me (h[b]?) r) o:=by
 obtain⟨h1,n,h2⟩:=hs
 simp only[ld,aaV,Po,h1,h2,rW]
 cases Me (h[b]?) r with
 |none=>rfl
 |some cs=>simp only[aaV,ldC];cases cs[o]?<;>rfl
theorem ah7{ty:TypeId}(hs:asU P ty)(h:Aa)(c:AV)(cs:List AV):ld P ty h (some (.iptr (c::cs)))=some (.ret c,[]):=by
 obtain⟨h1,n,h2⟩:=hs
 simp only[ld,aaV,Po,h1,h2,amO]
theorem Zm{ty:TypeId}{n:Nat}(hs:avQ P ty n)(h:Aa)(b r o:Nat):ld P ty h (some (.ptr b r o))=zX (Me (h[b]?) r) o n:=by
 obtain⟨h1,h2⟩:=hs
 simp only[ld,aaV,Po,h1,h2,rW]
 cases Me (h[b]?) r with
 |none=>rfl
 |some cs=>simp only[aaV,zX];split<;>rfl
theorem tJ{ty:TypeId}{n:Nat}(hs:avQ P ty n)(h:Aa)(cs:List AV):ld P ty h (some (.iptr cs))=if n≤cs.length then some (.ret (.agg (cs.take n)),[])else none:=by
 obtain⟨h1,h2⟩:=hs
 simp only[ld,aaV,Po,h1,h2]
 split<;>rfl
def sv(n:Nat)(c:Option CB)(b r o:Nat)(v:List AV):OE:=
 match c with
 |some (.live _ _ _ rows)=>(rows[r]?).bind fun cs=>if v.length=n∧o+n≤cs.length∧v.all AV.isCell=true then some (.ret (.tup []),[.cells b r o v])else none
 |_=>none
theorem akR(n:Nat)(st:Nat)(fl w:Bool)(rows:List (List AV))(b r o:Nat)(v:List AV):sv n (some (.live st fl w rows)) b r o v=(rows[r]?).bind fun cs=>if v.length=n∧o+n≤cs.length∧v.all AV.isCell=true then some (.ret (.tup []),[.cells b r o v])else none:=aaF rfl rfl
def uO(P:Program)(ty:TypeId)(h:Aa)(p v:Option AV):OE:=p.bind fun p=>v.bind fun v=>rD (Qs P (hf h) ty p v)
theorem aiB(t:List AV)(h:Aa)(ty:TypeId)(a x:Operand):Eg O P t h (.store ty a x)=uO P ty h (Ah t a) (Ah t x):=by
 rw[Dk _ _ _ rfl]
 simp only[exec,uO]
 cases Ah t a with
 |none=>rfl
 |some p=>cases Ah t x<;>rfl
theorem Pv{ty:TypeId}{n:Nat}(hs:Ul P ty=some n)(h:Aa)(b r o:Nat)(v:AV):uO P ty h (some (.ptr b r o)) (some v)=sv n (h[b]?) b r o (acells v):=by
 simp only[uO,aaV,Qs,hs,hf,sv]
 cases h[b]? with
 |none=>rfl
 |some c=>
  cases c with
  |live st fl w rows=>
   simp only
   cases rows[r]? with
   |none=>rfl
   |some cs=>simp only[aaV];split<;>rfl
  |_=>rfl
def nw(h:Aa)(v:Option AV):OE:=v.bind fun v=>if(acells v).all AV.isCell=true then some (.ret (.ptr h.length 0 0),[.new h.length (.live (acells v).length ((acells v).all AV.flat) false [acells v])])else none
theorem al9(h:Aa)(v:AV):nw h (some v)=if(acells v).all AV.isCell=true then some (.ret (.ptr h.length 0 0),[.new h.length (.live (acells v).length ((acells v).all AV.flat) false [acells v])])else none:=aaF rfl rfl
theorem ae1(t:List AV)(h:Aa)(ty:TypeId):Eg O P t h (.alloc ty)=nw h (Jw P ty):=by
 rw[Dk _ _ _ rfl]
 simp only[exec,nw]
 cases Jw P ty with
 |none=>rfl
 |some z=>simp only[aaV,dY];split<;>rfl
theorem aqS(t:List AV)(h:Aa)(ty:TypeId)(x:Operand):Eg O P t h (.box ty x)=nw h (Ah t x):=by
 rw[Dk _ _ _ rfl]
 simp only[exec,nw]
 cases Ah t x with
 |none=>rfl
 |some z=>simp only[aaV,dY];split<;>rfl
theorem ae0(t:List AV)(h:Aa)(ty:TypeId)(ps:Array (Nat × Operand)):Eg O P t h (.build ty ps)=r1 ((Bv t (ps.toList.map (·.2))).bind fun vs=>dM P ty (Qz ps.toList vs)):=by
 rw[Dk _ _ _ rfl]
 simp only[exec]
 cases Bv t (ps.toList.map (·.2))with
 |none=>rfl
 |some vs=>exact Gq _
theorem lQ(t:List AV)(h:Aa)(ty:TypeId)(len:Nat)(ps:Array (Nat × Operand)):Eg O P t h (.buildSlice ty len ps)=rD ((Bv t (ps.toList.map (·.2))).bind fun vs=>Db P h.length ty len (Qz ps.toList vs)):=Dk _ _ _ rfl
def fa(P:Program)(ty:TypeId)(x:Option AV)(f:Nat):OE:=r1 (x.bind fun x=>Om P ty x f)
theorem auY(t:List AV)(h:Aa)(ty:TypeId)(x:Operand)(f:Nat):Eg O P t h (.fieldAddr ty x f)=fa P ty (Ah t x) f:=by
 rw[Dk _ _ _ rfl]
 simp only[exec,fa]
 cases Ah t x with
 |none=>rfl
 |some a=>exact Gq _
def Bm(P:Program)(ty:TypeId)(f off n:Nat):Prop:=∃fs fd,P.underlying ty=some (.struct fs)∧fs[f]?=some fd∧fd.offset=off∧Ul P fd.type=some n∧n≠0
theorem Bf{ty:TypeId}{f off n:Nat}(hf:Bm P ty f off n)(b r o:Nat):fa P ty (some (.ptr b r o)) f=some (.ret (.ptr b r (o+off)),[]):=by
 obtain⟨fs,fd,h1,h2,h3,h4,h5⟩:=hf
 simp only[fa,aaV,Om,h1,h2,h4,h5,if_false,h3,bF]
theorem Ny{ty:TypeId}{f off n:Nat}(hf:Bm P ty f off n)(cs:List AV):fa P ty (some (.iptr cs)) f=if off+n≤cs.length then some (.ret (.iptr (cs.drop off)),[])else none:=by
 obtain⟨fs,fd,h1,h2,h3,h4,h5⟩:=hf
 simp only[fa,aaV,Om,h1,h2,h4,h5,if_false,h3]
 split<;>rfl
def ia(P:Program)(ty:TypeId)(x i:Option AV):OE:=r1 (x.bind fun x=>i.bind fun i=>Ky P ty x i)
theorem asJ(t:List AV)(h:Aa)(ty:TypeId)(x i:Operand):Eg O P t h (.indexAddr ty x i)=ia P ty (Ah t x) (Ah t i):=by
 rw[Dk _ _ _ rfl]
 simp only[exec,ia]
 cases Ah t x with
 |none=>rfl
 |some a=>
  cases Ah t i with
  |none=>rfl
  |some b=>exact Gq _
def SlT(P:Program)(ty:TypeId)(n:Nat):Prop:=∃e,P.underlying ty=some (.slice e)∧Ul P e=some n
theorem ah8{ty:TypeId}{n:Nat}(hs:SlT P ty n)(fl:Bool)(rows:List (List AV))(k:IntKind)(i:Int):ia P ty (some (.imm n fl rows)) (some (.int k i))=if 0≤i then r1 ((rows[i.toNat]?).map .iptr)else none:=by
 obtain⟨e,h1,h2⟩:=hs
 simp only[ia,aaV,Ky,h1,h2,true_and]
 split<;>rfl
theorem vA{ty:TypeId}{n:Nat}(hs:SlT P ty n)(b r len:Nat)(k:IntKind)(i:Int):ia P ty (some (.slr n b r len)) (some (.int k i))=if 0≤i∧i<len then some (.ret (.ptr b (r+i.toNat) 0),[])else none:=by
 obtain⟨e,h1,h2⟩:=hs
 simp only[ia,aaV,Ky,h1,h2,true_and]
 split<;>rfl
theorem vM(t:List AV)(h:Aa)(x:Operand)(i:Nat):Eg O P t h (.extract x i)=r1 ((Ah t x).bind fun x=>match x with| .tup vs=>vs[i]?|_=>none):=by
 rw[Dk _ _ _ rfl]
 simp only[exec]
 cases Ah t x with
 |none=>rfl
 |some a=>cases a<;>first|rfl|exact Gq _
def ln(P:Program)(ty:TypeId)(x:Option AV):OE:=r1 (x.bind (oW P ty))
theorem arA(t:List AV)(h:Aa)(x:Operand)(ty:TypeId):Eg O P t h (.call ⟨.builtin .len,#[x],#[ty]⟩)=ln P ty (Ah t x):=by
 rw[Dk _ _ _ rfl]
 simp only[exec,Bv,ln]
 cases Ah t x with
 |none=>rfl
 |some a=>exact Gq _
theorem adG{ty:TypeId}{n:Nat}(hs:SlT P ty n)(st:Nat)(fl:Bool)(rows:List (List AV)):ln P ty (some (.imm st fl rows))=some (.ret (.int .i64 rows.length),[]):=by
 obtain⟨e,h1,h2⟩:=hs
 simp only[ln,aaV,oW,h1,bF]
theorem vO{ty:TypeId}{n:Nat}(hs:SlT P ty n)(st b r len:Nat):ln P ty (some (.slr st b r len))=some (.ret (.int .i64 len),[]):=by
 obtain⟨e,h1,h2⟩:=hs
 simp only[ln,aaV,oW,h1,bF]
theorem hU{ty:TypeId}{n:Nat}(hs:SlT P ty n):ln P ty (some .nils)=some (.ret (.int .i64 0),[]):=by
 obtain⟨e,h1,h2⟩:=hs
 simp only[ln,aaV,oW,h1,bF]
theorem amL(t:List AV)(h:Aa)(x y:Operand)(ts:Array TypeId):Eg O P t h (.call ⟨.builtin .min,#[x,y],ts⟩)=r1 ((Ah t x).bind fun a=>(Ah t y).bind fun b=>cK a b):=by
 rw[Dk _ _ _ rfl]
 simp only[exec,Bv]
 cases Ah t x with
 |none=>rfl
 |some a=>
  cases Ah t y with
  |none=>rfl
  |some b=>exact Gq _
theorem ajW(t:List AV)(h:Aa)(x y:Operand)(ts:Array TypeId):Eg O P t h (.call ⟨.builtin .max,#[x,y],ts⟩)=r1 ((Ah t x).bind fun a=>(Ah t y).bind fun b=>lB a b):=by
 rw[Dk _ _ _ rfl]
 simp only[exec,Bv]
 cases Ah t x with
 |none=>rfl
 |some a=>
  cases Ah t y with
  |none=>rfl
  |some b=>exact Gq _
def cr(x:Option Kr):OE:=x.map fun d=>(d.out,d.es)
theorem ajP(o:Dx)(es:List Ad)(fs:List Dm):cr (some ⟨o,es,fs⟩)=some (o,es):=aaF rfl rfl
def mU:List AV→Bool
 | .ptr _ _ _::_=>true
 | .yl _::_=>true
 |_=>false
theorem jB(f:Nat)(args:List AV):Xv f args=if mU args=true then .sh f else .fn f:=by
 unfold Xv
 split
 ·rfl
 ·rfl
 ·rename_i h1 h2
  rw[if_neg]
  intro hc
  unfold mU at hc
  split at hc
  ·exact h1 _ _ _ _ rfl
  ·exact h2 _ _ rfl
  ·cases hc
theorem arM:mU []=false:=aaF rfl rfl
theorem aoZ(b r o:Nat)(l:List AV):mU (.ptr b r o::l)=true:=aaF rfl rfl
theorem aqE(k:IntKind)(n:Int)(l:List AV):mU (.int k n::l)=false:=aaF rfl rfl
theorem akK(l:List AV):mU (.nils::l)=false:=aaF rfl rfl
theorem an7(n:Nat)(fl:Bool)(rows:List (List AV))(l:List AV):mU (.imm n fl rows::l)=false:=aaF rfl rfl
theorem apB(a b r n:Nat)(l:List AV):mU (.slr a b r n::l)=false:=aaF rfl rfl
theorem apT(c:List AV)(l:List AV):mU (.agg c::l)=false:=aaF rfl rfl
def shK(h:Aa)(x:Option (Dx × Aa)):OE:=x.bind fun(out,h')=>(Eb 0 h h').map fun es=>(out,es)
def cX(h:Aa):Aa:=h.map CB.clean
def shC(O:Ez)(h:Aa)(f:Nat)(args:List AV):OE:=if(iS args||O.md f)=true then shK h (O.call (.sh f) args (cX h))else cr (Du O (hf h) h.length (.fn f) args)
theorem am9(h:Aa)(f:Sj)(args:List AV):cr (Ji O (hf h) h.length f args)=shK h (O.call f args (cX h)):=by
 unfold Ji shK cr cX
 rw[aeU,aaV]
 cases O.call f args (h.map CB.clean)with
 |none=>rfl
 |some x=>
  obtain⟨out,h'⟩:=x
  simp only[aaV]
  cases Eb 0 h h'<;>rfl
def cl(O:Ez)(h:Aa)(f:Option AV)(vs:Option (List AV)):OE:=f.bind fun f=>vs.bind fun vs=>
 match f with
 | .func (.func f) a b=>if mU (a++vs++b)=true then shC O h f (a++vs++b)else cr (Du O (hf h) h.length (.fn f) (a++vs++b))
 | .yl b=>shK h (O.call .round (vs++[.yl b]) (cX h))
 |_=>none
theorem am7(h:Aa)(f:Nat)(a b vs:List AV):cl O h (some (.func (.func f) a b)) (some vs)=if mU (a++vs++b)=true then shC O h f (a++vs++b)else cr (Du O (hf h) h.length (.fn f) (a++vs++b)):=aaF rfl rfl
theorem asN(h:Aa)(b:Nat)(vs:List AV):cl O h (some (.yl b)) (some vs)=shK h (O.call .round (vs++[.yl b]) (cX h)):=aaF rfl rfl
theorem ad5(h:Aa)(f:Nat)(args:List AV):cr (Ge O (hf h) h.length (Xv f args) args)=if mU args=true then shC O h f args else cr (Du O (hf h) h.length (.fn f) args):=by
 rw[jB]
 split
 ·unfold shC
  cases hq:(iS args||O.md f)with
  |true=>simp only[Ge,hq,cond_true,if_true,am9]
  |false=>simp only[Ge,hq,cond_false,adA,if_false]
 ·rfl
theorem akC(t:List AV)(h:Aa)(f:Operand)(args:Array Operand)(ts:Array TypeId):Eg O P t h (.call ⟨.value f,args,ts⟩)=cl O h (Ah t f) (Bv t args.toList):=by
 simp only[Eg,Gk,callee,cl]
 cases Ah t f with
 |none=>rfl
 |some fv=>
  cases Bv t args.toList with
  |none=>rfl
  |some vs=>
   simp only[aaV]
   cases fv with
   |func fn a b=>
    cases fn with
    |func f=>exact ad5 h f _
    |_=>rfl
   |yl b=>exact am9 h .round _
   |_=>rfl
def Az:Nat→AV→Bool
 |0,_=>false
 |d+1,v=>
  match v with
  | .ptr _ _ _=>false
  | .slr _ _ _ _=>false
  | .yl _=>false
  | .agg cs=>cs.all (Az d)
  | .tup cs=>cs.all (Az d)
  | .iface _ x=>Az d x
  | .func _ a b=>a.all (Az d)&&b.all (Az d)
  |_=>true
theorem Oj{f:AV→Option AV}:∀{l:List AV},(∀x∈l,f x=some x)→As f l=some l
 | [],_=>rfl
 |a::l,h=>by
  simp only[As,h a (abT ..),Oj (fun x hx=>h x (abL _ hx)),aaV,ac4]
theorem Iu(g:HF):∀{d e:Nat} {v:AV},d≤e→Az d v=true→Ib e g v=some v
 |0,e,v,_,h=>by simp[Az]at h
 |d+1,0,v,he,h=>by omega
 |d+1,e+1,v,he,h=>by
  cases v with
  |ptr b r o=>simp[Az]at h
  |slr a b c d=>simp[Az]at h
  |agg cs=>
   simp only[Az,acY]at h
   simp only[Ib]
   rw[Oj fun x hx=>Iu g (by omega) (h x hx)];rfl
  |iface t x=>
   simp only[Az]at h
   simp only[Ib]
   rw[Iu g (by omega) h];rfl
  |_=>rfl
theorem Im(g:HF):∀{d e:Nat} {v:AV},d≤e→Az d v=true→Av e g v=[]
 |0,e,v,_,h=>by simp[Az]at h
 |d+1,0,v,he,h=>by omega
 |d+1,e+1,v,he,h=>by
  cases v with
  |ptr b r o=>simp[Az]at h
  |slr a b c d=>simp[Az]at h
  |agg cs=>
   simp only[Az,acY]at h
   simp only[Av]
   rw[atS]
   exact fun x hx=>Im g (by omega) (h x hx)
  |iface t x=>
   simp only[Az]at h
   simp only[Av]
   exact Im g (by omega) h
  |_=>rfl
theorem Lq{f:List Nat→AV→Option (AV × List Nat)}{m:List Nat}:∀{l:List AV},(∀x∈l,f m x=some (x,m))→Dv.refL f m l=some (l,m)
 | [],_=>rfl
 |a::l,h=>by
  simp only[Dv.refL,h a (abT ..),Lq (fun x hx=>h x (abL _ hx)),aaV,ac4]
theorem Jq(m:List Nat):∀{d:Nat} {v:AV},Az d v=true→Dv d m v=some (v,m)
 |0,v,h=>by simp[Az]at h
 |d+1,v,h=>by
  cases v with
  |ptr b r o=>simp[Az]at h
  |slr a b c d=>simp[Az]at h
  |yl b=>simp[Az]at h
  |agg cs=>
   simp only[Az,acY]at h
   simp only[Dv]
   rw[Lq fun x hx=>Jq m (h x hx)];rfl
  |tup cs=>
   simp only[Az,acY]at h
   simp only[Dv]
   rw[Lq fun x hx=>Jq m (h x hx)];rfl
  |iface t x=>
   simp only[Az]at h
   simp only[Dv]
   rw[Jq m h];rfl
  |func fn a b=>
   simp only[Az,ai5,acY]at h
   simp only[Dv]
   rw[Lq fun x hx=>Jq m (h.1 x hx)]
   simp only[aaV]
   rw[Lq fun x hx=>Jq m (h.2 x hx)];rfl
  |_=>rfl
theorem Ln(f:Nat→Nat):∀{d:Nat} {v:AV},Az d v=true→Ce d f v=some v
 |0,v,h=>by simp[Az]at h
 |d+1,v,h=>by
  cases v with
  |ptr b r o=>simp[Az]at h
  |slr a b c d=>simp[Az]at h
  |yl b=>simp[Az]at h
  |agg cs=>
   simp only[Az,acY]at h
   simp only[Ce]
   rw[Oj fun x hx=>Ln f (h x hx)];rfl
  |tup cs=>
   simp only[Az,acY]at h
   simp only[Ce]
   rw[Oj fun x hx=>Ln f (h x hx)];rfl
  |iface t x=>
   simp only[Az]at h
   simp only[Ce]
   rw[Ln f h];rfl
  |func fn a b=>
   simp only[Az,ai5,acY]at h
   simp only[Ce]
   rw[Oj fun x hx=>Ln f (h.1 x hx)]
   simp only[aaV]
   rw[Oj fun x hx=>Ln f (h.2 x hx)];rfl
  |_=>rfl
def ac0(base:Nat)(x:Option (Dx × Aa)):Option Kr:=x.bind fun(out,h')=>
 (Ce 8 (fun i=>base+i) out.v).bind fun v=>(Ii (fun i=>base+i) base h').map fun ns=>⟨out.map fun _=>v,ns,[]⟩
theorem eU{g:HF}{base:Nat}{f:Sj}{args:List AV}(hp:args.all (Az 8)=true):Du O g base f args=ac0 base (O.call f args []):=by
 rw[acY]at hp
 have h1:As (Ib 12 g) args=some args:=Oj fun x hx=>Iu g (by omega) (hp x hx)
 have h2:Ju g [] args=some (args,[],[]):=by
  unfold Ju
  rw[Lq fun x hx=>Jq [] (hp x hx)]
  rfl
 have h3:args.flatMap (Av 12 g)=[]:=by
  rw[atS]
  exact fun x hx=>Im g (by omega) (hp x hx)
 have h4:Fv [] base=fun i=>base+i:=by funext i;simp[Fv]
 unfold Du
 simp only[h1,h2,h3,aaV,List.any_nil,adA,if_false,List.map_nil]
 unfold ac0
 cases O.call f args []with
 |none=>rfl
 |some x=>
  obtain⟨out,h'⟩:=x
  simp only[aaV,Le,h4,List.length_nil,List.take_zero,List.drop_zero,Ho,List.isEmpty_nil,Bool.true_or,if_true,asD,List.append_nil,List.map_nil]
  cases Ce 8 (fun i=>base+i) out.v with
  |none=>rfl
  |some v=>
   simp only[aaV]
   cases Ii (fun i=>base+i) base h'<;>rfl
theorem ae4{base:Nat}{v:AV}(hv:Az 8 v=true):ac0 base (some (.ret v,[]))=some ⟨.ret v,[],[]⟩:=by
 simp only[ac0,aaV,Dx.v,Ln _ hv,Ii,ac4,Dx.map]
theorem aaN{vs:List AV}{h:Aa}(hv:Az 8 (Qw vs)=true):af9 0 (some vs) h=some (.ret (Qw vs),[]):=by
 simp only[af9,aaV,Py,List.range_zero]
 unfold Ju
 rw[Lq (l:=[Qw vs]) (fun x hx=>by simp at hx;subst hx;exact Jq [] hv)]
 rfl
theorem ahT(s:St):Rh P s []=some []:=aaF rfl rfl
theorem agE(t:List AV)(h:Aa)(q:Nat)(rs:List ResultVar):Rh P ⟨t,h⟩ (.tmp q::rs)=(Rh P ⟨t,h⟩ rs).map fun vs=>Hl t q::vs:=aaF rfl rfl
theorem afT{pr:Oe}{f:Nat}{fn:Func}{c:Code}{args:List AV}{h:Aa}{r:Dx × Aa}(hp:pr f=none)(hf:P.funcs[f]?=some fn)(hb:fn.body=some c)(hl:Nat.ble args.length fn.ntmps=true)
 (he:fnK P h.length fn.results.toList (Cj (om P pr) P 5000 c [] ⟨mk fn.ntmps (Dh args),h⟩)=some r):(om P pr).call (.fn f) args h=some r:=
 anP hp ((anY hf hb (Nat.le_of_ble_eq_true hl) h).trans he)
def ac1(base:Nat)(x:Option (Dx × Aa)):Option Kr:=ac0 base x
theorem aqJ(base:Nat)(v:AV):ac0 base (some (.ret v,[]))=if Az 8 v=true then some ⟨.ret v,[],[]⟩else ac1 base (some (.ret v,[])):=by
 split
 ·rename_i h;exact ae4 h
 ·rfl
theorem ak4(b:Bool):aUn .not (.bool b)=some (.bool !b):=aaF rfl rfl
theorem amR(k:IntKind)(n:Int):aUn .neg (.int k n)=some (.int k (k.wrap (0-n))):=aaF rfl rfl
theorem ai2(k k':IntKind)(x y:Int):cK (.int k x) (.int k' y)=some (.int k (if y<x then y else x)):=aaF rfl rfl
theorem aiO(k k':IntKind)(x y:Int):lB (.int k x) (.int k' y)=some (.int k (if y>x then y else x)):=aaF rfl rfl
def Bj(n:Nat)(fl nn:Bool):List (List AV)→AV
 | []=>bif nn then .imm n fl []else .nils
 |r::rs=>.imm n fl (r::rs)
theorem kW(n:Nat)(fl nn:Bool)(r:List AV)(rs:List (List AV)):Bj n fl nn (r::rs)=.imm n fl (r::rs):=aaF rfl rfl
theorem Ej(d n:Nat)(fl nn:Bool)(rows:List (List AV)):Az (d+1) (Bj n fl nn rows)=true:=by
 cases rows with
 |nil=>cases nn<;>rfl
 |cons r rs=>rfl
theorem apX(n:Nat)(fl nn:Bool)(rows:List (List AV))(l:List AV):mU (Bj n fl nn rows::l)=false:=by
 cases rows with
 |nil=>cases nn<;>rfl
 |cons r rs=>rfl
theorem aeE(n:Nat)(fl nn:Bool)(rows:List (List AV)):AV.isCell (Bj n fl nn rows)=true:=by
 cases rows with
 |nil=>cases nn<;>rfl
 |cons r rs=>rfl
theorem afA(n:Nat)(fl nn:Bool)(rows:List (List AV)):AV.flat (Bj n fl nn rows)=false:=by
 cases rows with
 |nil=>cases nn<;>rfl
 |cons r rs=>rfl
theorem wN(n:Nat)(fl nn:Bool)(rows:List (List AV)):acells (Bj n fl nn rows)=[Bj n fl nn rows]:=by
 cases rows with
 |nil=>cases nn<;>rfl
 |cons r rs=>rfl
theorem dT{ty:TypeId}{n:Nat}(hs:SlT P ty n)(fl nn:Bool)(rows:List (List AV)):ln P ty (some (Bj n fl nn rows))=some (.ret (.int .i64 rows.length),[]):=by
 cases rows with
 |nil=>cases nn
       ·exact hU hs
       ·exact adG hs _ _ _
 |cons r rs=>exact adG hs _ _ _
theorem dE{ty:TypeId}{n:Nat}(hs:SlT P ty n)(fl nn:Bool)(rows:List (List AV))(k:IntKind)(i:Int):ia P ty (some (Bj n fl nn rows)) (some (.int k i))=if 0≤i then r1 ((rows[i.toNat]?).map .iptr)else none:=by
 cases rows with
 |nil=>
  cases nn
  ·obtain⟨e,h1,h2⟩:=hs
   simp[ia,Bj,Ky,h1,r1]
  ·exact ah8 hs _ _ _ _
 |cons r rs=>exact ah8 hs _ _ _ _
theorem Af{n:Int}(h1: -9223372036854775808≤n)(h2:n<9223372036854775808):IntKind.i64.wrap n=n:=by
 simp only[IntKind.wrap,IntKind.bits,IntKind.signed]
 simp
 omega
end
section
variable {P:Program} {O:Ez} {pr:Oe}
theorem asV{C:R→Prop}{n:Nat}{k:List Ai}{d:Option Nat}{op:Op}{cs:List CO}{b w:Bool}{t:List AV}{h:Aa}
 (h1:b=true→C (rcG O P n k d op cs (.bool true) w t h)) (h2:b=false→C (rcG O P n k d op cs (.bool false) w t h)):C (rcG O P n k d op cs (.bool b) w t h):=by
 cases b with
 |true=>exact h1 rfl
 |false=>exact h2 rfl
theorem atX{C:R→Prop}{n:Nat}{x y:Code}{k:List Ai}{g:Bool}{s:St}
 (h1:g=true→C (Cj O P n x k s)) (h2:g=false→C (Cj O P n y k s)):C (cdK O P n x y k (some (.bool g)) s):=by
 cases g with
 |true=>exact h1 rfl
 |false=>exact h2 rfl
def LpQ(O:Ez)(c:Code)(s:St)(Q:Ex→St→Prop):Prop:=∃e s',O.loop c s=some (e,s')∧Q e s'
def avI(O:Ez)(c:Code)(Q:Ex→St→Prop):R→Prop
 |some (.normal,s)=>LpQ O c s Q
 |some (e,s)=>Q e s
 |none=>False
theorem LpQ.of{c:Code}{s:St}{Q:Ex→St→Prop}(h:avI (om P pr) c Q (Cj (om P pr) P 5000 c [] s)):LpQ (om P pr) c s Q:=by
 cases hm:Cj (om P pr) P 5000 c [] s with
 |none=>rw[hm]at h;exact h.elim
 |some x=>
  obtain⟨e,s'⟩:=x
  rw[hm]at h
  cases e with
  |normal=>
   obtain⟨e,s'',h1,h2⟩:=h
   exact⟨e,s'',Vu hm h1,h2⟩
  |exit i=>exact⟨_,_,Hu hm (by simp),h⟩
  |ret=>exact⟨_,_,Hu hm (by simp),h⟩
  |pan v=>exact⟨_,_,Hu hm (by simp),h⟩
def FnE(P:Program)(q:Nat)(rs:List ResultVar)(Q:Dx→Aa→Prop)(x:R):Prop:=∃o h,fnK P q rs x=some (o,h)∧Q o h
def Rt(q:Nat)(vs:Option (List AV))(h:Aa)(Q:Dx→Aa→Prop):Prop:=∃o h',af9 q vs h=some (o,h')∧Q o h'
theorem ac6(q:Nat)(rs:List ResultVar)(Q:Dx→Aa→Prop)(t:List AV)(h:Aa):FnE P q rs Q (some (.ret,⟨t,h⟩))=Rt q (Rh P ⟨t,h⟩ rs) h Q:=aaF rfl rfl
theorem zO(q:Nat)(rs:List ResultVar)(Q:Dx→Aa→Prop)(t:List AV)(h:Aa):FnE P q rs Q (some (.normal,⟨t,h⟩))=Rt q (Rh P ⟨t,h⟩ rs) h Q:=aaF rfl rfl
def Rt1(q:Nat)(vs:Option (List AV))(h:Aa)(Q:Dx→Aa→Prop):Prop:=Rt q vs h Q
theorem atG(vs:List AV)(h:Aa)(Q:Dx→Aa→Prop):Rt 0 (some vs) h Q=if Az 8 (Qw vs)=true then Q (.ret (Qw vs)) []else Rt1 0 (some vs) h Q:=by
 split
 ·rename_i hv
  unfold Rt
  rw[aaN hv]
  exact propext ⟨fun⟨o,h',e,q⟩=>by cases e;exact q,fun q=>⟨_,_,rfl,q⟩⟩
 ·rfl
def Uu(O:Ez)(f:Nat)(args:List AV)(h:Aa)(Q:Dx→Aa→Prop):Prop:=∃o h',O.call (.fn f) args h=some (o,h')∧Q o h'
theorem Uu.start{f:Nat}{fn:Func}{c:Code}{args:List AV}{h:Aa}{Q:Dx→Aa→Prop}(hp:pr f=none)(hf:P.funcs[f]?=some fn)(hb:fn.body=some c)(hl:Nat.ble args.length fn.ntmps=true)
 (he:FnE P h.length fn.results.toList Q (Cj (om P pr) P 5000 c [] ⟨mk fn.ntmps (Dh args),h⟩)):Uu (om P pr) f args h Q:=by
 obtain⟨o,h',e,q⟩:=he
 exact⟨o,h',afT hp hf hb hl e,q⟩
theorem Uu.eq{f:Nat}{args:List AV}{h:Aa}{o:Dx}{h':Aa}(k:Uu O f args h fun o1 h1=>(o1,h1)=(o,h')):O.call (.fn f) args h=some (o,h'):=by
 obtain⟨o1,h1,e,q⟩:=k
 rw[e,q]
def afF(O:Ez)(g:HF)(base:Nat)(f:Sj)(args:List AV):Option Kr:=Du O g base f args
theorem aiH(g:HF)(base:Nat)(f:Sj)(args:List AV):Du O g base f args=if args.all (Az 8)=true then ac0 base (O.call f args [])else afF O g base f args:=by
 split
 ·rename_i h;exact eU h
 ·rfl
theorem ajD(d:Nat)(b:Bool):Az (d+1) (.bool b)=true:=aaF rfl rfl
theorem Uj(d:Nat)(k:IntKind)(n:Int):Az (d+1) (.int k n)=true:=aaF rfl rfl
theorem ak1(d:Nat):Az (d+1) .nils=true:=aaF rfl rfl
theorem ap7(d n:Nat)(fl:Bool)(rows:List (List AV)):Az (d+1) (.imm n fl rows)=true:=aaF rfl rfl
theorem ao1(d b r o:Nat):Az (d+1) (.ptr b r o)=false:=aaF rfl rfl
theorem ap2(d a b r o:Nat):Az (d+1) (.slr a b r o)=false:=aaF rfl rfl
theorem Nv(d:Nat)(cs:List AV):Az (d+1) (.agg cs)=cs.all (Az d):=aaF rfl rfl
theorem aoG(d:Nat)(cs:List AV):Az (d+1) (.tup cs)=cs.all (Az d):=aaF rfl rfl
theorem ak5(d:Nat)(fn:Fn)(a b:List AV):Az (d+1) (.func fn a b)=(a.all (Az d)&&b.all (Az d)):=aaF rfl rfl
theorem alJ(b:Bool):AV.isCell (.bool b)=true:=aaF rfl rfl
theorem aoY(k:IntKind)(n:Int):AV.isCell (.int k n)=true:=aaF rfl rfl
theorem akG:AV.isCell .nils=true:=aaF rfl rfl
theorem alX:AV.isCell .nilf=true:=aaF rfl rfl
theorem aoS(n:Nat)(fl:Bool)(rows:List (List AV)):AV.isCell (.imm n fl rows)=true:=aaF rfl rfl
theorem apD(a b r o:Nat):AV.isCell (.slr a b r o)=true:=aaF rfl rfl
theorem an8(b r o:Nat):AV.isCell (.ptr b r o)=true:=aaF rfl rfl
theorem akT(f:Fn)(a b:List AV):AV.isCell (.func f a b)=true:=aaF rfl rfl
theorem akE(b:Bool):AV.flat (.bool b)=true:=aaF rfl rfl
theorem ao7(k:IntKind)(n:Int):AV.flat (.int k n)=true:=aaF rfl rfl
theorem aj2:AV.flat .nils=false:=aaF rfl rfl
theorem amI:AV.flat .nilf=false:=aaF rfl rfl
theorem arX(n:Nat)(fl:Bool)(rows:List (List AV)):AV.flat (.imm n fl rows)=false:=aaF rfl rfl
theorem aqI(a b r o:Nat):AV.flat (.slr a b r o)=false:=aaF rfl rfl
theorem ao5(b r o:Nat):AV.flat (.ptr b r o)=false:=aaF rfl rfl
theorem alR(f:Fn)(a b:List AV):AV.flat (.func f a b)=false:=aaF rfl rfl
theorem aoI(cs:List AV):acells (.agg cs)=cs:=aaF rfl rfl
theorem arU(k:IntKind)(n:Int):acells (.int k n)=[.int k n]:=aaF rfl rfl
theorem akN:acells .nils=[.nils]:=aaF rfl rfl
theorem akI:acells .nilf=[.nilf]:=aaF rfl rfl
theorem apY(a b r o:Nat):acells (.slr a b r o)=[.slr a b r o]:=aaF rfl rfl
theorem apP(b r o:Nat):acells (.ptr b r o)=[.ptr b r o]:=aaF rfl rfl
theorem alG(f:Fn)(a b:List AV):acells (.func f a b)=[.func f a b]:=aaF rfl rfl
end
end Go.Ev
