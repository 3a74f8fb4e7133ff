/- The evaluator and its soundness. -/
import Derived.Test.YtcncggaobhbomaaGreatDoorLibE
import Derived.Sort.Grow
open List renaming filter_cons_of_pos→aaB,filter_cons_of_neg→aaM,mem_cons→abZ,pairwise_cons→aeN,getElem?_eq_some_iff→afO,mem_map→ag0,length_filter_le→ag2,foldl_cons→ag5,getElem?_map→aiJ
open Nat renaming le_refl→abV,le_trans→ab9,zero_le→acH,mul_le_mul_left→aeQ,le_of_lt→ae5,add_zero→afU,strongRecOn→ag1
open Option renaming map_eq_some_iff→afC
set_option linter.unusedSimpArgs false
set_option linter.unusedVariables false
namespace Go.Ev
structure Vd(S:Type) where
 goal:S→Bool
 ops:S→List (Nat × List S)
inductive iC{S:Type}(Y:Vd S):S→Nat→Prop
 |met {s:S} {k:Nat} (h:Y.goal s=true):iC Y s k
 |op {s:S} {c:Nat} {to:List S} {k k':Nat} (h:(c,to)∈Y.ops s) (ht:∀s'∈to,iC Y s' k') (hk:c+k'≤k):iC Y s k
namespace iC
variable {S:Type} {Y:Vd S}
theorem mono{s:S}{k j:Nat}(h:iC Y s k)(hj:k≤j):iC Y s j:=by
 cases h with
 |met h=>exact .met h
 |op h ht hk=>exact .op h ht (by omega)
theorem le_of_stable{L:List S}{f:S→Nat}{top:Nat}(hg:∀s∈L,Y.goal s=true→f s=0)
 (hs:∀s∈L,∀c to,(c,to)∈Y.ops s→(∀s'∈to,s'∈L)∧∀m,m<top→(∀s'∈to,f s'≤m)→f s≤c+m) {s:S} {k:Nat} (h:iC Y s k):s∈L→k<top→f s≤k:=by
 induction h with
 |met h=>intro hL _;rw[hg _ hL h];exact acH _
 | @op s c to k k' h ht hk ih=>
   intro hL hkt
   obtain⟨h1,h2⟩:=hs s hL c to h
   have:=h2 k' (by omega) fun s' h'=>ih s' h' (h1 s' h') (by omega)
   omega
end iC
theorem ac9{S:Type}[DecidableEq S]{L:List S}{f:S→Nat}{top b:Nat}(h:∀s∈L,f s<top→0<f s→∃s'∈L,f s'<f s∧f s≤b+f s'):∀n,∀s∈L,f s=n→n<top→n≤b*(L.filter fun s'=>decide (f s'<n)).length:=by
 intro n
 induction n using ag1 with
 |ind n ih=>
  intro s hs hf ht
  by_cases h0:0<n
  ·obtain⟨s',h1,h2,h3⟩:=h s hs (by omega) (by omega)
   have h4:=ih (f s') (by omega) s' h1 rfl (by omega)
   have h5:(L.filter fun x=>decide (f x<f s')).length+1≤(L.filter fun x=>decide (f x<n)).length:=by
    clear h4 ih h hs
    have gen:∀{M:List S},s'∈M→(M.filter fun x=>decide (f x<f s')).length+1≤(M.filter fun x=>decide (f x<n)).length:=fun {M}=>by
     have le:∀{M:List S},(M.filter fun x=>decide (f x<f s')).length≤(M.filter fun x=>decide (f x<n)).length:=fun {M}=>by
      induction M with
      |nil=>simp
      |cons a M ih=>
       by_cases e1:f a<f s'
       ·rw[aaB (by simpa using e1),aaB (by simp;omega)];simp;exact ih
       ·rw[aaM (by simpa using e1)]
        by_cases e2:f a<n
        ·rw[aaB (by simpa using e2)];simp;omega
        ·rw[aaM (by simpa using e2)];exact ih
     induction M with
     |nil=>intro h;cases h
     |cons a M ih=>
      intro hm
      rcases abZ.1 hm with rfl|hm
      ·rw[aaM (by simp),aaB (by simp;omega)]
       have:=le (M:=M)
       simp;omega
      ·have:=ih hm
       by_cases e1:f a<f s'
       ·rw[aaB (by simpa using e1),aaB (by simp;omega)];simp;exact this
       ·rw[aaM (by simpa using e1)]
        by_cases e2:f a<n
        ·rw[aaB (by simpa using e2)];simp;omega
        ·rw[aaM (by simpa using e2)];exact this
    exact gen h1
   have:b*((L.filter fun x=>decide (f x<f s')).length+1)≤b*(L.filter fun x=>decide (f x<n)).length:=aeQ b h5
   rw[Nat.mul_add,Nat.mul_one]at this
   omega
  ·have:n=0:=by omega
   subst this;exact acH _
theorem awZ{S:Type}[DecidableEq S]{L:List S}{f:S→Nat}{top b:Nat}(h:∀s∈L,f s<top→0<f s→∃s'∈L,f s'<f s∧f s≤b+f s'){s:S}(hs:s∈L)(ht:f s<top):f s≤b*L.length:=
 ab9 (ac9 h (f s) s hs rfl ht) (aeQ b (ag2 ..))
namespace Vd
variable {S:Type}
def mx(f:S→Nat)(l:List S):Nat:=l.foldl (fun m x=>max m (f x)) 0
theorem tI(f:S→Nat):∀(l:List S) (m:Nat),m≤l.foldl (fun m x=>max m (f x)) m∧(∀x∈l,f x≤l.foldl (fun m x=>max m (f x)) m)∧(l.foldl (fun m x=>max m (f x)) m=m∨∃x∈l,l.foldl (fun m x=>max m (f x)) m=f x)
 | [],m=>⟨abV _,by simp,.inl rfl⟩
 |a::l,m=>by
  obtain⟨h1,h2,h3⟩:=tI f l (max m (f a))
  simp only[ag5]
  refine⟨by omega,fun x hx=>?_,?_⟩
  ·rcases abZ.1 hx with rfl|hx
   ·omega
   ·exact h2 x hx
  ·rcases h3 with h3|⟨x,hx,h3⟩
   ·by_cases hm:m≤f a
    ·exact .inr ⟨a,by simp,by rw[h3];omega⟩
    ·exact .inl (by rw[h3];omega)
   ·exact .inr ⟨x,List.mem_cons_of_mem _ hx,h3⟩
theorem mx_le{f:S→Nat}{l:List S}{x:S}(h:x∈l):f x≤mx f l:=(tI f l 0).2.1 x h
theorem mx_lub{f:S→Nat}{l:List S}{m:Nat}(h:∀x∈l,f x≤m):mx f l≤m:=by
 rcases(tI f l 0).2.2 with e|⟨x,hx,e⟩
 ·unfold mx;rw[e];exact acH _
 ·unfold mx;rw[e];exact h x hx
theorem bkP{f:S→Nat}{l:List S}(h:l≠[]):∃x∈l,mx f l=f x:=by
 rcases(tI f l 0).2.2 with e|⟨x,hx,e⟩
 ·obtain⟨a,ha⟩:=List.exists_mem_of_ne_nil l h
  have:=mx_le (f:=f) ha
  unfold mx at this
  exact⟨a,ha,by unfold mx;omega⟩
 ·exact⟨x,hx,e⟩
theorem mx_mono{f g:S→Nat}{l:List S}(h:∀x∈l,g x≤f x):mx g l≤mx f l:=mx_lub fun x hx=>ab9 (h x hx) (mx_le hx)
variable [DecidableEq S] (Y:Vd S)
structure Known(top:Nat)(L:List S)(f:S→Nat):Prop where
 ops:∀s∈L,∀o∈Y.ops s,1≤o.1∧o.1≤1000∧o.2≠[]∧∀x∈o.2,x∈L
 le:∀s∈L,f s≤top
 goal:∀s∈L,Y.goal s=true→f s=0
 got:∀s∈L,f s<top→iC Y s (f s)
 by_:∀s∈L,f s<top→Y.goal s=true∨∃o∈Y.ops s,o.1+mx f o.2≤f s
variable {Y}
theorem Known.less{top:Nat}{L:List S}{f:S→Nat}(K:Y.Known top L f){s:S}{o:Nat × List S}(ho:o∈Y.ops s)(hs:s∈L){n:Nat}(hn:n=min top (o.1+mx f o.2))(hl:n<f s):Y.Known top L (fun x=>if x=s then n else f x):=by
 have hts:=K.le s hs
 have hnt:n<top:=by omega
 have hno:n=o.1+mx f o.2:=by omega
 have dn:∀x:S,(if x=s then n else f x)≤f x:=fun x=>by
  split
  ·rename_i e;subst e;omega
  ·exact abV _
 have hx:∀x∈o.2,f x<top:=fun x h=>by have:=mx_le (f:=f) h;omega
 refine⟨K.ops,fun x h=>ab9 (dn x) (K.le x h),fun x h hg=>?_,fun x h hlt=>?_,fun x h hlt=>?_⟩
 ·have:=K.goal x h hg
  have:=dn x
  omega
 ·by_cases e:x=s
  ·subst e
   simp only[if_true]
   refine .op (c:=o.1) (to:=o.2) ho (k':=mx f o.2) (fun y hy=>?_) (by omega)
   exact(K.got y ((K.ops _ hs o ho).2.2.2 y hy) (hx y hy)).mono (mx_le hy)
  ·simp only[if_neg e]at hlt ⊢
   exact K.got x h hlt
 ·by_cases e:x=s
  ·subst e
   simp only[if_true]
   exact .inr ⟨o,ho,by have:=mx_mono (f:=f) (l:=o.2) fun y _=>dn y;omega⟩
  ·simp only[if_neg e]at hlt ⊢
   rcases K.by_ x h hlt with hg|⟨p,hp,hle⟩
   ·exact .inl hg
   ·exact .inr ⟨p,hp,by have:=mx_mono (f:=f) (l:=p.2) fun y _=>dn y;omega⟩
theorem Known.best{top:Nat}{L:List S}{f:S→Nat}(K:Y.Known top L f)(st:∀s∈L,∀o∈Y.ops s,f s≤min top (o.1+mx f o.2)){s:S}(hs:s∈L):
 (∀k,k<top→iC Y s k→f s≤k)∧(f s<top→iC Y s (f s)∧f s≤1000*L.length)∧(f s=0→0<top→Y.goal s=true):=by
 refine⟨fun k hk hc=>iC.le_of_stable K.goal (fun s hs c to ho=>⟨(K.ops s hs _ ho).2.2.2,fun m hm h=>?_⟩) hc hs hk,fun h=>⟨K.got s hs h,awZ (f:=f) (top:=top) (fun s hs hlt h0=>?_) hs h⟩,fun h0 ht=>?_⟩
 ·have h1:=st s hs _ ho
  have h2:=mx_lub (f:=f) h
  simp only at h1
  omega
 ·rcases K.by_ s hs hlt with hg|⟨o,ho,hle⟩
  ·have:=K.goal s hs hg;omega
  ·have h1:=st s hs o ho
   obtain⟨a1,a2,a3,a4⟩:=K.ops s hs o ho
   obtain⟨x,hx,e⟩:=bkP (f:=f) a3
   exact⟨x,a4 x hx,by omega,by omega⟩
 ·rcases K.by_ s hs (by omega)with hg|⟨o,ho,hle⟩
  ·exact hg
  ·have:=(K.ops s hs o ho).1;omega
end Vd
end Go.Ev
namespace Go.Ev
theorem acQ{P:Nat→Prop}(h:∃k,P k):∃k,P k∧∀j,P j→k≤j:=by
 obtain⟨k,hk⟩:=h
 induction k using ag1 with
 |ind k ih=>
  by_cases c:∃j,j<k∧P j
  ·obtain⟨j,h1,h2⟩:=c;exact ih j h1 h2
  ·exact⟨k,hk,fun j hj=>by
    by_cases e:j<k
    ·exact absurd ⟨j,e,hj⟩ c
    ·omega⟩
namespace Vd
variable {S:Type} (Y:Vd S)
noncomputable def bst(top:Nat)(s:S):Nat:=@dite Nat (∃k,iC Y s k) (Classical.propDecidable _) (fun h=>Classical.choose (acQ h)) fun _=>top
variable {Y}
theorem bst_can{top:Nat}{s:S}(h:∃k,iC Y s k):iC Y s (Y.bst top s)∧∀k,iC Y s k→Y.bst top s≤k:=by
 unfold bst;rw[dif_pos h];exact Classical.choose_spec (acQ h)
theorem bst_none{top:Nat}{s:S}(h:¬∃k,iC Y s k):Y.bst top s=top:=by
 unfold bst;rw[dif_neg h]
theorem bst_goal{top:Nat}{s:S}(h:Y.goal s=true):Y.bst top s=0:=by
 have:=(bst_can (top:=top) ⟨0,.met h⟩).2 0 (.met h);omega
structure Fine(Y:Vd S)(top:Nat)(s:S):Prop where
 lt:(∃k,iC Y s k)→Y.bst top s<top
theorem Known.fin[DecidableEq S]{top:Nat}{L:List S}{f:S→Nat}(K:Y.Known top L f)(st:∀s∈L,∀o∈Y.ops s,f s≤min top (o.1+mx f o.2))(hb:1000*L.length+1000<top){s:S}{k:Nat}(h:iC Y s k):s∈L→f s<top:=by
 induction h with
 |met h=>intro hL;rw[K.goal _ hL h];omega
 | @op s c to k k' h ht hk ih=>
   intro hL
   obtain⟨a1,a2,a3,a4⟩:=K.ops s hL _ h
   have hm:mx f to≤1000*L.length:=mx_lub fun x hx=>((K.best st (a4 x hx)).2.1 (ih x hx (a4 x hx))).2
   have:=st s hL _ h
   simp only at this a2
   omega
theorem Known.bst[DecidableEq S]{top:Nat}{L:List S}{f:S→Nat}(K:Y.Known top L f)(st:∀s∈L,∀o∈Y.ops s,f s≤min top (o.1+mx f o.2))(hb:1000*L.length+1000<top){s:S}(hs:s∈L):f s=Y.bst top s∧((∃k,iC Y s k)→f s<top):=by
 by_cases h:∃k,iC Y s k
 ·obtain⟨k,hk⟩:=h
  have hf:=K.fin st hb hk hs
  obtain⟨b1,b2⟩:=bst_can (top:=top) ⟨k,hk⟩
  obtain⟨c1,c2,c3⟩:=K.best st hs
  have d1:=b2 _ (c2 hf).1
  have d2:=c1 (Y.bst top s) (by omega) b1
  exact⟨by omega,fun _=>hf⟩
 ·refine⟨?_,fun h'=>absurd h' h⟩
  rw[bst_none h]
  by_cases e:f s<top
  ·exact absurd ⟨_,K.got s hs e⟩ h
  ·have:=K.le s hs;omega
theorem bst_le{top:Nat}{s:S}(hs:Y.Fine top s){c:Nat}{to:List S}(h:(c,to)∈Y.ops s):Y.bst top s≤min top (c+mx (Y.bst top) to):=by
 have h1:Y.bst top s≤top:=by
  by_cases e:∃k,iC Y s k
  ·exact ae5 (hs.lt e)
  ·rw[bst_none e];exact abV _
 by_cases a:∀x∈to,∃k,iC Y x k
 ·have hc:iC Y s (c+mx (Y.bst top) to):=.op h (fun x hx=>(bst_can (a x hx)).1.mono (mx_le hx)) (abV _)
  have:=(bst_can (top:=top) ⟨_,hc⟩).2 _ hc
  omega
 ·obtain⟨x,hx⟩:=Classical.not_forall.1 a
  obtain⟨hx,hn⟩:=Classical.not_imp.1 hx
  have h2:=mx_le (f:=Y.bst top) hx
  rw[bst_none hn]at h2
  omega
theorem bst_op{top:Nat}{s:S}(hs:Y.Fine top s)(h:Y.bst top s<top)(hg:Y.goal s=false)(h1:∀o∈Y.ops s,1≤o.1):∃o∈Y.ops s,Y.bst top s=min top (o.1+mx (Y.bst top) o.2)∧∀x∈o.2,(∃k,iC Y x k)∧Y.bst top x<Y.bst top s:=by
 have e:∃k,iC Y s k:=Classical.byContradiction fun n=>by rw[bst_none n]at h;omega
 have hc:=(bst_can (top:=top) e).1
 generalize hb:Y.bst top s=b at *
 cases hc with
 |met h=>rw[hg]at h;cases h
 | @op _ c to _ k' ho ht hk=>
   have hx:∀x∈to,Y.bst top x≤k':=fun x hx=>(bst_can ⟨_,ht x hx⟩).2 _ (ht x hx)
   have hm:mx (Y.bst top) to≤k':=mx_lub hx
   have h3:=bst_le hs ho
   rw[hb]at h3
   have h4:=h1 _ ho
   exact⟨(c,to),ho,by simp only;omega,fun x hx'=>⟨⟨_,ht x hx'⟩,by have:=hx x hx';simp only at h4;omega⟩⟩
theorem bst_pos{top:Nat}{s:S}(hs:Y.Fine top s)(ht:0<top)(h1:∀o∈Y.ops s,1≤o.1):Y.bst top s=0↔Y.goal s=true:=by
 constructor
 ·intro h
  cases hg:Y.goal s with
  |true=>rfl
  |false=>
   obtain⟨o,ho,e,_⟩:=bst_op hs (by omega) hg h1
   have:=h1 o ho
   omega
 ·exact bst_goal
theorem _root_.Go.Ev.iC.sim{T:Type}{Z:Vd T}(R:S→T→Prop)(hg:∀s t,R s t→Y.goal s=true→Z.goal t=true)(ho:∀s t,R s t→∀o∈Y.ops s,∃p∈Z.ops t,p.1≤o.1∧∀y∈p.2,∃x∈o.2,R x y){s:S}{k:Nat}(h:iC Y s k):∀t,R s t→iC Z t k:=by
 induction h with
 |met h=>intro t r;exact .met (hg _ _ r h)
 | @op s c to k k' h ht hk ih=>
   intro t r
   obtain⟨p,hp,h1,h2⟩:=ho _ _ r _ h
   exact .op (c:=p.1) (to:=p.2) hp (k':=k') (fun y hy=>by
    obtain⟨x,hx,rr⟩:=h2 y hy
    exact ih x hx y rr) (by simp only at h1;omega)
end Vd
end Go.Ev
namespace Go.Ev
namespace Snake
theorem nodup_sub{α:Type}[DecidableEq α]:∀{l m:List α},l.Nodup→(∀x∈l,x∈m)→l.length≤m.length
 | [],_,_,_=>acH _
 |a::l,m,hn,hs=>by
  have hn':=List.nodup_cons.1 hn
  have h1:=nodup_sub (l:=l) (m:=m.erase a) hn'.2 fun x hx=>(List.mem_erase_of_ne (fun e=>hn'.1 (by rw[←e];exact hx))).2 (hs x (by simp[hx]))
  rw[List.length_erase_of_mem (hs a (by simp))]at h1
  have:=List.length_pos_of_mem (hs a (by simp))
  simp;omega
end Snake
end Go.Ev
namespace Go.Ev
namespace Vd
variable {S:Type}
def fin(top:Nat)(f:S→Nat)(L:List S):Nat:=(L.filter fun x=>decide (f x<top)).length
theorem ahT{top:Nat}{f g:S→Nat}(h:∀x,f x<top→g x<top):∀L:List S,fin top f L≤fin top g L
 | []=>abV _
 |a::L=>by
  have ih:=ahT h L
  unfold fin at ih ⊢
  by_cases e:f a<top
  ·rw[aaB (by simpa using e),aaB (by simpa using h a e)]
   simp;exact ih
  ·rw[aaM (by simpa using e)]
   by_cases e2:g a<top
   ·rw[aaB (by simpa using e2)];simp;omega
   ·rw[aaM (by simpa using e2)];exact ih
theorem auV{top:Nat}{f g:S→Nat}(h:∀x,f x<top→g x<top){s:S}(hf:¬f s<top)(hg:g s<top):∀{L:List S},s∈L→fin top f L+1≤fin top g L
 |a::L,hm=>by
  have h0:=ahT h L
  unfold fin at h0 ⊢
  rcases abZ.1 hm with rfl|hm
  ·rw[aaM (by simpa using hf),aaB (by simpa using hg)]
   simp;exact h0
  ·have ih:=auV h hf hg hm
   unfold fin at ih
   by_cases e:f a<top
   ·rw[aaB (by simpa using e),aaB (by simpa using h a e)]
    simp;exact ih
   ·rw[aaM (by simpa using e)]
    by_cases e2:g a<top
    ·rw[aaB (by simpa using e2)];simp;omega
    ·rw[aaM (by simpa using e2)];exact ih
theorem aB1(top:Nat)(f:S→Nat)(L:List S):fin top f L≤L.length:=ag2 ..
structure Kno(Y:Vd S)(top:Nat)(L:List S)(f:S→Nat):Prop where
 known:Y.Known top L f
 bd:∀s∈L,f s<top→f s≤1000*fin top f L
theorem Kno.le{Y:Vd S}{top:Nat}{L:List S}{f:S→Nat}(K:Kno Y top L f){s:S}(hs:s∈L)(h:f s<top):f s≤1000*L.length:=
 ab9 (K.bd s hs h) (aeQ _ (aB1 ..))
structure OkS(Y:Vd S)(top:Nat)(L:List S)(p p':(S→Nat) × Bool)(Stb:(S→Nat)→Prop):Prop where
 inv:Kno Y top L p'.1
 le:(L.map p'.1).sum≤(L.map p.1).sum
 ch:p'.2=true→p.2=true∨(L.map p'.1).sum<(L.map p.1).sum
 st:p'.2=false→p'=p∧Stb p.1
theorem OkS.same{Y:Vd S}{top:Nat}{L:List S}{p:(S→Nat) × Bool}{Stb:(S→Nat)→Prop}(K:Kno Y top L p.1)(h:Stb p.1):OkS Y top L p p Stb:=⟨K,abV _,.inl,fun _=>⟨rfl,h⟩⟩
theorem OkS.fold{Y:Vd S}{top:Nat}{L:List S}{X:Type}{g:(S→Nat) × Bool→X→(S→Nat) × Bool}{Stb:X→(S→Nat)→Prop}:∀(r:List X),(∀x∈r,∀p:(S→Nat) × Bool,Kno Y top L p.1→OkS Y top L p (g p x) (Stb x))→∀p:(S→Nat) × Bool,Kno Y top L p.1→OkS Y top L p (r.foldl g p) fun f=>∀x∈r,Stb x f
 | [],_,p,K=>.same K (by simp)
 |x::r,h,p,K=>by
  have A:=h x (by simp) p K
  have B:=OkS.fold r (fun y hy=>h y (by simp[hy])) (g p x) A.inv
  rw[ag5]
  refine⟨B.inv,ab9 B.le A.le,fun e=>?_,fun e=>?_⟩
  ·rcases B.ch e with e|e
   ·rcases A.ch e with e|e
    ·exact .inl e
    ·exact .inr (Nat.lt_of_le_of_lt B.le e)
   ·exact .inr (Nat.lt_of_lt_of_le e A.le)
  ·obtain⟨b1,b2⟩:=B.st e
   rw[b1]at e
   obtain⟨a1,a2⟩:=A.st e
   rw[a1]at b1 b2
   refine⟨by rw[a1];exact b1,fun y hy=>?_⟩
   rcases abZ.1 hy with rfl|hy
   ·exact a2
   ·exact b2 y hy
variable [DecidableEq S]
theorem tM{f:S→Nat}{x:S}{n:Nat}(h:n≤f x):∀L:List S,(L.map fun y=>if y=x then n else f y).sum≤(L.map f).sum
 | []=>abV _
 |y::L=>by
  have:=tM h L
  simp only[List.map_cons,List.sum_cons]
  split
  ·rename_i e;subst e;omega
  ·omega
theorem yQ{f:S→Nat}{x:S}{n:Nat}(h:n<f x):∀{L:List S},x∈L→(L.map fun y=>if y=x then n else f y).sum<(L.map f).sum
 |y::L,hm=>by
  have h0:=tM (f:=f) (ae5 h) L
  simp only[List.map_cons,List.sum_cons]
  by_cases e:y=x
  ·subst e;rw[if_pos rfl];omega
  ·rw[if_neg e]
   rcases abZ.1 hm with e'|hm
   ·exact absurd e'.symm e
   ·have:=yQ h hm;omega
def stepO(top:Nat)(p:(S→Nat) × Bool)(s:S)(o:Nat × List S):(S→Nat) × Bool:=if min top (o.1+mx p.1 o.2)<p.1 s then(fun x=>if x=s then min top (o.1+mx p.1 o.2)else p.1 x,true)else p
theorem stepO_ok{Y:Vd S}{top:Nat}{L:List S}{s:S}(hs:s∈L){o:Nat × List S}(ho:o∈Y.ops s)(p:(S→Nat) × Bool)(K:Kno Y top L p.1):OkS Y top L p (stepO top p s o) fun f=>f s≤min top (o.1+mx f o.2):=by
 unfold stepO
 split
 ·rename_i h
  have hle:=K.known.le s hs
  obtain⟨a1,a2,a3,a4⟩:=K.known.ops s hs o ho
  have hmf:∀x∈o.2,p.1 x<top:=fun x hx=>by have:=mx_le (f:=p.1) hx;omega
  have hmb:mx p.1 o.2≤1000*fin top p.1 L:=mx_lub fun x hx=>K.bd x (a4 x hx) (hmf x hx)
  have hmono:∀x,p.1 x<top→(if x=s then min top (o.1+mx p.1 o.2)else p.1 x)<top:=fun x hx=>by
   split
   ·omega
   ·exact hx
  have hf:=ahT hmono L
  refine⟨⟨K.known.less ho hs rfl h,fun x hx hlt=>?_⟩,tM (ae5 h) L,fun _=>.inr (yQ h hs),fun e=>by cases e⟩
  show(if x=s then min top (o.1+mx p.1 o.2)else p.1 x)≤1000*fin top (fun x=>if x=s then min top (o.1+mx p.1 o.2)else p.1 x) L
  simp only at hlt
  by_cases e:x=s
  ·subst e
   rw[if_pos rfl]
   by_cases c:p.1 x<top
   ·have:=K.bd x hx c;omega
   ·have:=auV hmono c (by rw[if_pos rfl];omega) hx;omega
  ·rw[if_neg e]at hlt ⊢
   have:=K.bd x hx hlt;omega
 ·rename_i h
  exact .same K (by omega)
end Vd
end Go.Ev
namespace Go.Ev
namespace Bfs
variable {V:Type}
end Bfs
end Go.Ev
namespace Go.Ev
namespace Bfs
variable {A V:Type} {lt:A→A→Prop}
end Bfs
end Go.Ev
namespace Go.Ev
namespace Bfs
end Bfs
end Go.Ev
namespace Go.Ev
noncomputable section
open Go.RowKit
def aiR(x:Int):List Int→List Int
 | []=>[x]
 |y::l=>if x≤y then x::y::l else y::aiR x l
def uY:List Int→List Int
 | []=>[]
 |x::l=>aiR x (uY l)
theorem rA(x:Int):∀l:List Int,(aiR x l).Perm (x::l)
 | []=>List.Perm.refl _
 |y::l=>by
  unfold aiR
  split
  ·exact List.Perm.refl _
  ·exact((rA x l).cons y).trans (List.Perm.swap x y l)
theorem lY:∀l:List Int,(uY l).Perm l
 | []=>List.Perm.refl _
 |x::l=>(rA x _).trans ((lY l).cons x)
theorem rF(x:Int):∀{l:List Int},l.Pairwise (· ≤·)→(aiR x l).Pairwise (· ≤·)
 | [],_=>by simp[aiR]
 |y::l,h=>by
  rw[aeN]at h
  unfold aiR
  split
  ·rename_i hxy
   refine aeN.2 ⟨fun z hz=>?_,aeN.2 h⟩
   rcases abZ.1 hz with rfl|hz
   ·exact hxy
   ·exact Int.le_trans hxy (h.1 z hz)
  ·rename_i hxy
   refine aeN.2 ⟨fun z hz=>?_,rF x h.2⟩
   rcases abZ.1 ((rA x l).mem_iff.1 hz)with rfl|hz
   ·omega
   ·exact h.1 z hz
theorem pD:∀l:List Int,(uY l).Pairwise (· ≤·)
 | []=>List.Pairwise.nil
 |x::l=>rF x (pD l)
theorem ap9(l:List Int):(l.mergeSort fun x y=>decide (x≤y))=uY l:=by
 have h1:=List.pairwise_mergeSort (le:=fun x y:Int=>decide (x≤y)) (by simp;omega) (by simp;omega) l
 refine List.Perm.eq_of_pairwise (le:=(· ≤·)) (fun a b _ _ h1 h2=>Int.le_antisymm h1 h2) ?_ (pD l) ((List.mergeSort_perm l _).trans (lY l).symm)
 simpa using h1
theorem an7(l:List Int):(uY l).length=l.length:=(lY l).length_eq
def uZ:List (List AV)→Option (List Int)
 | []=>some []
 | [.int .i64 n]::l=>(uZ l).map (n::·)
 |_=>none
theorem zM:∀{rows:List (List AV)} {l:List Int},uZ rows=some l→rows=l.map fun n=>[.int .i64 n]
 | [],l,h=>by simp[uZ]at h;subst h;rfl
 |r::rows,l,h=>by
  unfold uZ at h
  split at h
  ·rename_i e;cases e
  ·rename_i n l' e
   cases e
   obtain⟨l2,h2,rfl⟩:=afC.1 h
   rw[zM h2];rfl
  ·cases h
def ajJ:List AV→Qa→Option (Tz × Qa)
 | [.slr 1 b 0 len],h=>match h[b]? with
   |some (.live 1 true _ rows)=>if rows.length=len∧1≤len∧len≤549755813888 then(uZ rows).map fun zs=>(.ret (.tup []),h.set b (.live 1 true true ((uY zs).map fun n=>[.int .i64 n])))else none
   |_=>none
 |_,_=>none
section
variable {P:Program} {G:Nat→Option Obj}
theorem yK{w:World}{cb:Nat}{c:Array Value}{e:TypeId}{fz:Nat × Nat}(hk:w.heap[cb]?=some (.cells c e fz))(f:Array Value→Array Value):Go.Sort.mapBlock w cb f=setB w cb (.cells (f c) e fz):=by
 unfold Go.Sort.mapBlock setB
 congr 1
 apply Array.ext_getElem?
 intro k
 simp only[Array.getElem?_modify,Array.getElem?_setIfInBounds]
 by_cases h:cb=k
 ·subst h
  have hl:=(Array.getElem?_eq_some_iff.1 hk).1
  rw[if_pos rfl,if_pos rfl,if_pos hl,hk];rfl
 ·rw[if_neg h,if_neg h]
theorem acI(w:World)(n:Nat):Below w.heap.size w (Go.Sort.ahead w n) where
 os:=rfl
 tape:=rfl
 output:=rfl
 size:=abV _
 block:=fun _ _=>rfl
theorem aM7{f:Nat}(hen:∀args w,(callFunc f args).run P w=.ok (.enter f args) w)
 (hc:∀(blk off cap:Nat) (zs:List Int) (w:World),Go.Sort.Holds (Value.int .i64) w blk off zs.toArray→blk<w.heap.size→zs.length<4611686018427387904→
   Calls P f #[.slice (some ⟨blk,off,none⟩) zs.length cap] w fun e w'=>e=.returned (.tuple #[])∧∃n os,w'=Go.Sort.grow (Go.Sort.putRow (Value.int .i64) (Go.Sort.ahead w n) blk off (zs.mergeSort fun x y=>decide (x≤y)).toArray) os):qD P G f ajJ:=by
 intro args h out h' hp
 refine⟨hen,fun w S ρ cargs hI H dom all hargs=>?_⟩
 unfold ajJ at hp
 split at hp
 ·rename_i b len
  split at hp
  ·rename_i wr rows hg
   split at hp
   ·rename_i hl
    obtain⟨hl1,hl2,hl3⟩:=hl
    obtain⟨zs,hz,hp⟩:=afC.1 hp
    simp only[Prod.mk.injEq]at hp
    obtain⟨rfl,rfl⟩:=hp
    have hrows:=zM hz
    have hzl:zs.length=len:=by rw[←hl1,hrows];simp
    obtain⟨v,vs',e,hv,hn⟩:=hargs.cons_inv
    have:=hn.nil_inv
    subst this
    have ec:cargs=#[v]:=by apply Array.toList_inj.1;rw[e]
    subst ec
    have hbl:b<h.length:=(afO.1 hg).1
    cases hv with
    |slrD hρ _=>have:=H.dead b hρ;rw[show hf h b=some _ from hg]at this;cases this
    | @slr _ _ _ _ cb co _ sz cap a hρ hle ha=>
      obtain⟨c,e',fz,fl',rows',k1,k2,k3,k4⟩:=H.at_ b cb co 1 sz hρ
      rcases k4 with⟨⟨wr',k4⟩,hS,hfz⟩|⟨k4,_⟩
      ·rw[show hf h b=some _ from hg]at k4
       cases k4
       rcases ha with ha|⟨rfl,hcap⟩
       ·omega
       have hco:co+len≤c.size:=by have:=k3.len;rw[hl1]at this;omega
       have hold:Go.Sort.Holds (Value.int .i64) w cb (co+0*1) zs.toArray:=fun j hj=>by
        have hj':j<zs.length:=by simpa using hj
        have hr:rows[j]?=some [AV.int .i64 zs[j]]:=by rw[hrows,aiJ,List.getElem?_eq_getElem hj'];rfl
        obtain⟨v,h1,h2⟩:=k3.cell j _ 0 _ hr rfl
        cases h2
        have hlt:co+j<c.size:=by omega
        refine⟨?_,aaC k1 (hfz _ (by rw[←k2];omega))⟩
        rw[pI k1]
        simp only[Nat.zero_mul,afU]
        have h1':c[co+j]?=some (Value.int .i64 zs[j]):=by simpa using h1
        rw[h1']
        simp[getElem!_pos,hj']
       rw[←hzl]
       refine(hc cb (co+0*1) cap zs w hold (H.lt hρ) (by omega)).mono fun e w' hw=>?_
       obtain⟨rfl,n,os,rfl⟩:=hw
       rw[ap9]
       have hB1:=acI w n
       have H1:=H.below hB1
       have k1':(Go.Sort.ahead w n).heap[cb]?=some (.cells c e' fz):=k1
       have hsl:=an7 zs
       generalize uY zs=ys at *
       have hput:Go.Sort.putRow (Value.int .i64) (Go.Sort.ahead w n) cb (co+0*1) ys.toArray=setB (Go.Sort.ahead w n) cb (.cells (Go.Sort.putCells (Value.int .i64) (co+0*1) ys.toArray c) e' fz):=yK k1' _
       rw[hput]
       have hcs:(Go.Sort.putCells (Value.int .i64) (co+0*1) ys.toArray c).size=c.size:=by simp[Go.Sort.putCells]
       have hblk:Uc (Go.Sort.ahead w n) S ρ (Go.Sort.putCells (Value.int .i64) (co+0*1) ys.toArray c) co 1 true (ys.map fun n=>[.int .i64 n]):=by
        refine⟨by rw[hcs];simp;omega,fun r hr=>?_,fun _ r hr x hx=>?_,fun i r j x hr hx=>?_,fun r hr x hx=>?_⟩
        ·obtain⟨n,_,rfl⟩:=ag0.1 hr;rfl
        ·obtain⟨n,_,rfl⟩:=ag0.1 hr;simp at hx;subst hx;rfl
        ·rw[aiJ]at hr
         obtain⟨m,hm,rfl⟩:=afC.1 hr
         have hi:i<ys.length:=(afO.1 hm).1
         have hx':j=0∧x=.int .i64 m:=by
          cases j with
          |zero=>simp at hx;exact⟨rfl,hx.symm⟩
          |succ j=>simp at hx
         obtain⟨rfl,rfl⟩:=hx'
         refine⟨.int .i64 m,?_,.int _ _⟩
         simp only[Go.Sort.putCells,Array.getElem?_mapIdx,Nat.mul_one,afU,Nat.zero_mul,afU]
         rw[Array.getElem?_eq_getElem (by omega),Option.map_some,if_pos ⟨by omega,by simp;omega⟩,show co+i-co=i by omega]
         have:ys[i]?=some m:=hm
         have h2:=afO.1 hm
         simp[getElem!_pos,h2.1,h2.2]
        ·obtain⟨n,_,rfl⟩:=ag0.1 hr;simp at hx;subst hx;rfl
       have H2:=H1.setLive (wr:=true) hρ hS (e:=e') (fz:=fz) (by rw[hcs];exact k2) hfz ⟨_,_,_,k1'⟩ hblk
       have hs2:=Ug.setB (w:=Go.Sort.ahead w n) hρ hS ⟨_,_,_,k1'⟩ (.cells (Go.Sort.putCells (Value.int .i64) (co+0*1) ys.toArray c) e' fz)
       generalize hw2:setB (Go.Sort.ahead w n) cb (.cells (Go.Sort.putCells (Value.int .i64) (co+0*1) ys.toArray c) e' fz)=w2 at *
       have hB3:=wC (w:=w2) (abV _) os
       have H3:=H2.below hB3
       refine⟨.tuple #[],S,ρ,⟨⟨_,rfl⟩,rfl⟩,.tup rfl (fun i x v hx _=>by simp at hx),by rw[ahP hbl];exact H3,((Ug.below H hB1).trans hs2).trans (Ug.below H2 hB3),fun b' hb'=>dom b' (by simpa using hb'),fun b' hb'=>all b' (by simpa using hb'),by simp,fun i x x' hx hx' hsm=>?_⟩
       by_cases e:i=b
       ·subst e
        rw[hg]at hx;cases hx
        rw[List.getElem?_set_self hbl]at hx';cases hx'
        simp[CB.same]at hsm
       ·refine⟨rfl,fun cb' co' st' sz' hb'=>?_⟩
        have hne:cb'≠cb:=fun q=>e (H.inj _ _ _ _ _ _ _ _ _ hb' (q▸hρ))
        have hl':cb'<w.heap.size:=H.lt hb'
        have hw2s:w2.heap.size=w.heap.size:=by rw[←hw2];simp[setB,Go.Sort.ahead]
        rw[hB3.block cb' (by rw[hw2s];exact hl'),←hw2,Qn hne]
        rfl
      ·rw[show hf h b=some _ from hg]at k4;cases k4
   ·cases hp
  ·cases hp
 ·cases hp
end
def aaW(fI fJ fS:Nat)(md:Nat→Bool):aW:={ at_:=fun f=>if f=fI then some akF else if f=fJ then some acU else none,md:=md,sh:=fun f=>if f=fS then some ajJ else none }
theorem apB{P:Program}{G:Nat→Option Obj}{fI fJ fS:Nat}{md:Nat→Bool}(hI:qD P G fI akF)(hJ:qD P G fJ acU)(hS:qD P G fS ajJ):aa0 P G (aaW fI fJ fS md):=by
 refine⟨fun f p hp=>?_,fun f p hp=>?_⟩
 ·simp only[aaW]at hp
  split at hp
  ·rename_i e;subst e;cases hp;exact hI
  ·split at hp
   ·rename_i e;subst e;cases hp;exact hJ
   ·cases hp
 ·simp only[aaW]at hp
  split at hp
  ·rename_i e;subst e;cases hp;exact hS
  ·cases hp
end
end Go.Ev
