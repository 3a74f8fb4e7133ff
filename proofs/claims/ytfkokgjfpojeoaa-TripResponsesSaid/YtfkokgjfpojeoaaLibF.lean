/- The evaluator and its soundness. -/
import Derived.Test.YtfkokgjfpojeoaaLibE
import Derived.Sort.Grow
open Nat renaming le_refl→acL,add_zero→aAO,max_eq_right→aEO,max_eq_left→aER
open List renaming mem_cons→acR,mem_map→acZ,pairwise_cons→aqD,getElem?_eq_some_iff→aAN,nodup_nil→aAP,nodup_append→aCF,mem_append→aC6,foldl_cons→aC7,mem_filter→aE9,getElem?_map→aG6
open Option renaming map_eq_some_iff→aAM
set_option linter.unusedSimpArgs false
set_option linter.unusedVariables false
namespace Go.Ev
namespace Bfs
theorem bm4{V:Type}{safe:V→Bool}{sc:V→V→Prop}{P:V→Prop}(hP:∀v w,P v→sc v w→P w){D:List V}(hD:∀v,P v→v∈D){v:V}{N:Nat}(hv:P v)(h1:Rn safe sc v N)(h2:¬Rn safe sc v (N+1)):N≤D.length:=by
 let Q:V→Prop:=fun w=>P w∧¬Rn safe sc w (N+1)
 have down:∀(d j:Nat),j+d=N→1≤j→∃v,P v∧Rn safe sc v j∧¬Rn safe sc v (j+1):=by
  intro d
  induction d with
  |zero=>
   intro j hj _
   obtain rfl:j=N:=by omega
   exact⟨v,hv,h1,h2⟩
  |succ d ih=>
   intro j hj h1
   obtain⟨v,v1,v2,v3⟩:=ih (j+1) (by omega) (by omega)
   rcases v2.2 with e|⟨w,w1,w2⟩
   ·omega
   ·exact⟨w,hP v w v1 w1,w2,fun hw=>v3 (Rn.step v2.1 w1 hw)⟩
 have ex:∀n,n≤N→∃l:List V,l.length=n∧l.Nodup∧(∀v∈l,P v∧∃j,N-n<j∧j≤N∧Rn safe sc v j∧¬Rn safe sc v (j+1)):=by
  intro n
  induction n with
  |zero=>intro _;exact⟨[],rfl,aAP,by simp⟩
  |succ n ih=>
   intro hn
   obtain⟨l,l1,l2,l3⟩:=ih (by omega)
   obtain⟨v,v1,v2,v3⟩:=down n (N-n) (by omega) (by omega)
   refine⟨v::l,by simp[l1],List.nodup_cons.2 ⟨fun hv=>?_,l2⟩,fun u hu=>?_⟩
   ·obtain⟨_,j,j1,_,j3,_⟩:=l3 v hv
    exact v3 (j3.le (by omega))
   ·rcases acR.1 hu with rfl|hu
    ·exact⟨v1,N-n,by omega,by omega,v2,v3⟩
    ·obtain⟨u1,j,j1,j2,j3⟩:=l3 u hu
     exact⟨u1,j,by omega,j2,j3⟩
 obtain⟨l,l1,l2,l3⟩:=ex N (acL _)
 rw[←l1]
 exact nI l2 fun v hv=>hD v (l3 v hv).1
variable {V A:Type} [DecidableEq V] {safe:V→Bool} {sc:V→V→Prop}
structure DS(V:Type) where
 W:List V
 val:V→Int
 e:Bool
def DS.put(s:DS V)(v:V)(x:Int):DS V:=⟨if v∈s.W then s.W else s.W++[v],fun y=>if y=v then x else s.val y,s.e⟩
def dfs{V A:Type}[DecidableEq V](safe:V→Bool)(inc:Int→Int)(dng:A→Bool)(stp:V→A→V)(sg:List A):Nat→V→DS V→Int × DS V
 |0,_,s=>(0,s)
 |f+1,v,s=>if safe v=true then(0,s)else if v∈s.W then(s.val v,{ s with e:=s.e||decide (s.val v<0) })else
  let r:=sg.foldl (fun(r:Int × DS V) a=>if dng a=true∧r.2.e=false then let q:=dfs safe inc dng stp sg f (stp v a) r.2;(max r.1 q.1,q.2)else r) (0,s.put v (-1))
  (inc r.1,r.2.put v (inc r.1))
structure DOk(safe:V→Bool)(sc:V→V→Prop)(P:V→Prop)(gray:V→Prop)(s:DS V):Prop where
 nd:s.W.Nodup
 p:∀g∈s.W,P g
 gr:∀g∈s.W,s.val g<0↔gray g
 gw:∀g,gray g→g∈s.W
 bl:∀g∈s.W,¬gray g→∃x:Nat,s.val g=x∧Rn safe sc g x∧¬Rn safe sc g (x+1)
theorem a9Y{P:V→Prop}(hP:∀v w,P v→sc v w→P w){D:List V}(hD:∀v,P v→v∈D){inc:Int→Int}(hi:∀n:Int,0≤n→n≤D.length→inc n=n+1){dng:A→Bool}{stp:V→A→V}{sg:List A}(hsc:∀v w,sc v w↔∃a∈sg,dng a=true∧stp v a=w):
 ∀(f:Nat) (v:V) (s:DS V) (gray:V→Prop),P v→s.e=false→DOk safe sc P gray s→D.length<s.W.length+f→(∀g,gray g→∀n,Rn safe sc v n→Rn safe sc g (n+1))→
  let q:=dfs safe inc dng stp sg f v s
  (q.2.e=true→∃g,P g∧∀n,Rn safe sc g n)∧(q.2.e=false→s.W.length≤q.2.W.length∧DOk safe sc P gray q.2∧∃n:Nat,q.1=n∧Rn safe sc v n∧¬Rn safe sc v (n+1)):=by
 intro f
 induction f with
 |zero=>
  intro v s gray hv he hk hf _
  have:=nI hk.nd fun x hx=>hD x (hk.p x hx)
  omega
 |succ f ih=>
  intro v s gray hv he hk hf hg
  unfold dfs
  by_cases hs:safe v=true
  ·rw[if_pos hs]
   refine⟨fun h=>(by simp only[he]at h;cases h),fun _=>⟨acL _,hk,0,rfl,trivial,fun h=>?_⟩⟩
   exact absurd h.1 (by rw[hs];simp)
  rw[if_neg hs]
  have hs':safe v=false:=by simpa using hs
  by_cases hw:v∈s.W
  ·rw[if_pos hw]
   by_cases hgr:gray v
   ·have hlt:=(hk.gr v hw).2 hgr
    refine⟨fun _=>⟨v,hv,fun n=>?_⟩,fun h=>(by simp[hlt]at h)⟩
    induction n with
    |zero=>trivial
    |succ n ihn=>exact hg v hgr n ihn
   ·have hlt:¬s.val v<0:=fun h=>hgr ((hk.gr v hw).1 h)
    obtain⟨x,x1,x2⟩:=hk.bl v hw hgr
    refine⟨fun h=>(by simp[hlt,he]at h),fun _=>⟨acL _,?_,x,x1,x2⟩⟩
    exact⟨hk.nd,hk.p,hk.gr,hk.gw,hk.bl⟩
  rw[if_neg hw]
  have put1:(s.put v (-1)).W=s.W++[v]:=by unfold DS.put;rw[if_neg hw]
  have hgv:¬gray v:=fun h=>hw (hk.gw v h)
  have k1:DOk safe sc P (fun g=>gray g∨g=v) (s.put v (-1)):=by
   refine⟨?_,fun g hg=>?_,fun g hgw=>?_,fun g hg=>?_,fun g hgw hng=>?_⟩
   ·rw[put1]
    exact aCF.2 ⟨hk.nd,by simp,fun a ha b hb=>by simp at hb;subst hb;exact fun e=>hw (e▸ha)⟩
   ·rw[put1]at hg
    rcases aC6.1 hg with hg|hg
    ·exact hk.p g hg
    ·simp at hg;subst hg;exact hv
   ·show(if g=v then(-1:Int)else s.val g)<0↔_
    by_cases e:g=v
    ·rw[if_pos e];exact⟨fun _=>.inr e,fun _=>by omega⟩
    ·rw[if_neg e,hk.gr g (by rw[put1]at hgw;simpa [e]using hgw)]
     exact⟨.inl,fun h=>h.resolve_right e⟩
   ·rw[put1]
    rcases hg with hg|rfl
    ·simp[hk.gw g hg]
    ·simp
   ·obtain⟨n1,n2⟩:=not_or.1 hng
    obtain⟨x,x1,x2⟩:=hk.bl g (by rw[put1]at hgw;simpa [n2]using hgw) n1
    refine⟨x,?_,x2⟩
    show(if g=v then(-1:Int)else s.val g)=_
    rw[if_neg n2,x1]
  have hg1:∀g,(gray g∨g=v)→∀w,sc v w→∀n,Rn safe sc w n→Rn safe sc g (n+1):=fun g hgg w hw n hn=>by
   have h1:=Rn.step hs' hw hn
   rcases hgg with hgg|rfl
   ·exact(hg g hgg _ h1).pred
   ·exact h1
  have loop:∀(l:List A) (r:Int × DS V),(∀a∈l,a∈sg)→((r.2.e=true→∃g,P g∧∀n,Rn safe sc g n)∧(r.2.e=false→s.W.length+1≤r.2.W.length∧DOk safe sc P (fun g=>gray g∨g=v) r.2∧∃n:Nat,r.1=n∧Rn safe sc v n∧n≤D.length∧(n=0∨Rn safe sc v (n+1))))→
   let r':=l.foldl (fun(r:Int × DS V) a=>if dng a=true∧r.2.e=false then let q:=dfs safe inc dng stp sg f (stp v a) r.2;(max r.1 q.1,q.2)else r) r
   (r'.2.e=true→∃g,P g∧∀n,Rn safe sc g n)∧(r'.2.e=false→r.2.e=false∧s.W.length+1≤r'.2.W.length∧DOk safe sc P (fun g=>gray g∨g=v) r'.2∧r.1≤r'.1∧(∃n:Nat,r'.1=n∧n≤D.length∧(n=0∨Rn safe sc v (n+1)))∧∀a∈l,dng a=true→∀n:Nat,r'.1=n→¬Rn safe sc (stp v a) (n+1)):=by
   intro l
   induction l with
   |nil=>
    intro r _ hr
    refine⟨hr.1,fun h=>?_⟩
    obtain⟨h1,h2,n,h3,h4,h5⟩:=hr.2 h
    exact⟨h,h1,h2,Int.le_refl _,⟨n,h3,h5⟩,by simp⟩
   |cons a l ihl=>
    intro r hl hr
    rw[aC7]
    by_cases hc:dng a=true∧r.2.e=false
    ·rw[if_pos hc]
     obtain⟨h1,h2,n,h3,h4,h5,h6⟩:=hr.2 hc.2
     have hsv:sc v (stp v a):=(hsc _ _).2 ⟨a,hl a (by simp),hc.1,rfl⟩
     have:=ih (stp v a) r.2 (fun g=>gray g∨g=v) (hP _ _ hv hsv) hc.2 h2 (by omega) fun g hgg=>hg1 g hgg _ hsv
     generalize hq:dfs safe inc dng stp sg f (stp v a) r.2=q at this
     obtain⟨q1,q2⟩:=this
     have step:=ihl (max r.1 q.1,q.2) (fun b hb=>hl b (by simp[hb])) ⟨q1,fun he2=>by
      obtain⟨w1,w2,k,w3,w4,w5⟩:=q2 he2
      refine⟨by simp only;omega,w2,max n k,by simp only;omega,?_⟩
      have kD:=bm4 hP hD (hP _ _ hv hsv) w4 w5
      have hk1:Rn safe sc v (k+1):=Rn.step hs' hsv w4
      by_cases e:n≤k
      ·rw[aEO e];exact⟨hk1.pred,kD,.inr hk1⟩
      ·rw[aER (by omega)];exact⟨h4,h5,h6⟩⟩
     simp only at step ⊢
     refine⟨step.1,fun he2=>?_⟩
     obtain⟨s1,s2,s3,s4,⟨n',s5,s6⟩,s7⟩:=step.2 he2
     refine⟨hc.2,s2,s3,by omega,⟨n',s5,s6⟩,fun b hb hd n2 hn2=>?_⟩
     rcases acR.1 hb with rfl|hb
     ·obtain⟨_,_,k,w3,w4,w5⟩:=q2 s1
      exact fun hr2=>w5 (hr2.le (by omega))
     ·exact s7 b hb hd n2 hn2
    ·rw[if_neg hc]
     have step:=ihl r (fun b hb=>hl b (by simp[hb])) hr
     simp only at step ⊢
     refine⟨step.1,fun he2=>?_⟩
     obtain⟨s1,s2,s3,s4,s5,s7⟩:=step.2 he2
     refine⟨s1,s2,s3,s4,s5,fun b hb hd n2 hn2=>?_⟩
     rcases acR.1 hb with rfl|hb
     ·exact absurd ⟨hd,s1⟩ hc
     ·exact s7 b hb hd n2 hn2
  have fin:=loop sg (0,s.put v (-1)) (fun _ h=>h) ⟨fun h=>(by simp only[DS.put,he]at h;cases h),fun _=>⟨by rw[put1];simp,k1,0,rfl,trivial,Nat.zero_le _,.inl rfl⟩⟩
  simp only at fin ⊢
  generalize sg.foldl (fun(r:Int × DS V) a=>if dng a=true∧r.2.e=false then(max r.1 (dfs safe inc dng stp sg f (stp v a) r.2).1,(dfs safe inc dng stp sg f (stp v a) r.2).2)else r) (0,s.put v (-1))=r at fin
  refine⟨fin.1,fun he2=>?_⟩
  obtain⟨s1,s2,s3,s4,⟨n,s5,s6,s7⟩,s8⟩:=fin.2 he2
  have hinc:inc r.1=((n+1:Nat):Int):=by rw[hi r.1 (by omega) (by omega),s5];rfl
  have hvW:v∈r.2.W:=s3.gw v (.inr rfl)
  have put2:(r.2.put v (inc r.1)).W=r.2.W:=by unfold DS.put;rw[if_pos hvW]
  have hrn:Rn safe sc v (n+1):=by
   rcases s7 with rfl|h
   ·exact⟨hs',.inl rfl⟩
   ·exact h
  have hnr:¬Rn safe sc v (n+1+1):=fun h=>by
   rcases h.2 with e|⟨w,w1,w2⟩
   ·omega
   ·obtain⟨a,a1,a2,rfl⟩:=(hsc v w).1 w1
    exact s8 a a1 a2 n s5 w2
  refine⟨by rw[put2];omega,⟨by rw[put2];exact s3.nd,by rw[put2];exact s3.p,fun g hgw=>?_,fun g hg2=>by rw[put2];exact s3.gw g (.inl hg2),fun g hgw hng=>?_⟩,n+1,hinc,hrn,hnr⟩
  ·rw[put2]at hgw
   show(if g=v then inc r.1 else r.2.val g)<0↔_
   by_cases e:g=v
   ·subst e
    rw[if_pos rfl,hinc]
    exact⟨fun h=>by omega,fun h=>absurd h hgv⟩
   ·rw[if_neg e,s3.gr g hgw]
    exact⟨fun h=>h.resolve_right e,.inl⟩
  ·rw[put2]at hgw
   by_cases e:g=v
   ·subst e
    exact⟨n+1,by show(if g=g then inc r.1 else r.2.val g)=_;rw[if_pos rfl,hinc],hrn,hnr⟩
   ·obtain⟨x,x1,x2⟩:=s3.bl g hgw (fun h=>h.elim hng e)
    exact⟨x,by show(if g=v then inc r.1 else r.2.val g)=_;rw[if_neg e,x1],x2⟩
end Bfs
end Go.Ev
namespace Go.Ev
namespace Bfs
def rT{V A:Type}(safe:V→Bool)(dng:A→Bool)(stp:V→A→V)(sg:List A):Nat→V→Nat
 |0,_=>0
 |r+1,v=>if safe v=true then 0 else(sg.filter dng).foldl (fun a x=>max a (1+rT safe dng stp sg r (stp v x))) 1
theorem aFA{V A:Type}{safe:V→Bool}{sc:V→V→Prop}{dng:A→Bool}{stp:V→A→V}{sg:List A}(hsc:∀v w,sc v w↔∃a∈sg,dng a=true∧stp v a=w):∀(r:Nat) (v:V),IsT safe sc r v (rT safe dng stp sg r v)
 |0,v=>IsT.zero v
 |r+1,v=>by
  unfold rT
  by_cases h:safe v=true
  ·rw[if_pos h];exact IsT.safe_ h
  ·rw[if_neg h]
   have:=IsT.next (safe:=safe) (sc:=sc) (r:=r) (v:=v) (by simpa using h) (l:=(sg.filter dng).map (stp v)) (fun w=>by
    rw[hsc,acZ]
    constructor
    ·rintro⟨a,a1,a2,a3⟩;exact⟨a,aE9.2 ⟨a1,a2⟩,a3⟩
    ·rintro⟨a,a1,a3⟩;obtain⟨a1,a2⟩:=aE9.1 a1;exact⟨a,a1,a2,a3⟩) (f:=rT safe dng stp sg r) (fun w _=>aFA hsc r w)
   rw[List.foldl_map]at this
   exact this
def DS.none{V:Type}:DS V:=⟨[],fun _=>0,false⟩
theorem DOk.none{V:Type}{safe:V→Bool}{sc:V→V→Prop}{P:V→Prop}:DOk safe sc P (fun _=>False) (DS.none:DS V):=⟨aAP,fun _ h=>(by cases h),fun _ h=>(by cases h),fun _ h=>False.elim h,fun _ h=>(by cases h)⟩
variable {V A B:Type} [DecidableEq V] {safe:V→Bool} {sc:V→V→Prop}
def ay6{V A:Type}[DecidableEq V](safe:V→Bool)(inc:Int→Int)(dng:A→Bool)(stp:V→A→V)(sg:List A)(F:Nat):List V→Int→DS V→Option Int
 | [],out,_=>some out
 |v::l,out,s=>let q:=dfs safe inc dng stp sg F v s
  if q.2.e=true then none else ay6 safe inc dng stp sg F l (max out q.1) q.2
theorem a5F{P:V→Prop}(hP:∀v w,P v→sc v w→P w){D:List V}(hD:∀v,P v→v∈D){inc:Int→Int}(hi:∀n:Int,0≤n→n≤D.length→inc n=n+1){dng:A→Bool}{stp:V→A→V}{sg:List A}(hsc:∀v w,sc v w↔∃a∈sg,dng a=true∧stp v a=w){F:Nat}(hF:D.length<F):
 ∀(l:List V) (out:Nat) (s:DS V),(∀v∈l,P v)→s.e=false→DOk safe sc P (fun _=>False) s→(out=0∨∃v,P v∧Rn safe sc v out)→
  (ay6 safe inc dng stp sg F l out s=none→∃g,P g∧∀n,Rn safe sc g n)∧(∀N,ay6 safe inc dng stp sg F l out s=some N→∃k:Nat,N=k∧out≤k∧(k=0∨∃v,P v∧Rn safe sc v k)∧∀v∈l,¬Rn safe sc v (k+1)):=by
 intro l
 induction l with
 |nil=>
  intro out s _ _ _ ho
  refine⟨fun h=>(by simp[ay6]at h),fun N h=>?_⟩
  simp only[ay6,Option.some.injEq]at h
  exact⟨out,h.symm,acL _,ho,by simp⟩
 |cons v l ih=>
  intro out s hl he hk ho
  have d:=a9Y hP hD hi hsc F v s (fun _=>False) (hl v (by simp)) he hk (by omega) (fun _ h=>h.elim)
  unfold ay6
  generalize dfs safe inc dng stp sg F v s=q at d
  obtain⟨d1,d2⟩:=d
  simp only
  by_cases h:q.2.e=true
  ·rw[if_pos h]
   exact⟨fun _=>d1 h,fun N hN=>(by cases hN)⟩
  ·rw[if_neg h]
   obtain⟨w1,w2,k,w3,w4,w5⟩:=d2 (by simpa using h)
   have e:max (out:Int) q.1=((max out k:Nat):Int):=by omega
   rw[e]
   have:=ih (max out k) q.2 (fun u hu=>hl u (by simp[hu])) (by simpa using h) w2 (by
    by_cases c:out≤k
    ·rw[aEO c];exact .inr ⟨v,hl v (by simp),w4⟩
    ·rw[aER (by omega)];exact ho)
   refine⟨this.1,fun N hN=>?_⟩
   obtain⟨j,j1,j2,j3,j4⟩:=this.2 N hN
   refine⟨j,j1,by omega,j3,fun u hu=>?_⟩
   rcases acR.1 hu with rfl|hu
   ·exact fun hr=>w5 (hr.le (by omega))
   ·exact j4 u hu
theorem aQ5{D:List V}(hP:∀v w,v∈D→sc v w→w∈D){inc:Int→Int}(hi:∀n:Int,0≤n→n≤D.length→inc n=n+1){dng:A→Bool}{stp:V→A→V}{sg:List A}(hsc:∀v w,sc v w↔∃a∈sg,dng a=true∧stp v a=w){F:Nat}(hF:D.length<F):
 (ay6 safe inc dng stp sg F D 0 DS.none=none→∃g∈D,∀n,Rn safe sc g n)∧(∀N,ay6 safe inc dng stp sg F D 0 DS.none=some N→∃k:Nat,N=k∧Top safe sc (· ∈D) k):=by
 have:=a5F (safe:=safe) (P:=(· ∈D)) hP (fun _ h=>h) hi hsc hF D 0 DS.none (fun _ h=>h) rfl DOk.none (.inl rfl)
 refine⟨this.1,fun N hN=>?_⟩
 obtain⟨k,k1,_,k2,k3⟩:=this.2 N hN
 exact⟨k,k1,k3,k2⟩
theorem aS4{D:List V}(hP:∀v w,v∈D→sc v w→w∈D){inc:Int→Int}(hi:∀n:Int,0≤n→n≤D.length→inc n=n+1){dng:A→Bool}{stp:V→A→V}{sg:List A}(hsc:∀v w,sc v w↔∃a∈sg,dng a=true∧stp v a=w){F:Nat}(hF:D.length<F)
 {dng':B→Bool} {stp':V→B→V} {sg':List B} (hsc':∀v w,sc v w↔∃a∈sg',dng' a=true∧stp' v a=w) {r:Nat} (hr:∀v∈D,rT safe dng' stp' sg' (r+1) v=rT safe dng' stp' sg' r v) {out:Nat} (h1:∀v∈D,rT safe dng' stp' sg' r v≤out) (h2:out=0∨∃v∈D,rT safe dng' stp' sg' r v=out):
 ay6 safe inc dng stp sg F D 0 DS.none=some (out:Int)∧out≤D.length:=by
 have st:=IsT.stable (P:=(· ∈D)) hP (f:=rT safe dng' stp' sg' r) (fun v _=>aFA hsc' r v) (fun v hv=>hr v hv▸aFA hsc' (r+1) v)
 have top:Top safe sc (· ∈D) out:=a97 (f:=rT safe dng' stp' sg' r) (fun v hv=>⟨(aFA hsc' r v).rn,fun h=>by have:=st _ v hv h;omega⟩) h1 (h2.imp id fun⟨v,v1,v2⟩=>⟨v,v1,v2⟩)
 refine⟨?_,top.few hP fun _ h=>h⟩
 have:=aQ5 (safe:=safe) hP hi hsc hF
 cases hc:ay6 safe inc dng stp sg F D 0 DS.none with
 |none=>
  obtain⟨g,g1,g2⟩:=this.1 hc
  exact absurd (g2 (out+1)) (top.1 g g1)
 |some N=>
  obtain⟨k,rfl,k2⟩:=this.2 N hc
  rw[k2.eq top]
theorem aVO{D:List V}(hP:∀v w,v∈D→sc v w→w∈D){inc:Int→Int}(hi:∀n:Int,0≤n→n≤D.length→inc n=n+1){dng:A→Bool}{stp:V→A→V}{sg:List A}(hsc:∀v w,sc v w↔∃a∈sg,dng a=true∧stp v a=w){F:Nat}(hF:D.length<F)
 {dng':B→Bool} {stp':V→B→V} {sg':List B} (hsc':∀v w,sc v w↔∃a∈sg',dng' a=true∧stp' v a=w) {L:Nat} (hL:D.length≤L) {v:V} (hv:v∈D) (hr:rT safe dng' stp' sg' (L+2) v≠rT safe dng' stp' sg' (L+1) v):
 ay6 safe inc dng stp sg F D 0 DS.none=none∧rT safe dng' stp' sg' (L+2) v=L+2:=by
 have g:=(aFA hsc' (L+1) v).grow (aFA hsc' (L+2) v) hr
 refine⟨?_,g⟩
 have:=aQ5 (safe:=safe) hP hi hsc hF
 cases hc:ay6 safe inc dng stp sg F D 0 DS.none with
 |none=>rfl
 |some N=>
  obtain⟨k,rfl,k2⟩:=this.2 N hc
  have hk:=k2.few hP fun _ h=>h
  have h1:=(aFA (safe:=safe) hsc' (L+2) v).rn
  rw[g]at h1
  exact absurd (h1.le (by omega)) (k2.1 v hv)
end Bfs
end Go.Ev
namespace Go.Ev
namespace Bfs
variable {V A:Type} [DecidableEq V] {safe:V→Bool}
def DW(P:V→Prop)(s:DS V):Prop:=s.W.Nodup∧∀g∈s.W,P g
theorem DW.put{P:V→Prop}{s:DS V}(h:DW P s){v:V}(hv:P v)(x:Int):DW P (s.put v x)∧s.W.length≤(s.put v x).W.length:=by
 unfold DS.put
 by_cases hw:v∈s.W
 ·rw[if_pos hw];exact⟨h,acL _⟩
 ·rw[if_neg hw]
  refine⟨⟨aCF.2 ⟨h.1,by simp,fun a ha b hb=>by simp at hb;subst hb;exact fun e=>hw (e▸ha)⟩,fun g hg=>?_⟩,by simp⟩
  rcases aC6.1 hg with hg|hg
  ·exact h.2 g hg
  ·simp at hg;subst hg;exact hv
def afJ(safe:V→Bool)(inc:Int→Int)(dng:A→Bool)(stp:V→A→V)(sg:List A)(f:Nat)(v:V)(r:Int × DS V)(a:A):Int × DS V:=if dng a=true∧r.2.e=false then let q:=dfs safe inc dng stp sg f (stp v a) r.2;(max r.1 q.1,q.2)else r
theorem aN3(inc:Int→Int)(dng:A→Bool)(stp:V→A→V)(sg:List A)(f:Nat)(v:V)(s:DS V):dfs safe inc dng stp sg (f+1) v s=if safe v=true then(0,s)else if v∈s.W then(s.val v,{ s with e:=s.e||decide (s.val v<0) })else
 (inc (sg.foldl (afJ safe inc dng stp sg f v) (0,s.put v (-1))).1,(sg.foldl (afJ safe inc dng stp sg f v) (0,s.put v (-1))).2.put v (inc (sg.foldl (afJ safe inc dng stp sg f v) (0,s.put v (-1))).1)):=rfl
theorem a6S{P:V→Prop}{inc:Int→Int}{dng:A→Bool}{stp:V→A→V}(hP:∀v a,P v→P (stp v a))(sg:List A):∀(f:Nat) (v:V) (s:DS V),P v→DW P s→DW P (dfs safe inc dng stp sg f v s).2∧s.W.length≤(dfs safe inc dng stp sg f v s).2.W.length:=by
 intro f
 induction f with
 |zero=>intro v s _ h;exact⟨h,acL _⟩
 |succ f ih=>
  intro v s hv h
  rw[aN3]
  by_cases hs:safe v=true
  ·rw[if_pos hs];exact⟨h,acL _⟩
  rw[if_neg hs]
  by_cases hw:v∈s.W
  ·rw[if_pos hw];exact⟨h,acL _⟩
  rw[if_neg hw]
  have loop:∀(l:List A) (r:Int × DS V),DW P r.2→DW P (l.foldl (afJ safe inc dng stp sg f v) r).2∧r.2.W.length≤(l.foldl (afJ safe inc dng stp sg f v) r).2.W.length:=by
   intro l
   induction l with
   |nil=>intro r hr;exact⟨hr,acL _⟩
   |cons a l ihl=>
    intro r hr
    rw[aC7]
    have one:DW P (afJ safe inc dng stp sg f v r a).2∧r.2.W.length≤(afJ safe inc dng stp sg f v r a).2.W.length:=by
     unfold afJ
     split
     ·exact ih _ _ (hP _ _ hv) hr
     ·exact⟨hr,acL _⟩
    obtain⟨k1,k2⟩:=ihl _ one.1
    exact⟨k1,by omega⟩
  obtain⟨p1,p2⟩:=h.put hv (-1)
  obtain⟨l1,l2⟩:=loop sg (0,s.put v (-1)) p1
  simp only at l1 l2
  obtain⟨q1,q2⟩:=l1.put hv (inc (sg.foldl (afJ safe inc dng stp sg f v) (0,s.put v (-1))).1)
  exact⟨q1,by simp only;omega⟩
end Bfs
end Go.Ev
namespace Go.Ev
noncomputable section
open Go.RowKit
def aO2(x:Int):List Int→List Int
 | []=>[x]
 |y::l=>if x≤y then x::y::l else y::aO2 x l
def fQ:List Int→List Int
 | []=>[]
 |x::l=>aO2 x (fQ l)
theorem aB9(x:Int):∀l:List Int,(aO2 x l).Perm (x::l)
 | []=>List.Perm.refl _
 |y::l=>by
  unfold aO2
  split
  ·exact List.Perm.refl _
  ·exact((aB9 x l).cons y).trans (List.Perm.swap x y l)
theorem zM:∀l:List Int,(fQ l).Perm l
 | []=>List.Perm.refl _
 |x::l=>(aB9 x _).trans ((zM l).cons x)
theorem aC2(x:Int):∀{l:List Int},l.Pairwise (· ≤·)→(aO2 x l).Pairwise (· ≤·)
 | [],_=>by simp[aO2]
 |y::l,h=>by
  rw[aqD]at h
  unfold aO2
  split
  ·rename_i hxy
   refine aqD.2 ⟨fun z hz=>?_,aqD.2 h⟩
   rcases acR.1 hz with rfl|hz
   ·exact hxy
   ·exact Int.le_trans hxy (h.1 z hz)
  ·rename_i hxy
   refine aqD.2 ⟨fun z hz=>?_,aC2 x h.2⟩
   rcases acR.1 ((aB9 x l).mem_iff.1 hz)with rfl|hz
   ·omega
   ·exact h.1 z hz
theorem abW:∀l:List Int,(fQ l).Pairwise (· ≤·)
 | []=>List.Pairwise.nil
 |x::l=>aC2 x (abW l)
theorem a0V(l:List Int):(l.mergeSort fun x y=>decide (x≤y))=fQ l:=by
 have h1:=List.pairwise_mergeSort (le:=fun x y:Int=>decide (x≤y)) (by simp;omega) (by simp;omega) l
 refine List.Perm.eq_of_pairwise (le:=(· ≤·)) (fun a b _ _ h1 h2=>Int.le_antisymm h1 h2) ?_ (abW l) ((List.mergeSort_perm l _).trans (zM l).symm)
 simpa using h1
theorem aJG(l:List Int):(fQ l).length=l.length:=(zM l).length_eq
def ac2:List (List AV)→Option (List Int)
 | []=>some []
 | [.int .i64 n]::l=>(ac2 l).map (n::·)
 |_=>none
theorem aIZ:∀{rows:List (List AV)} {l:List Int},ac2 rows=some l→rows=l.map fun n=>[.int .i64 n]
 | [],l,h=>by simp[ac2]at h;subst h;rfl
 |r::rows,l,h=>by
  unfold ac2 at h
  split at h
  ·rename_i e;cases e
  ·rename_i n l' e
   cases e
   obtain⟨l2,h2,rfl⟩:=aAM.1 h
   rw[aIZ h2];rfl
  ·cases h
theorem aPR(l:List Int):ac2 (l.map fun n=>[.int .i64 n])=some l:=by
 induction l with
 |nil=>rfl
 |cons a l ih=>simp[ac2,ih]
def aHV:List AV→Aa→Option (Gw × Aa)
 | [.slr 1 b 0 len],h=>match h[b]? with
   |some (.live 1 true _ rows)=>if rows.length=len∧1≤len∧len≤549755813888 then(ac2 rows).map fun zs=>(.ret (.tup []),h.set b (.live 1 true true ((fQ zs).map fun n=>[.int .i64 n])))else none
   |_=>none
 |_,_=>none
section
variable {P:Program} {G:Nat→Option Obj}
theorem aHL{w:World}{cb:Nat}{c:Array Value}{e:TypeId}{fz:Nat × Nat}(hk:w.heap[cb]?=some (.cells c e fz))(f:Array Value→Array Value):Go.Sort.mapBlock w cb f=setB w cb (.cells (f c) e fz):=by
 unfold Go.Sort.mapBlock setB
 congr 1
 apply Array.ext_getElem?
 intro k
 simp only[Array.getElem?_modify,Array.getElem?_setIfInBounds]
 by_cases h:cb=k
 ·subst h
  have hl:=(Array.getElem?_eq_some_iff.1 hk).1
  rw[if_pos rfl,if_pos rfl,if_pos hl,hk];rfl
 ·rw[if_neg h,if_neg h]
theorem aMK(w:World)(n:Nat):Below w.heap.size w (Go.Sort.ahead w n) where
 os:=rfl
 tape:=rfl
 output:=rfl
 size:=acL _
 block:=fun _ _=>rfl
theorem a4Q{f:Nat}(hen:∀args w,(callFunc f args).run P w=.ok (.enter f args) w)
 (hc:∀(blk off cap:Nat) (zs:List Int) (w:World),Go.Sort.Holds (Value.int .i64) w blk off zs.toArray→blk<w.heap.size→zs.length<4611686018427387904→
   Calls P f #[.slice (some ⟨blk,off,none⟩) zs.length cap] w fun e w'=>e=.returned (.tuple #[])∧∃n os,w'=Go.Sort.grow (Go.Sort.putRow (Value.int .i64) (Go.Sort.ahead w n) blk off (zs.mergeSort fun x y=>decide (x≤y)).toArray) os):aKS P G f aHV:=by
 intro args h out h' hp
 refine⟨hen,fun w S ρ cargs hI H dom all hargs=>?_⟩
 unfold aHV at hp
 split at hp
 ·rename_i b len
  split at hp
  ·rename_i wr rows hg
   split at hp
   ·rename_i hl
    obtain⟨hl1,hl2,hl3⟩:=hl
    obtain⟨zs,hz,hp⟩:=aAM.1 hp
    simp only[Prod.mk.injEq]at hp
    obtain⟨rfl,rfl⟩:=hp
    have hrows:=aIZ hz
    have hzl:zs.length=len:=by rw[←hl1,hrows];simp
    obtain⟨v,vs',e,hv,hn⟩:=hargs.cons_inv
    have:=hn.nil_inv
    subst this
    have ec:cargs=#[v]:=by apply Array.toList_inj.1;rw[e]
    subst ec
    have hbl:b<h.length:=(aAN.1 hg).1
    cases hv with
    |slrD hρ _=>have:=H.dead b hρ;rw[show hf h b=some _ from hg]at this;cases this
    | @slr _ _ _ _ cb co _ sz cap a hρ hle ha=>
      obtain⟨c,e',fz,fl',rows',k1,k2,k3,k4⟩:=H.at_ b cb co 1 sz hρ
      rcases k4 with⟨⟨wr',k4⟩,hS,hfz⟩|⟨k4,_⟩
      ·rw[show hf h b=some _ from hg]at k4
       cases k4
       rcases ha with ha|⟨rfl,hcap⟩
       ·omega
       have hco:co+len≤c.size:=by have:=k3.len;rw[hl1]at this;omega
       have hold:Go.Sort.Holds (Value.int .i64) w cb (co+0*1) zs.toArray:=fun j hj=>by
        have hj':j<zs.length:=by simpa using hj
        have hr:rows[j]?=some [AV.int .i64 zs[j]]:=by rw[hrows,aG6,List.getElem?_eq_getElem hj'];rfl
        obtain⟨v,h1,h2⟩:=k3.cell j _ 0 _ hr rfl
        cases h2
        have hlt:co+j<c.size:=by omega
        refine⟨?_,aIU k1 (hfz _ (by rw[←k2];omega))⟩
        rw[azG k1]
        simp only[Nat.zero_mul,aAO]
        have h1':c[co+j]?=some (Value.int .i64 zs[j]):=by simpa using h1
        rw[h1']
        simp[getElem!_pos,hj']
       rw[←hzl]
       refine(hc cb (co+0*1) cap zs w hold (H.lt hρ) (by omega)).mono fun e w' hw=>?_
       obtain⟨rfl,n,os,rfl⟩:=hw
       rw[a0V]
       have hB1:=aMK w n
       have H1:=H.below hB1
       have k1':(Go.Sort.ahead w n).heap[cb]?=some (.cells c e' fz):=k1
       have hsl:=aJG zs
       generalize fQ zs=ys at *
       have hput:Go.Sort.putRow (Value.int .i64) (Go.Sort.ahead w n) cb (co+0*1) ys.toArray=setB (Go.Sort.ahead w n) cb (.cells (Go.Sort.putCells (Value.int .i64) (co+0*1) ys.toArray c) e' fz):=aHL k1' _
       rw[hput]
       have hcs:(Go.Sort.putCells (Value.int .i64) (co+0*1) ys.toArray c).size=c.size:=by simp[Go.Sort.putCells]
       have hblk:Ic (Go.Sort.ahead w n) S ρ (Go.Sort.putCells (Value.int .i64) (co+0*1) ys.toArray c) co 1 true (ys.map fun n=>[.int .i64 n]):=by
        refine⟨by rw[hcs];simp;omega,fun r hr=>?_,fun _ r hr x hx=>?_,fun i r j x hr hx=>?_,fun r hr x hx=>?_⟩
        ·obtain⟨n,_,rfl⟩:=acZ.1 hr;rfl
        ·obtain⟨n,_,rfl⟩:=acZ.1 hr;simp at hx;subst hx;rfl
        ·rw[aG6]at hr
         obtain⟨m,hm,rfl⟩:=aAM.1 hr
         have hi:i<ys.length:=(aAN.1 hm).1
         have hx':j=0∧x=.int .i64 m:=by
          cases j with
          |zero=>simp at hx;exact⟨rfl,hx.symm⟩
          |succ j=>simp at hx
         obtain⟨rfl,rfl⟩:=hx'
         refine⟨.int .i64 m,?_,.int _ _⟩
         simp only[Go.Sort.putCells,Array.getElem?_mapIdx,Nat.mul_one,aAO,Nat.zero_mul,aAO]
         rw[Array.getElem?_eq_getElem (by omega),Option.map_some,if_pos ⟨by omega,by simp;omega⟩,show co+i-co=i by omega]
         have:ys[i]?=some m:=hm
         have h2:=aAN.1 hm
         simp[getElem!_pos,h2.1,h2.2]
        ·obtain⟨n,_,rfl⟩:=acZ.1 hr;simp at hx;subst hx;rfl
       have H2:=H1.setLive (wr:=true) hρ hS (e:=e') (fz:=fz) (by rw[hcs];exact k2) hfz ⟨_,_,_,k1'⟩ hblk
       have hs2:=Ix.setB (w:=Go.Sort.ahead w n) hρ hS ⟨_,_,_,k1'⟩ (.cells (Go.Sort.putCells (Value.int .i64) (co+0*1) ys.toArray c) e' fz)
       generalize hw2:setB (Go.Sort.ahead w n) cb (.cells (Go.Sort.putCells (Value.int .i64) (co+0*1) ys.toArray c) e' fz)=w2 at *
       have hB3:=aQR (w:=w2) (acL _) os
       have H3:=H2.below hB3
       refine⟨.tuple #[],S,ρ,⟨⟨_,rfl⟩,rfl⟩,.tup rfl (fun i x v hx _=>by simp at hx),by rw[aO5 hbl];exact H3,((Ix.below H hB1).trans hs2).trans (Ix.below H2 hB3),fun b' hb'=>dom b' (by simpa using hb'),fun b' hb'=>all b' (by simpa using hb'),by simp,fun i x x' hx hx' hsm=>?_⟩
       by_cases e:i=b
       ·subst e
        rw[hg]at hx;cases hx
        rw[List.getElem?_set_self hbl]at hx';cases hx'
        simp[CB.same]at hsm
       ·refine⟨rfl,fun cb' co' st' sz' hb'=>?_⟩
        have hne:cb'≠cb:=fun q=>e (H.inj _ _ _ _ _ _ _ _ _ hb' (q▸hρ))
        have hl':cb'<w.heap.size:=H.lt hb'
        have hw2s:w2.heap.size=w.heap.size:=by rw[←hw2];simp[setB,Go.Sort.ahead]
        rw[hB3.block cb' (by rw[hw2s];exact hl'),←hw2,Cd hne]
        rfl
      ·rw[show hf h b=some _ from hg]at k4;cases k4
   ·cases hp
  ·cases hp
 ·cases hp
end
end
end Go.Ev
