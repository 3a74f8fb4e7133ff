/- The evaluator and its soundness. -/
import Derived.Test.YtfkokgjfpojeoaaLibE
import Derived.Sort.Grow
open Nat renaming le_refl→aaA,add_right_cancel_iff→acY,add_zero→af4,max_eq_right→ai2,max_eq_left→ajM
open List renaming mem_cons→aaK,mem_map→aa0,pairwise_cons→aa3,getElem?_eq_some_iff→aa9,length_cons→abO,mem_append→acI,mem_flatMap→acM,getElem?_eq_getElem→ae2,nodup_cons→ae4,nodup_nil→ae7,append_inj'→af5,getElem?_append_left→af6,getElem?_append_right→af7,length_eq_zero_iff→af8,pairwise_map→af9,getD_eq_getElem?_getD→agA,nodup_append→agB,foldl_cons→aiO,getElem?_map→aj8
open Int renaming le_refl→adV
open Option renaming map_eq_some_iff→afR
set_option linter.unusedSimpArgs false
set_option linter.unusedVariables false
namespace Go.Ev
namespace Bfs
def pU:List Nat→List Nat→Prop
 |a::p,b::q=>a<b∨(a=b∧pU p q)
 |_,_=>True
theorem pD:∀p,pU p p
 | []=>trivial
 |_::p=>.inr ⟨rfl,pD p⟩
theorem lB:∀{p q r:List Nat},p.length=q.length→q.length=r.length→pU p q→pU q r→pU p r
 | [],[],[],_,_,_,_=>trivial
 | [],_::_,_,h,_,_,_=>by simp at h
 |_::_,[],_,h,_,_,_=>by simp at h
 |_::_,_::_,[],_,h,_,_=>by simp at h
 | [],[],_::_,_,h,_,_=>by simp at h
 |a::p,b::q,c::r,h1,h2,h3,h4=>by
  simp only[abO,acY]at h1 h2
  rcases h3 with h3|⟨rfl,h3⟩
  ·rcases h4 with h4|⟨rfl,h4⟩
   ·exact .inl (by omega)
   ·exact .inl h3
  ·rcases h4 with h4|⟨rfl,h4⟩
   ·exact .inl h4
   ·exact .inr ⟨rfl,lB h1 h2 h3 h4⟩
theorem nX:∀{p q:List Nat} {a b:Nat},p.length=q.length→pU p q→(p=q→a≤b)→pU (p++[a]) (q++[b])
 | [],[],a,b,_,_,h=>by
   have:=h rfl
   by_cases e:a=b
   ·exact .inr ⟨e,trivial⟩
   ·exact .inl (by omega)
 | [],_::_,_,_,h,_,_=>by simp at h
 |_::_,[],_,_,h,_,_=>by simp at h
 |c::p,d::q,a,b,h,h1,h2=>by
  simp only[abO,acY]at h
  rcases h1 with h1|⟨rfl,h1⟩
  ·exact .inl h1
  ·exact .inr ⟨rfl,nX h h1 fun e=>h2 (by rw[e])⟩
def le2(p q:List Nat):Prop:=p.length<q.length∨(p.length=q.length∧pU p q)
theorem bS(p:List Nat):le2 p p:=.inr ⟨rfl,pD p⟩
theorem acU{p q r:List Nat}(h1:le2 p q)(h2:le2 q r):le2 p r:=by
 rcases h1 with h1|⟨h1,l1⟩
 ·rcases h2 with h2|⟨h2,_⟩
  ·exact .inl (by omega)
  ·exact .inl (by omega)
 ·rcases h2 with h2|⟨h2,l2⟩
  ·exact .inl (by omega)
  ·exact .inr ⟨h1.trans h2,lB h1 h2 l1 l2⟩
theorem jG{p q:List Nat}(h:le2 p q){a b:Nat}(hab:p=q→a≤b):le2 (p++[a]) (q++[b]):=by
 rcases h with h|⟨h,l⟩
 ·exact .inl (by simp;omega)
 ·exact .inr ⟨by simp[h],nX h l hab⟩
theorem anB(p:List Nat):le2 [] p:=by
 cases p with
 |nil=>exact bS _
 |cons=>exact .inl (by simp)
variable {V:Type}
def run(step:V→Nat→V)(v:V)(w:List Nat):V:=w.foldl step v
theorem uX(step:V→Nat→V)(v:V)(w:List Nat)(a:Nat):run step v (w++[a])=step (run step v w) a:=by
 unfold run;rw[List.foldl_append];rfl
structure BF(step:V→Nat→V)(n:Nat)(v0:V)(D:List (V × List Nat))(i j:Nat):Prop where
 hd:D[0]?=some (v0,[])
 nd:∀(k k':Nat) (x x':V × List Nat),D[k]?=some x→D[k']?=some x'→x.1=x'.1→k=k'
 way:∀(k:Nat) (x:V × List Nat),D[k]?=some x→run step v0 x.2=x.1∧∀a∈x.2,a<n
 par:∀(k:Nat) (x:V × List Nat),D[k]?=some x→k≠0→∃(k':Nat) (u:V) (p:List Nat) (a:Nat),k'<k∧D[k']?=some (u,p)∧x=(step u a,p++[a])∧a<n∧(k'<i∨(k'=i∧a<j))
 srt:∀(k k':Nat) (x x':V × List Nat),k<k'→D[k]?=some x→D[k']?=some x'→le2 x.2 x'.2∧x.2≠x'.2
 cls:∀(k:Nat) (u:V) (p:List Nat),D[k]?=some (u,p)→∀a,a<n→(k<i∨(k=i∧a<j))→∃(k':Nat) (x:V × List Nat),D[k']?=some x∧x.1=step u a∧le2 x.2 (p++[a])
theorem BF.start(step:V→Nat→V)(n:Nat)(v0:V):BF step n v0 [(v0,[])] 0 0:=by
 have one:∀(k:Nat) (x:V × List Nat),[(v0,([]:List Nat))][k]?=some x→k=0∧x=(v0,[]):=fun k x h=>by
  cases k with
  |zero=>simp at h;exact⟨rfl,h.symm⟩
  |succ k=>simp at h
 refine⟨rfl,fun k k' x x' h h' _=>?_,fun k x h=>?_,fun k x h hk=>absurd (one k x h).1 hk,fun k k' x x' hl h h'=>?_,fun k u p h a ha hc=>by omega⟩
 ·rw[(one k x h).1,(one k' x' h').1]
 ·rw[(one k x h).2];exact⟨rfl,by simp⟩
 ·have:=(one k x h).1
  have:=(one k' x' h').1
  omega
theorem BF.before{step:V→Nat→V}{n:Nat}{v0:V}{D:List (V × List Nat)}{i j:Nat}(B:BF step n v0 D i j){u:V}{p:List Nat}(hi:D[i]?=some (u,p)){k:Nat}{x:V × List Nat}(hx:D[k]?=some x):le2 x.2 (p++[j])∧x.2≠p++[j]:=by
 by_cases hk:k=0
 ·subst hk
  rw[B.hd]at hx
  cases hx
  exact⟨anB _,by simp⟩
 ·obtain⟨k',u',p',a,h1,h2,rfl,ha,h3⟩:=B.par k x hx hk
  rcases h3 with h3|⟨rfl,h3⟩
  ·obtain⟨s1,s2⟩:=B.srt k' i _ _ h3 h2 hi
   simp only at s1 s2
   refine⟨jG s1 fun e=>absurd e s2,fun e=>?_⟩
   have:=af5 e rfl
   exact s2 this.1
  ·rw[hi]at h2
   cases h2
   refine⟨jG (bS _) fun _=>by omega,fun e=>?_⟩
   have:=(af5 e rfl).2
   simp at this
   omega
theorem BF.old{step:V→Nat→V}{n:Nat}{v0:V}{D:List (V × List Nat)}{i j:Nat}(B:BF step n v0 D i j){u:V}{p:List Nat}(hi:D[i]?=some (u,p)){k:Nat}{x:V × List Nat}(hx:D[k]?=some x)(he:x.1=step u j):BF step n v0 D i (j+1):=by
 refine⟨B.hd,B.nd,B.way,fun k x h hk=>?_,B.srt,fun k' u' p' h a ha hc=>?_⟩
 ·obtain⟨k',u',p',a,h1,h2,h3,h4,h5⟩:=B.par k x h hk
  exact⟨k',u',p',a,h1,h2,h3,h4,by omega⟩
 ·by_cases e:k'=i∧a=j
  ·obtain⟨rfl,rfl⟩:=e
   rw[hi]at h
   cases h
   exact⟨k,x,hx,he,(B.before hi hx).1⟩
  ·exact B.cls k' u' p' h a ha (by omega)
theorem BF.new{step:V→Nat→V}{n:Nat}{v0:V}{D:List (V × List Nat)}{i j:Nat}(B:BF step n v0 D i j){u:V}{p:List Nat}(hi:D[i]?=some (u,p))(hj:j<n)(hn:∀(k:Nat) (x:V × List Nat),D[k]?=some x→x.1≠step u j):BF step n v0 (D++[(step u j,p++[j])]) i (j+1):=by
 have hil:i<D.length:=(aa9.1 hi).1
 have get:∀(k:Nat) (x:V × List Nat),(D++[(step u j,p++[j])])[k]?=some x→D[k]?=some x∨(k=D.length∧x=(step u j,p++[j])):=fun k x h=>by
  by_cases hk:k<D.length
  ·rw[af6 hk]at h;exact .inl h
  ·rw[af7 (by omega)]at h
   by_cases e:k=D.length
   ·subst e;simp at h;exact .inr ⟨rfl,h.symm⟩
   ·obtain⟨d,hd⟩:∃d,k-D.length=d+1:=⟨k-D.length-1,by omega⟩
    rw[hd]at h;simp at h
 have old:∀(k:Nat) (x:V × List Nat),D[k]?=some x→(D++[(step u j,p++[j])])[k]?=some x:=fun k x h=>by
  rw[af6 (aa9.1 h).1];exact h
 have lt:∀(k:Nat) (x:V × List Nat),D[k]?=some x→k<D.length:=fun k x h=>(aa9.1 h).1
 have hw:=B.way i _ hi
 refine⟨old 0 _ B.hd,fun k k' x x' h h' e=>?_,fun k x h=>?_,fun k x h hk=>?_,fun k k' x x' hl h h'=>?_,fun k u' p' h a ha hc=>?_⟩
 ·rcases get k x h with h|⟨rfl,rfl⟩
  ·rcases get k' x' h' with h'|⟨rfl,rfl⟩
   ·exact B.nd k k' x x' h h' e
   ·exact absurd e (hn k x h)
  ·rcases get k' x' h' with h'|⟨rfl,rfl⟩
   ·exact absurd e.symm (hn k' x' h')
   ·rfl
 ·rcases get k x h with h|⟨rfl,rfl⟩
  ·exact B.way k x h
  ·refine⟨by simp only;rw[uX,hw.1],fun a ha=>?_⟩
   rcases acI.1 ha with ha|ha
   ·exact hw.2 a ha
   ·simp at ha;omega
 ·rcases get k x h with h|⟨rfl,rfl⟩
  ·obtain⟨k',u',p',a,h1,h2,h3,h4,h5⟩:=B.par k x h hk
   exact⟨k',u',p',a,h1,old _ _ h2,h3,h4,by omega⟩
  ·exact⟨i,u,p,j,hil,old _ _ hi,rfl,hj,.inr ⟨rfl,Nat.lt_succ_self _⟩⟩
 ·rcases get k' x' h' with h'|⟨rfl,rfl⟩
  ·rcases get k x h with h|⟨rfl,rfl⟩
   ·exact B.srt k k' x x' hl h h'
   ·have:=lt k' x' h';omega
  ·rcases get k x h with h|⟨rfl,rfl⟩
   ·exact B.before hi h
   ·omega
 ·rcases get k (u',p') h with h0|⟨rfl,e⟩
  ·by_cases e:k=i∧a=j
   ·obtain⟨rfl,rfl⟩:=e
    rw[hi]at h0
    cases h0
    exact⟨D.length,(step u a,p++[a]),by rw[af7 (aaA _),Nat.sub_self];rfl,rfl,bS _⟩
   ·obtain⟨k2,x2,h1,h2,h3⟩:=B.cls k u' p' h0 a ha (by omega)
    exact⟨k2,x2,old _ _ h1,h2,h3⟩
  ·omega
theorem BF.next{step:V→Nat→V}{n:Nat}{v0:V}{D:List (V × List Nat)}{i:Nat}(B:BF step n v0 D i n):BF step n v0 D (i+1) 0:=
 ⟨B.hd,B.nd,B.way,fun k x h hk=>by
   obtain⟨k',u',p',a,h1,h2,h3,h4,h5⟩:=B.par k x h hk
   exact⟨k',u',p',a,h1,h2,h3,h4,by omega⟩,B.srt,fun k u p h a ha hc=>B.cls k u p h a ha (by omega)⟩
theorem BF.best{step:V→Nat→V}{n:Nat}{v0:V}{D:List (V × List Nat)}(B:BF step n v0 D D.length 0):∀(m:Nat) (w:List Nat),w.length=m→(∀a∈w,a<n)→∃(k:Nat) (x:V × List Nat),D[k]?=some x∧x.1=run step v0 w∧le2 x.2 w:=by
 intro m
 induction m with
 |zero=>
  intro w hw _
  obtain rfl:=af8.1 hw
  exact⟨0,_,B.hd,rfl,bS _⟩
 |succ m ih=>
  intro w hw ha
  have hne:w≠[]:=fun e=>by subst e;simp at hw
  have hsp:=List.dropLast_concat_getLast hne
  generalize w.getLast hne=a at hsp
  generalize w.dropLast=q at hsp
  subst hsp
  obtain⟨k,⟨u,p⟩,h1,h2,h3⟩:=ih q (by simpa using hw) fun b hb=>ha b (by simp[hb])
  simp only at h2 h3
  obtain⟨k',x,h4,h5,h6⟩:=B.cls k u p h1 a (ha a (by simp)) (.inl (aa9.1 h1).1)
  refine⟨k',x,h4,by rw[uX,h5,h2],acU h6 (jG h3 fun _=>aaA _)⟩
end Bfs
end Go.Ev
namespace Go.Ev
namespace Bfs
structure Ord(A:Type)(lt:A→A→Prop):Prop where
 irr:∀a,¬lt a a
 tr:∀a b c,lt a b→lt b c→lt a c
variable {A V:Type} {lt:A→A→Prop}
def zJ(lt:A→A→Prop):List A→List A→Prop
 |a::p,b::q=>lt a b∨(a=b∧zJ lt p q)
 |_,_=>True
theorem kG(O:Ord A lt):∀{p q r:List A},p.length=q.length→q.length=r.length→zJ lt p q→zJ lt q r→zJ lt p r
 | [],[],[],_,_,_,_=>trivial
 | [],_::_,_,h,_,_,_=>by simp at h
 |_::_,[],_,h,_,_,_=>by simp at h
 |_::_,_::_,[],_,h,_,_=>by simp at h
 | [],[],_::_,_,h,_,_=>by simp at h
 |a::p,b::q,c::r,h1,h2,h3,h4=>by
  simp only[abO,acY]at h1 h2
  rcases h3 with h3|⟨rfl,h3⟩
  ·rcases h4 with h4|⟨rfl,h4⟩
   ·exact .inl (O.tr _ _ _ h3 h4)
   ·exact .inl h3
  ·rcases h4 with h4|⟨rfl,h4⟩
   ·exact .inl h4
   ·exact .inr ⟨rfl,kG O h1 h2 h3 h4⟩
def leA(lt:A→A→Prop)(p q:List A):Prop:=p.length<q.length∨(p.length=q.length∧zJ lt p q)
theorem ad3(O:Ord A lt){p q r:List A}(h1:leA lt p q)(h2:leA lt q r):leA lt p r:=by
 rcases h1 with h1|⟨h1,l1⟩
 ·rcases h2 with h2|⟨h2,_⟩
  ·exact .inl (by omega)
  ·exact .inl (by omega)
 ·rcases h2 with h2|⟨h2,l2⟩
  ·exact .inl (by omega)
  ·exact .inr ⟨h1.trans h2,kG O h1 h2 l1 l2⟩
theorem tD{g:Nat→A}{n:Nat}(hg:∀i j,i<j→j<n→lt (g i) (g j)):∀{p q:List Nat},(∀a∈q,a<n)→pU p q→zJ lt (p.map g) (q.map g)
 | [],[],_,_=>trivial
 | [],_::_,_,_=>trivial
 |_::_,[],_,_=>trivial
 |a::p,b::q,hb,h=>by
  rcases h with h|⟨rfl,h⟩
  ·exact .inl (hg a b h (hb b (by simp)))
  ·exact .inr ⟨rfl,tD hg (fun c hc=>hb c (by simp[hc])) h⟩
theorem amI{g:Nat→A}{n:Nat}(hg:∀i j,i<j→j<n→lt (g i) (g j)){p q:List Nat}(hq:∀a∈q,a<n)(h:le2 p q):leA lt (p.map g) (q.map g):=by
 rcases h with h|⟨h,l⟩
 ·exact .inl (by simpa using h)
 ·exact .inr ⟨by simpa using h,tD hg hq l⟩
def Ys(stp:V→A→V)(v:V)(w:List A):V:=w.foldl stp v
theorem run_map(stp:V→A→V)(g:Nat→A):∀(w:List Nat) (v:V),Ys stp v (w.map g)=run (fun v i=>stp v (g i)) v w
 | [],_=>rfl
 |a::w,v=>by
  show Ys stp (stp v (g a)) (w.map g)=run _ (stp v (g a)) w
  exact run_map stp g w _
def aq9(lt:A→A→Prop)(stp:V→A→V)(g:Nat→A)(n:Nat)(a:A):Prop:=∃i,i<n∧(∀v,stp v (g i)=stp v a)∧(g i=a∨lt (g i) a)
theorem uK{stp:V→A→V}{g:Nat→A}{n:Nat}:∀{Q:List A},(∀a∈Q,aq9 lt stp g n a)→∀v,∃w:List Nat,w.length=Q.length∧(∀i∈w,i<n)∧Ys stp v (w.map g)=Ys stp v Q∧zJ lt (w.map g) Q
 | [],_,v=>⟨[],rfl,by simp,rfl,trivial⟩
 |a::Q,h,v=>by
  obtain⟨i,h1,h2,h3⟩:=h a (by simp)
  obtain⟨w,w1,w2,w3,w4⟩:=uK (Q:=Q) (fun b hb=>h b (by simp[hb])) (stp v a)
  refine⟨i::w,by simp[w1],fun j hj=>?_,?_,?_⟩
  ·rcases aaK.1 hj with rfl|hj
   ·exact h1
   ·exact w2 j hj
  ·show Ys stp (stp v (g i)) (w.map g)=Ys stp (stp v a) Q
   rw[h2,w3]
  ·rcases h3 with h3|h3
   ·exact .inr ⟨h3,w4⟩
   ·exact .inl h3
theorem BF.labels(O:Ord A lt){stp:V→A→V}{g:Nat→A}{n:Nat}(hg:∀i j,i<j→j<n→lt (g i) (g j)){v0:V}{D:List (V × List Nat)}(B:BF (fun v i=>stp v (g i)) n v0 D D.length 0){Q:List A}(hQ:∀a∈Q,aq9 lt stp g n a):∃(k:Nat) (x:V × List Nat),D[k]?=some x∧x.1=Ys stp v0 Q∧leA lt (x.2.map g) Q:=by
 obtain⟨w,w1,w2,w3,w4⟩:=uK hQ v0
 obtain⟨k,x,h1,h2,h3⟩:=B.best w.length w rfl w2
 refine⟨k,x,h1,by rw[h2,←run_map,w3],ad3 O (amI hg w2 h3) (.inr ⟨by simpa using w1,w4⟩)⟩
end Bfs
end Go.Ev
namespace Go.Ev
namespace Bfs
theorem yF{C:Type}(w:Int→C)(lo:Int):∀(d:Nat) (r:Int),lo≤r→r-lo=d→∃n,lo≤n∧n≤r∧w n=w r∧(n=lo∨w n≠w (n-1)):=by
 intro d
 induction d with
 |zero=>intro r h e;exact⟨r,h,adV _,rfl,.inl (by omega)⟩
 |succ d ih=>
  intro r h e
  by_cases hc:w r=w (r-1)
  ·obtain⟨n,h1,h2,h3,h4⟩:=ih (r-1) (by omega) (by omega)
   exact⟨n,h1,by omega,by rw[h3,hc],h4⟩
  ·exact⟨r,h,adV _,rfl,.inr hc⟩
structure Sep{C:Type}(lo hi:Int)(w:Int→C)(L:List Int):Prop where
 inc:L.Pairwise (· < ·)
 ok:∀n∈L,lo≤n∧n≤hi
 all:∀r,lo≤r→r≤hi→∃n∈L,n≤r∧w n=w r
def Lq{A:Type}(ok:A→Bool)(w:A→Int):List A→List Int→List A
 | [],_=>[]
 |n::l,met=>if ok n=true∧w n∉met then n::Lq ok w l (met++[w n])else Lq ok w l met
theorem Tq{A:Type}{ok:A→Bool}{w:A→Int}:∀{l:List A} {met:List Int} {n:A},n∈Lq ok w l met→n∈l∧ok n=true∧w n∉met
 | [],_,_,h=>by cases h
 |a::l,met,n,h=>by
  unfold Lq at h
  split at h
  ·rename_i hc
   rcases aaK.1 h with rfl|h
   ·exact⟨by simp,hc⟩
   ·obtain⟨h1,h2,h3⟩:=Tq h
    exact⟨by simp[h1],h2,fun hm=>h3 (by simp[hm])⟩
  ·obtain⟨h1,h2,h3⟩:=Tq h
   exact⟨by simp[h1],h2,h3⟩
theorem bK{A:Type}{ok:A→Bool}{w:A→Int}{R S:A→A→Prop}(hS:∀a b,R a b→w a≠w b→S a b):∀{l:List A} {met:List Int},l.Pairwise R→(Lq ok w l met).Pairwise S
 | [],_,_=>List.Pairwise.nil
 |a::l,met,h=>by
  obtain⟨h1,h2⟩:=aa3.1 h
  unfold Lq
  split
  ·refine aa3.2 ⟨fun b hb=>?_,bK hS h2⟩
   obtain⟨m1,_,m3⟩:=Tq hb
   exact hS a b (h1 b m1) fun e=>m3 (by simp[e])
  ·exact bK hS h2
theorem Yn{A:Type}{ok:A→Bool}{w:A→Int}{R:A→A→Prop}:∀{l:List A} {met:List Int},l.Pairwise R→∀{a:A},a∈l→ok a=true→w a∈met∨∃b∈Lq ok w l met,w b=w a∧(b=a∨R b a)
 | [],_,_,_,h,_=>by cases h
 |b::l,met,hp,a,h,ha=>by
  obtain⟨h1,h2⟩:=aa3.1 hp
  unfold Lq
  split
  ·rename_i hc
   rcases aaK.1 h with rfl|h
   ·exact .inr ⟨_,by simp,rfl,.inl rfl⟩
   ·rcases Yn (met:=met++[w b]) h2 h ha with hm|⟨c,c1,c2,c3⟩
    ·rcases acI.1 hm with hm|hm
     ·exact .inl hm
     ·simp only[List.mem_singleton]at hm
      exact .inr ⟨b,by simp,hm.symm,.inr (h1 a h)⟩
    ·exact .inr ⟨c,by simp[c1],c2,c3⟩
  ·rename_i hc
   rcases aaK.1 h with rfl|h
   ·by_cases hm:w a∈met
    ·exact .inl hm
    ·exact absurd ⟨ha,hm⟩ hc
   ·exact Yn h2 h ha
theorem agS{lo hi:Int}{w:Int→Int}{l:List Int}{ok:Int→Bool}(hok:∀n,ok n=true↔lo≤n∧n≤hi)(hs:l.Pairwise (· ≤·))(h0:lo∈l)(hc:∀n,lo<n→n≤hi→w n≠w (n-1)→n∈l):Sep lo hi w (Lq ok w l []):=
 ⟨bK (R:=(· ≤·)) (fun a b h1 h2=>by
     have:a≠b:=fun e=>h2 (by rw[e])
     omega) hs,fun n h=>(hok n).1 (Tq h).2.1,fun r h1 h2=>by
   obtain⟨n,a,b,c,d⟩:=yF w lo (r-lo).toNat r h1 (by omega)
   have hn:n∈l:=by
    rcases d with d|d
    ·rw[d];exact h0
    ·by_cases e:n=lo
     ·rw[e];exact h0
     ·exact hc n (by omega) (by omega) d
   rcases Yn (ok:=ok) (w:=w) (met:=[]) hs hn ((hok n).2 ⟨a,by omega⟩)with hm|⟨m,m1,m2,m3⟩
   ·cases hm
   ·refine⟨m,m1,?_,by rw[m2,c]⟩
    rcases m3 with m3|m3
    ·omega
    ·have:m≤n:=m3
     omega⟩
def ltR:List Int→List Int→Prop
 |a::p,b::q=>a<b∨(a=b∧ltR p q)
 |_,_=>False
theorem abG:∀p,¬ltR p p
 | [],h=>h
 |a::p,h=>by
  rcases h with h|⟨_,h⟩
  ·omega
  ·exact abG p h
theorem xT:∀{p q r:List Int},ltR p q→ltR q r→ltR p r
 | [],_,_,h,_=>by cases h
 |_::_,[],_,h,_=>by cases h
 |_::_,_::_,[],_,h=>by cases h
 |a::p,b::q,c::r,h1,h2=>by
  rcases h1 with h1|⟨rfl,h1⟩
  ·rcases h2 with h2|⟨rfl,_⟩
   ·exact .inl (by omega)
   ·exact .inl h1
  ·rcases h2 with h2|⟨rfl,h2⟩
   ·exact .inl h2
   ·exact .inr ⟨rfl,xT h1 h2⟩
def Qx:List (List Int)→List (List Int)
 | []=>[[]]
 |l::ls=>l.flatMap fun n=>(Qx ls).map (n::·)
theorem Md{A B:Type}{R:A→A→Prop}{S:B→B→Prop}{f:A→List B}:∀{l:List A},l.Pairwise R→(∀a∈l,(f a).Pairwise S)→(∀a b,R a b→∀x∈f a,∀y∈f b,S x y)→(l.flatMap f).Pairwise S
 | [],_,_,_=>by simp
 |a::l,h,h1,h2=>by
  obtain⟨p1,p2⟩:=aa3.1 h
  rw[List.flatMap_cons]
  refine List.pairwise_append.2 ⟨h1 a (by simp),Md p2 (fun b hb=>h1 b (by simp[hb])) h2,fun x hx y hy=>?_⟩
  obtain⟨b,hb,hy⟩:=acM.1 hy
  exact h2 a b (p1 b hb) x hx y hy
theorem sL:∀{ls:List (List Int)},(∀l∈ls,l.Pairwise (· < ·))→(Qx ls).Pairwise ltR
 | [],_=>List.pairwise_singleton _ _
 |l::ls,h=>by
  unfold Qx
  refine Md (h l (by simp)) (fun n _=>?_) fun a b hab x hx y hy=>?_
  ·exact af9.2 ((sL fun m hm=>h m (by simp[hm])).imp fun h=>.inr ⟨rfl,h⟩)
  ·obtain⟨p,_,rfl⟩:=aa0.1 hx
   obtain⟨q,_,rfl⟩:=aa0.1 hy
   exact .inl hab
def Cls{C:Type}(w:Nat→Int→C):Nat→List Int→List Int→Prop
 |_,[],[]=>True
 |k,a::p,b::q=>w k a=w k b∧Cls w (k+1) p q
 |_,_,_=>False
def bR{C:Type}(lo hi:Int)(w:Nat→Int→C):Nat→List (List Int)→Prop
 |_,[]=>True
 |k,l::ls=>Sep lo hi (w k) l∧bR lo hi w (k+1) ls
theorem bR.inc{C:Type}{lo hi:Int}{w:Nat→Int→C}:∀{ls:List (List Int)} {k:Nat},bR lo hi w k ls→∀l∈ls,l.Pairwise (· < ·)
 |_::_,k,h,l,hl=>by
  rcases aaK.1 hl with rfl|hl
  ·exact h.1.inc
  ·exact bR.inc h.2 l hl
theorem bR.row{C:Type}{lo hi:Int}{w:Nat→Int→C}:∀{ls:List (List Int)} {k:Nat},bR lo hi w k ls→∀p∈Qx ls,p.length=ls.length∧∀n∈p,lo≤n∧n≤hi
 | [],_,_,p,hp=>by simp[Qx]at hp;subst hp;simp
 |l::ls,k,h,p,hp=>by
  obtain⟨n,hn,hp⟩:=acM.1 hp
  obtain⟨q,hq,rfl⟩:=aa0.1 hp
  obtain⟨h1,h2⟩:=bR.row h.2 q hq
  refine⟨by simp[h1],fun m hm=>?_⟩
  rcases aaK.1 hm with rfl|hm
  ·exact h.1.ok _ hn
  ·exact h2 m hm
theorem bR.all{C:Type}{lo hi:Int}{w:Nat→Int→C}:∀{ls:List (List Int)} {k:Nat},bR lo hi w k ls→∀x:List Int,x.length=ls.length→(∀n∈x,lo≤n∧n≤hi)→∃y∈Qx ls,Cls w k y x∧(y=x∨ltR y x)
 | [],_,_,x,hl,_=>by
   obtain rfl:=af8.1 hl
   exact⟨[],by simp[Qx],trivial,.inl rfl⟩
 |l::ls,k,h,[],hl,_=>by simp at hl
 |l::ls,k,h,r::x,hl,hx=>by
  simp only[abO,acY]at hl
  obtain⟨y,y1,y2,y3⟩:=bR.all h.2 x hl fun n hn=>hx n (by simp[hn])
  obtain⟨r1,r2⟩:=hx r (by simp)
  obtain⟨n,n1,n2,n3⟩:=h.1.all r r1 r2
  refine⟨n::y,acM.2 ⟨n,n1,aa0.2 ⟨y,y1,rfl⟩⟩,⟨n3,y2⟩,?_⟩
  by_cases e:n=r
  ·subst e
   rcases y3 with rfl|y3
   ·exact .inl rfl
   ·exact .inr (.inr ⟨rfl,y3⟩)
  ·exact .inr (.inl (by omega))
def ltS(a b:List Int × Int):Prop:=ltR a.1 b.1∨(a.1=b.1∧a.2<b.2)
theorem amL:Ord (List Int × Int) ltS:=⟨fun a h=>by
 rcases h with h|⟨_,h⟩
 ·exact abG _ h
 ·omega,fun a b c h1 h2=>by
 rcases h1 with h1|⟨e1,h1⟩
 ·rcases h2 with h2|⟨e2,_⟩
  ·exact .inl (xT h1 h2)
  ·exact .inl (e2▸h1)
 ·rcases h2 with h2|⟨e2,h2⟩
  ·exact .inl (e1▸h2)
  ·exact .inr ⟨e1.trans e2,by omega⟩⟩
def eS(cs:List Int)(rows:List (List Int)):List (List Int × Int):=rows.flatMap fun r=>cs.map fun c=>(r,c)
theorem ajV{cs:List Int}(hc:cs.Pairwise (· < ·)){rows:List (List Int)}(h:rows.Pairwise ltR):(eS cs rows).Pairwise ltS:=
 Md h (fun r _=>af9.2 (hc.imp fun h=>.inr ⟨rfl,h⟩)) fun a b hab x hx y hy=>by
  obtain⟨c,_,rfl⟩:=aa0.1 hx
  obtain⟨d,_,rfl⟩:=aa0.1 hy
  exact .inl hab
theorem oM{cs:List Int}{rows:List (List Int)}{x:List Int × Int}:x∈eS cs rows↔x.1∈rows∧x.2∈cs:=by
 unfold eS
 constructor
 ·intro h
  obtain⟨r,hr,h⟩:=acM.1 h
  obtain⟨c,hc,rfl⟩:=aa0.1 h
  exact⟨hr,hc⟩
 ·intro h
  exact acM.2 ⟨x.1,h.1,aa0.2 ⟨x.2,h.2,rfl⟩⟩
theorem atI{A:Type}[Inhabited A]{R:A→A→Prop}{l:List A}(h:l.Pairwise R):∀i j,i<j→j<l.length→R (l.getD i default) (l.getD j default):=fun i j hij hj=>by
 have h1:l.getD i default=l[i]'(by omega):=by rw[agA,ae2 (by omega)];rfl
 have h2:l.getD j default=l[j]:=by rw[agA,ae2 hj];rfl
 rw[h1,h2]
 exact List.pairwise_iff_getElem.1 h i j (by omega) hj hij
end Bfs
end Go.Ev
namespace Go.Ev
namespace Bfs
section
variable {V:Type} (safe:V→Bool) (sc:V→V→Prop)
def Rn:V→Nat→Prop
 |_,0=>True
 |v,n+1=>safe v=false∧(n=0∨∃w,sc v w∧Rn w n)
end
variable {V:Type} {safe:V→Bool} {sc:V→V→Prop}
theorem Rn.pred:∀{n:Nat} {v:V},Rn safe sc v (n+1)→Rn safe sc v n
 |0,_,_=>trivial
 |n+1,v,h=>⟨h.1,by
  rcases h.2 with h2|⟨w,h2,h3⟩
  ·omega
  ·by_cases e:n=0
   ·exact .inl e
   ·exact .inr ⟨w,h2,Rn.pred h3⟩⟩
theorem Rn.le{v:V}:∀{n k:Nat},k≤n→Rn safe sc v n→Rn safe sc v k
 |0,k,hk,h=>by obtain rfl:k=0:=by omega
               exact h
 |n+1,k,hk,h=>by
  by_cases e:k=n+1
  ·subst e;exact h
  ·exact Rn.le (by omega) h.pred
theorem Rn.step{v w:V}{n:Nat}(hs:safe v=false)(h:sc v w)(hn:Rn safe sc w n):Rn safe sc v (n+1):=by
 refine⟨hs,?_⟩
 by_cases e:n=0
 ·exact .inl e
 ·exact .inr ⟨w,h,hn⟩
def Top(safe:V→Bool)(sc:V→V→Prop)(P:V→Prop)(N:Nat):Prop:=(∀v,P v→¬Rn safe sc v (N+1))∧(N=0∨∃v,P v∧Rn safe sc v N)
theorem Px{A:Type}:∀{l k:List A},l.Nodup→(∀x∈l,x∈k)→l.length≤k.length
 | [],_,_,_=>by simp
 |a::l,k,h,hs=>by
  obtain⟨h1,h2⟩:=ae4.1 h
  obtain⟨s,t,rfl⟩:=List.append_of_mem (hs a (by simp))
  have:=Px (l:=l) (k:=s++t) h2 fun x hx=>by
   have h3:=hs x (by simp[hx])
   simp only[acI,aaK]at h3 ⊢
   rcases h3 with h3|rfl|h3
   ·exact .inl h3
   ·exact absurd hx h1
   ·exact .inr h3
  simp only[List.length_append,abO]at this ⊢
  omega
theorem Top.few{P:V→Prop}{N:Nat}(h:Top safe sc P N)(hP:∀v w,P v→sc v w→P w){D:List V}(hD:∀v,P v→v∈D):N≤D.length:=by
 have down:∀(d j:Nat),j+d=N→1≤j→∃v,P v∧Rn safe sc v j∧¬Rn safe sc v (j+1):=by
  intro d
  induction d with
  |zero=>
   intro j hj h1
   rcases h.2 with e|⟨v,h2,h3⟩
   ·omega
   ·obtain rfl:j=N:=by omega
    exact⟨v,h2,h3,h.1 v h2⟩
  |succ d ih=>
   intro j hj h1
   obtain⟨v,v1,v2,v3⟩:=ih (j+1) (by omega) (by omega)
   rcases v2.2 with e|⟨w,w1,w2⟩
   ·omega
   ·exact⟨w,hP v w v1 w1,w2,fun hw=>v3 (Rn.step v2.1 w1 hw)⟩
 have ex:∀n,n≤N→∃l:List V,l.length=n∧l.Nodup∧(∀v∈l,P v∧∃j,N-n<j∧j≤N∧Rn safe sc v j∧¬Rn safe sc v (j+1)):=by
  intro n
  induction n with
  |zero=>intro _;exact⟨[],rfl,ae7,by simp⟩
  |succ n ih=>
   intro hn
   obtain⟨l,l1,l2,l3⟩:=ih (by omega)
   obtain⟨v,v1,v2,v3⟩:=down n (N-n) (by omega) (by omega)
   refine⟨v::l,by simp[l1],ae4.2 ⟨fun hv=>?_,l2⟩,fun u hu=>?_⟩
   ·obtain⟨_,j,j1,_,j3,_⟩:=l3 v hv
    exact v3 (j3.le (by omega))
   ·rcases aaK.1 hu with rfl|hu
    ·exact⟨v1,N-n,by omega,by omega,v2,v3⟩
    ·obtain⟨u1,j,j1,j2,j3⟩:=l3 u hu
     exact⟨u1,j,by omega,j2,j3⟩
 obtain⟨l,l1,l2,l3⟩:=ex N (aaA _)
 rw[←l1]
 exact Px l2 fun v hv=>hD v (l3 v hv).1
end Bfs
end Go.Ev
namespace Go.Ev
namespace Bfs
theorem azW{V:Type}{safe:V→Bool}{sc:V→V→Prop}{P:V→Prop}(hP:∀v w,P v→sc v w→P w){D:List V}(hD:∀v,P v→v∈D){v:V}{N:Nat}(hv:P v)(h1:Rn safe sc v N)(h2:¬Rn safe sc v (N+1)):N≤D.length:=by
 let Q:V→Prop:=fun w=>P w∧¬Rn safe sc w (N+1)
 have down:∀(d j:Nat),j+d=N→1≤j→∃v,P v∧Rn safe sc v j∧¬Rn safe sc v (j+1):=by
  intro d
  induction d with
  |zero=>
   intro j hj _
   obtain rfl:j=N:=by omega
   exact⟨v,hv,h1,h2⟩
  |succ d ih=>
   intro j hj h1
   obtain⟨v,v1,v2,v3⟩:=ih (j+1) (by omega) (by omega)
   rcases v2.2 with e|⟨w,w1,w2⟩
   ·omega
   ·exact⟨w,hP v w v1 w1,w2,fun hw=>v3 (Rn.step v2.1 w1 hw)⟩
 have ex:∀n,n≤N→∃l:List V,l.length=n∧l.Nodup∧(∀v∈l,P v∧∃j,N-n<j∧j≤N∧Rn safe sc v j∧¬Rn safe sc v (j+1)):=by
  intro n
  induction n with
  |zero=>intro _;exact⟨[],rfl,ae7,by simp⟩
  |succ n ih=>
   intro hn
   obtain⟨l,l1,l2,l3⟩:=ih (by omega)
   obtain⟨v,v1,v2,v3⟩:=down n (N-n) (by omega) (by omega)
   refine⟨v::l,by simp[l1],ae4.2 ⟨fun hv=>?_,l2⟩,fun u hu=>?_⟩
   ·obtain⟨_,j,j1,_,j3,_⟩:=l3 v hv
    exact v3 (j3.le (by omega))
   ·rcases aaK.1 hu with rfl|hu
    ·exact⟨v1,N-n,by omega,by omega,v2,v3⟩
    ·obtain⟨u1,j,j1,j2,j3⟩:=l3 u hu
     exact⟨u1,j,by omega,j2,j3⟩
 obtain⟨l,l1,l2,l3⟩:=ex N (aaA _)
 rw[←l1]
 exact Px l2 fun v hv=>hD v (l3 v hv).1
variable {V A:Type} [DecidableEq V] {safe:V→Bool} {sc:V→V→Prop}
structure DS(V:Type) where
 W:List V
 val:V→Int
 e:Bool
def DS.put(s:DS V)(v:V)(x:Int):DS V:=⟨if v∈s.W then s.W else s.W++[v],fun y=>if y=v then x else s.val y,s.e⟩
def zW{V A:Type}[DecidableEq V](safe:V→Bool)(inc:Int→Int)(dng:A→Bool)(stp:V→A→V)(sg:List A):Nat→V→DS V→Int × DS V
 |0,_,s=>(0,s)
 |f+1,v,s=>if safe v=true then(0,s)else if v∈s.W then(s.val v,{ s with e:=s.e||decide (s.val v<0) })else
  let r:=sg.foldl (fun(r:Int × DS V) a=>if dng a=true∧r.2.e=false then let q:=zW safe inc dng stp sg f (stp v a) r.2;(max r.1 q.1,q.2)else r) (0,s.put v (-1))
  (inc r.1,r.2.put v (inc r.1))
structure DOk(safe:V→Bool)(sc:V→V→Prop)(P:V→Prop)(gray:V→Prop)(s:DS V):Prop where
 nd:s.W.Nodup
 p:∀g∈s.W,P g
 gr:∀g∈s.W,s.val g<0↔gray g
 gw:∀g,gray g→g∈s.W
 bl:∀g∈s.W,¬gray g→∃x:Nat,s.val g=x∧Rn safe sc g x∧¬Rn safe sc g (x+1)
theorem auK{P:V→Prop}(hP:∀v w,P v→sc v w→P w){D:List V}(hD:∀v,P v→v∈D){inc:Int→Int}(hi:∀n:Int,0≤n→n≤D.length→inc n=n+1){dng:A→Bool}{stp:V→A→V}{sg:List A}(hsc:∀v w,sc v w↔∃a∈sg,dng a=true∧stp v a=w):
 ∀(f:Nat) (v:V) (s:DS V) (gray:V→Prop),P v→s.e=false→DOk safe sc P gray s→D.length<s.W.length+f→(∀g,gray g→∀n,Rn safe sc v n→Rn safe sc g (n+1))→
  let q:=zW safe inc dng stp sg f v s
  (q.2.e=true→∃g,P g∧∀n,Rn safe sc g n)∧(q.2.e=false→s.W.length≤q.2.W.length∧DOk safe sc P gray q.2∧∃n:Nat,q.1=n∧Rn safe sc v n∧¬Rn safe sc v (n+1)):=by
 intro f
 induction f with
 |zero=>
  intro v s gray hv he hk hf _
  have:=Px hk.nd fun x hx=>hD x (hk.p x hx)
  omega
 |succ f ih=>
  intro v s gray hv he hk hf hg
  unfold zW
  by_cases hs:safe v=true
  ·rw[if_pos hs]
   refine⟨fun h=>(by simp only[he]at h;cases h),fun _=>⟨aaA _,hk,0,rfl,trivial,fun h=>?_⟩⟩
   exact absurd h.1 (by rw[hs];simp)
  rw[if_neg hs]
  have hs':safe v=false:=by simpa using hs
  by_cases hw:v∈s.W
  ·rw[if_pos hw]
   by_cases hgr:gray v
   ·have hlt:=(hk.gr v hw).2 hgr
    refine⟨fun _=>⟨v,hv,fun n=>?_⟩,fun h=>(by simp[hlt]at h)⟩
    induction n with
    |zero=>trivial
    |succ n ihn=>exact hg v hgr n ihn
   ·have hlt:¬s.val v<0:=fun h=>hgr ((hk.gr v hw).1 h)
    obtain⟨x,x1,x2⟩:=hk.bl v hw hgr
    refine⟨fun h=>(by simp[hlt,he]at h),fun _=>⟨aaA _,?_,x,x1,x2⟩⟩
    exact⟨hk.nd,hk.p,hk.gr,hk.gw,hk.bl⟩
  rw[if_neg hw]
  have put1:(s.put v (-1)).W=s.W++[v]:=by unfold DS.put;rw[if_neg hw]
  have hgv:¬gray v:=fun h=>hw (hk.gw v h)
  have k1:DOk safe sc P (fun g=>gray g∨g=v) (s.put v (-1)):=by
   refine⟨?_,fun g hg=>?_,fun g hgw=>?_,fun g hg=>?_,fun g hgw hng=>?_⟩
   ·rw[put1]
    exact agB.2 ⟨hk.nd,by simp,fun a ha b hb=>by simp at hb;subst hb;exact fun e=>hw (e▸ha)⟩
   ·rw[put1]at hg
    rcases acI.1 hg with hg|hg
    ·exact hk.p g hg
    ·simp at hg;subst hg;exact hv
   ·show(if g=v then(-1:Int)else s.val g)<0↔_
    by_cases e:g=v
    ·rw[if_pos e];exact⟨fun _=>.inr e,fun _=>by omega⟩
    ·rw[if_neg e,hk.gr g (by rw[put1]at hgw;simpa [e]using hgw)]
     exact⟨.inl,fun h=>h.resolve_right e⟩
   ·rw[put1]
    rcases hg with hg|rfl
    ·simp[hk.gw g hg]
    ·simp
   ·obtain⟨n1,n2⟩:=not_or.1 hng
    obtain⟨x,x1,x2⟩:=hk.bl g (by rw[put1]at hgw;simpa [n2]using hgw) n1
    refine⟨x,?_,x2⟩
    show(if g=v then(-1:Int)else s.val g)=_
    rw[if_neg n2,x1]
  have hg1:∀g,(gray g∨g=v)→∀w,sc v w→∀n,Rn safe sc w n→Rn safe sc g (n+1):=fun g hgg w hw n hn=>by
   have h1:=Rn.step hs' hw hn
   rcases hgg with hgg|rfl
   ·exact(hg g hgg _ h1).pred
   ·exact h1
  have loop:∀(l:List A) (r:Int × DS V),(∀a∈l,a∈sg)→((r.2.e=true→∃g,P g∧∀n,Rn safe sc g n)∧(r.2.e=false→s.W.length+1≤r.2.W.length∧DOk safe sc P (fun g=>gray g∨g=v) r.2∧∃n:Nat,r.1=n∧Rn safe sc v n∧n≤D.length∧(n=0∨Rn safe sc v (n+1))))→
   let r':=l.foldl (fun(r:Int × DS V) a=>if dng a=true∧r.2.e=false then let q:=zW safe inc dng stp sg f (stp v a) r.2;(max r.1 q.1,q.2)else r) r
   (r'.2.e=true→∃g,P g∧∀n,Rn safe sc g n)∧(r'.2.e=false→r.2.e=false∧s.W.length+1≤r'.2.W.length∧DOk safe sc P (fun g=>gray g∨g=v) r'.2∧r.1≤r'.1∧(∃n:Nat,r'.1=n∧n≤D.length∧(n=0∨Rn safe sc v (n+1)))∧∀a∈l,dng a=true→∀n:Nat,r'.1=n→¬Rn safe sc (stp v a) (n+1)):=by
   intro l
   induction l with
   |nil=>
    intro r _ hr
    refine⟨hr.1,fun h=>?_⟩
    obtain⟨h1,h2,n,h3,h4,h5⟩:=hr.2 h
    exact⟨h,h1,h2,adV _,⟨n,h3,h5⟩,by simp⟩
   |cons a l ihl=>
    intro r hl hr
    rw[aiO]
    by_cases hc:dng a=true∧r.2.e=false
    ·rw[if_pos hc]
     obtain⟨h1,h2,n,h3,h4,h5,h6⟩:=hr.2 hc.2
     have hsv:sc v (stp v a):=(hsc _ _).2 ⟨a,hl a (by simp),hc.1,rfl⟩
     have:=ih (stp v a) r.2 (fun g=>gray g∨g=v) (hP _ _ hv hsv) hc.2 h2 (by omega) fun g hgg=>hg1 g hgg _ hsv
     generalize hq:zW safe inc dng stp sg f (stp v a) r.2=q at this
     obtain⟨q1,q2⟩:=this
     have step:=ihl (max r.1 q.1,q.2) (fun b hb=>hl b (by simp[hb])) ⟨q1,fun he2=>by
      obtain⟨w1,w2,k,w3,w4,w5⟩:=q2 he2
      refine⟨by simp only;omega,w2,max n k,by simp only;omega,?_⟩
      have kD:=azW hP hD (hP _ _ hv hsv) w4 w5
      have hk1:Rn safe sc v (k+1):=Rn.step hs' hsv w4
      by_cases e:n≤k
      ·rw[ai2 e];exact⟨hk1.pred,kD,.inr hk1⟩
      ·rw[ajM (by omega)];exact⟨h4,h5,h6⟩⟩
     simp only at step ⊢
     refine⟨step.1,fun he2=>?_⟩
     obtain⟨s1,s2,s3,s4,⟨n',s5,s6⟩,s7⟩:=step.2 he2
     refine⟨hc.2,s2,s3,by omega,⟨n',s5,s6⟩,fun b hb hd n2 hn2=>?_⟩
     rcases aaK.1 hb with rfl|hb
     ·obtain⟨_,_,k,w3,w4,w5⟩:=q2 s1
      exact fun hr2=>w5 (hr2.le (by omega))
     ·exact s7 b hb hd n2 hn2
    ·rw[if_neg hc]
     have step:=ihl r (fun b hb=>hl b (by simp[hb])) hr
     simp only at step ⊢
     refine⟨step.1,fun he2=>?_⟩
     obtain⟨s1,s2,s3,s4,s5,s7⟩:=step.2 he2
     refine⟨s1,s2,s3,s4,s5,fun b hb hd n2 hn2=>?_⟩
     rcases aaK.1 hb with rfl|hb
     ·exact absurd ⟨hd,s1⟩ hc
     ·exact s7 b hb hd n2 hn2
  have fin:=loop sg (0,s.put v (-1)) (fun _ h=>h) ⟨fun h=>(by simp only[DS.put,he]at h;cases h),fun _=>⟨by rw[put1];simp,k1,0,rfl,trivial,Nat.zero_le _,.inl rfl⟩⟩
  simp only at fin ⊢
  generalize sg.foldl (fun(r:Int × DS V) a=>if dng a=true∧r.2.e=false then(max r.1 (zW safe inc dng stp sg f (stp v a) r.2).1,(zW safe inc dng stp sg f (stp v a) r.2).2)else r) (0,s.put v (-1))=r at fin
  refine⟨fin.1,fun he2=>?_⟩
  obtain⟨s1,s2,s3,s4,⟨n,s5,s6,s7⟩,s8⟩:=fin.2 he2
  have hinc:inc r.1=((n+1:Nat):Int):=by rw[hi r.1 (by omega) (by omega),s5];rfl
  have hvW:v∈r.2.W:=s3.gw v (.inr rfl)
  have put2:(r.2.put v (inc r.1)).W=r.2.W:=by unfold DS.put;rw[if_pos hvW]
  have hrn:Rn safe sc v (n+1):=by
   rcases s7 with rfl|h
   ·exact⟨hs',.inl rfl⟩
   ·exact h
  have hnr:¬Rn safe sc v (n+1+1):=fun h=>by
   rcases h.2 with e|⟨w,w1,w2⟩
   ·omega
   ·obtain⟨a,a1,a2,rfl⟩:=(hsc v w).1 w1
    exact s8 a a1 a2 n s5 w2
  refine⟨by rw[put2];omega,⟨by rw[put2];exact s3.nd,by rw[put2];exact s3.p,fun g hgw=>?_,fun g hg2=>by rw[put2];exact s3.gw g (.inl hg2),fun g hgw hng=>?_⟩,n+1,hinc,hrn,hnr⟩
  ·rw[put2]at hgw
   show(if g=v then inc r.1 else r.2.val g)<0↔_
   by_cases e:g=v
   ·subst e
    rw[if_pos rfl,hinc]
    exact⟨fun h=>by omega,fun h=>absurd h hgv⟩
   ·rw[if_neg e,s3.gr g hgw]
    exact⟨fun h=>h.resolve_right e,.inl⟩
  ·rw[put2]at hgw
   by_cases e:g=v
   ·subst e
    exact⟨n+1,by show(if g=g then inc r.1 else r.2.val g)=_;rw[if_pos rfl,hinc],hrn,hnr⟩
   ·obtain⟨x,x1,x2⟩:=s3.bl g hgw (fun h=>h.elim hng e)
    exact⟨x,by show(if g=v then inc r.1 else r.2.val g)=_;rw[if_neg e,x1],x2⟩
end Bfs
end Go.Ev
namespace Go.Ev
namespace Bfs
def DS.none{V:Type}:DS V:=⟨[],fun _=>0,false⟩
theorem DOk.none{V:Type}{safe:V→Bool}{sc:V→V→Prop}{P:V→Prop}:DOk safe sc P (fun _=>False) (DS.none:DS V):=⟨ae7,fun _ h=>(by cases h),fun _ h=>(by cases h),fun _ h=>False.elim h,fun _ h=>(by cases h)⟩
variable {V A B:Type} [DecidableEq V] {safe:V→Bool} {sc:V→V→Prop}
def iD{V A:Type}[DecidableEq V](safe:V→Bool)(inc:Int→Int)(dng:A→Bool)(stp:V→A→V)(sg:List A)(F:Nat):List V→Int→DS V→Option Int
 | [],out,_=>some out
 |v::l,out,s=>let q:=zW safe inc dng stp sg F v s
  if q.2.e=true then none else iD safe inc dng stp sg F l (max out q.1) q.2
theorem amE{P:V→Prop}(hP:∀v w,P v→sc v w→P w){D:List V}(hD:∀v,P v→v∈D){inc:Int→Int}(hi:∀n:Int,0≤n→n≤D.length→inc n=n+1){dng:A→Bool}{stp:V→A→V}{sg:List A}(hsc:∀v w,sc v w↔∃a∈sg,dng a=true∧stp v a=w){F:Nat}(hF:D.length<F):
 ∀(l:List V) (out:Nat) (s:DS V),(∀v∈l,P v)→s.e=false→DOk safe sc P (fun _=>False) s→(out=0∨∃v,P v∧Rn safe sc v out)→
  (iD safe inc dng stp sg F l out s=none→∃g,P g∧∀n,Rn safe sc g n)∧(∀N,iD safe inc dng stp sg F l out s=some N→∃k:Nat,N=k∧out≤k∧(k=0∨∃v,P v∧Rn safe sc v k)∧∀v∈l,¬Rn safe sc v (k+1)):=by
 intro l
 induction l with
 |nil=>
  intro out s _ _ _ ho
  refine⟨fun h=>(by simp[iD]at h),fun N h=>?_⟩
  simp only[iD,Option.some.injEq]at h
  exact⟨out,h.symm,aaA _,ho,by simp⟩
 |cons v l ih=>
  intro out s hl he hk ho
  have d:=auK hP hD hi hsc F v s (fun _=>False) (hl v (by simp)) he hk (by omega) (fun _ h=>h.elim)
  unfold iD
  generalize zW safe inc dng stp sg F v s=q at d
  obtain⟨d1,d2⟩:=d
  simp only
  by_cases h:q.2.e=true
  ·rw[if_pos h]
   exact⟨fun _=>d1 h,fun N hN=>(by cases hN)⟩
  ·rw[if_neg h]
   obtain⟨w1,w2,k,w3,w4,w5⟩:=d2 (by simpa using h)
   have e:max (out:Int) q.1=((max out k:Nat):Int):=by omega
   rw[e]
   have:=ih (max out k) q.2 (fun u hu=>hl u (by simp[hu])) (by simpa using h) w2 (by
    by_cases c:out≤k
    ·rw[ai2 c];exact .inr ⟨v,hl v (by simp),w4⟩
    ·rw[ajM (by omega)];exact ho)
   refine⟨this.1,fun N hN=>?_⟩
   obtain⟨j,j1,j2,j3,j4⟩:=this.2 N hN
   refine⟨j,j1,by omega,j3,fun u hu=>?_⟩
   rcases aaK.1 hu with rfl|hu
   ·exact fun hr=>w5 (hr.le (by omega))
   ·exact j4 u hu
theorem al7{D:List V}(hP:∀v w,v∈D→sc v w→w∈D){inc:Int→Int}(hi:∀n:Int,0≤n→n≤D.length→inc n=n+1){dng:A→Bool}{stp:V→A→V}{sg:List A}(hsc:∀v w,sc v w↔∃a∈sg,dng a=true∧stp v a=w){F:Nat}(hF:D.length<F):
 (iD safe inc dng stp sg F D 0 DS.none=none→∃g∈D,∀n,Rn safe sc g n)∧(∀N,iD safe inc dng stp sg F D 0 DS.none=some N→∃k:Nat,N=k∧Top safe sc (· ∈D) k):=by
 have:=amE (safe:=safe) (P:=(· ∈D)) hP (fun _ h=>h) hi hsc hF D 0 DS.none (fun _ h=>h) rfl DOk.none (.inl rfl)
 refine⟨this.1,fun N hN=>?_⟩
 obtain⟨k,k1,_,k2,k3⟩:=this.2 N hN
 exact⟨k,k1,k3,k2⟩
theorem ac4{D:List V}(hP:∀v w,v∈D→sc v w→w∈D){inc:Int→Int}(hi:∀n:Int,0≤n→n≤D.length→inc n=n+1){dng:A→Bool}{stp:V→A→V}{sg:List A}(hsc:∀v w,sc v w↔∃a∈sg,dng a=true∧stp v a=w){F:Nat}(hF:D.length<F){N:Int}(h:iD safe inc dng stp sg F D 0 DS.none=some N):∃k:Nat,N=k∧k≤D.length∧∀v∈D,¬Rn safe sc v (k+1):=by
 obtain⟨k,k1,k2⟩:=(al7 (safe:=safe) hP hi hsc hF).2 N h
 exact⟨k,k1,k2.few hP fun _ h=>h,k2.1⟩
end Bfs
end Go.Ev
namespace Go.Ev
namespace Bfs
variable {V A:Type} [DecidableEq V] {safe:V→Bool}
def DW(P:V→Prop)(s:DS V):Prop:=s.W.Nodup∧∀g∈s.W,P g
theorem DW.put{P:V→Prop}{s:DS V}(h:DW P s){v:V}(hv:P v)(x:Int):DW P (s.put v x)∧s.W.length≤(s.put v x).W.length:=by
 unfold DS.put
 by_cases hw:v∈s.W
 ·rw[if_pos hw];exact⟨h,aaA _⟩
 ·rw[if_neg hw]
  refine⟨⟨agB.2 ⟨h.1,by simp,fun a ha b hb=>by simp at hb;subst hb;exact fun e=>hw (e▸ha)⟩,fun g hg=>?_⟩,by simp⟩
  rcases acI.1 hg with hg|hg
  ·exact h.2 g hg
  ·simp at hg;subst hg;exact hv
def Xk(safe:V→Bool)(inc:Int→Int)(dng:A→Bool)(stp:V→A→V)(sg:List A)(f:Nat)(v:V)(r:Int × DS V)(a:A):Int × DS V:=if dng a=true∧r.2.e=false then let q:=zW safe inc dng stp sg f (stp v a) r.2;(max r.1 q.1,q.2)else r
theorem vD(inc:Int→Int)(dng:A→Bool)(stp:V→A→V)(sg:List A)(f:Nat)(v:V)(s:DS V):zW safe inc dng stp sg (f+1) v s=if safe v=true then(0,s)else if v∈s.W then(s.val v,{ s with e:=s.e||decide (s.val v<0) })else
 (inc (sg.foldl (Xk safe inc dng stp sg f v) (0,s.put v (-1))).1,(sg.foldl (Xk safe inc dng stp sg f v) (0,s.put v (-1))).2.put v (inc (sg.foldl (Xk safe inc dng stp sg f v) (0,s.put v (-1))).1)):=rfl
theorem aqV{P:V→Prop}{inc:Int→Int}{dng:A→Bool}{stp:V→A→V}(hP:∀v a,P v→P (stp v a))(sg:List A):∀(f:Nat) (v:V) (s:DS V),P v→DW P s→DW P (zW safe inc dng stp sg f v s).2∧s.W.length≤(zW safe inc dng stp sg f v s).2.W.length:=by
 intro f
 induction f with
 |zero=>intro v s _ h;exact⟨h,aaA _⟩
 |succ f ih=>
  intro v s hv h
  rw[vD]
  by_cases hs:safe v=true
  ·rw[if_pos hs];exact⟨h,aaA _⟩
  rw[if_neg hs]
  by_cases hw:v∈s.W
  ·rw[if_pos hw];exact⟨h,aaA _⟩
  rw[if_neg hw]
  have loop:∀(l:List A) (r:Int × DS V),DW P r.2→DW P (l.foldl (Xk safe inc dng stp sg f v) r).2∧r.2.W.length≤(l.foldl (Xk safe inc dng stp sg f v) r).2.W.length:=by
   intro l
   induction l with
   |nil=>intro r hr;exact⟨hr,aaA _⟩
   |cons a l ihl=>
    intro r hr
    rw[aiO]
    have one:DW P (Xk safe inc dng stp sg f v r a).2∧r.2.W.length≤(Xk safe inc dng stp sg f v r a).2.W.length:=by
     unfold Xk
     split
     ·exact ih _ _ (hP _ _ hv) hr
     ·exact⟨hr,aaA _⟩
    obtain⟨k1,k2⟩:=ihl _ one.1
    exact⟨k1,by omega⟩
  obtain⟨p1,p2⟩:=h.put hv (-1)
  obtain⟨l1,l2⟩:=loop sg (0,s.put v (-1)) p1
  simp only at l1 l2
  obtain⟨q1,q2⟩:=l1.put hv (inc (sg.foldl (Xk safe inc dng stp sg f v) (0,s.put v (-1))).1)
  exact⟨q1,by simp only;omega⟩
end Bfs
end Go.Ev
namespace Go.Ev
noncomputable section
open Go.RowKit
def xX(x:Int):List Int→List Int
 | []=>[x]
 |y::l=>if x≤y then x::y::l else y::xX x l
def Ns:List Int→List Int
 | []=>[]
 |x::l=>xX x (Ns l)
theorem dQ(x:Int):∀l:List Int,(xX x l).Perm (x::l)
 | []=>List.Perm.refl _
 |y::l=>by
  unfold xX
  split
  ·exact List.Perm.refl _
  ·exact((dQ x l).cons y).trans (List.Perm.swap x y l)
theorem Ur:∀l:List Int,(Ns l).Perm l
 | []=>List.Perm.refl _
 |x::l=>(dQ x _).trans ((Ur l).cons x)
theorem eN(x:Int):∀{l:List Int},l.Pairwise (· ≤·)→(xX x l).Pairwise (· ≤·)
 | [],_=>by simp[xX]
 |y::l,h=>by
  rw[aa3]at h
  unfold xX
  split
  ·rename_i hxy
   refine aa3.2 ⟨fun z hz=>?_,aa3.2 h⟩
   rcases aaK.1 hz with rfl|hz
   ·exact hxy
   ·exact Int.le_trans hxy (h.1 z hz)
  ·rename_i hxy
   refine aa3.2 ⟨fun z hz=>?_,eN x h.2⟩
   rcases aaK.1 ((dQ x l).mem_iff.1 hz)with rfl|hz
   ·omega
   ·exact h.1 z hz
theorem Ul:∀l:List Int,(Ns l).Pairwise (· ≤·)
 | []=>List.Pairwise.nil
 |x::l=>eN x (Ul l)
theorem akX(l:List Int):(l.mergeSort fun x y=>decide (x≤y))=Ns l:=by
 have h1:=List.pairwise_mergeSort (le:=fun x y:Int=>decide (x≤y)) (by simp;omega) (by simp;omega) l
 refine List.Perm.eq_of_pairwise (le:=(· ≤·)) (fun a b _ _ h1 h2=>Int.le_antisymm h1 h2) ?_ (Ul l) ((List.mergeSort_perm l _).trans (Ur l).symm)
 simpa using h1
theorem nP(l:List Int):(Ns l).length=l.length:=(Ur l).length_eq
def Wb:List (List AV)→Option (List Int)
 | []=>some []
 | [.int .i64 n]::l=>(Wb l).map (n::·)
 |_=>none
theorem pM:∀{rows:List (List AV)} {l:List Int},Wb rows=some l→rows=l.map fun n=>[.int .i64 n]
 | [],l,h=>by simp[Wb]at h;subst h;rfl
 |r::rows,l,h=>by
  unfold Wb at h
  split at h
  ·rename_i e;cases e
  ·rename_i n l' e
   cases e
   obtain⟨l2,h2,rfl⟩:=afR.1 h
   rw[pM h2];rfl
  ·cases h
theorem zL(l:List Int):Wb (l.map fun n=>[.int .i64 n])=some l:=by
 induction l with
 |nil=>rfl
 |cons a l ih=>simp[Wb,ih]
def oI:List AV→Aa→Option (Dk × Aa)
 | [.slr 1 b 0 len],h=>match h[b]? with
   |some (.live 1 true _ rows)=>if rows.length=len∧1≤len∧len≤549755813888 then(Wb rows).map fun zs=>(.ret (.tup []),h.set b (.live 1 true true ((Ns zs).map fun n=>[.int .i64 n])))else none
   |_=>none
 |_,_=>none
section
variable {P:Program} {G:Nat→Option Obj}
theorem mE{w:World}{cb:Nat}{c:Array Value}{e:TypeId}{fz:Nat × Nat}(hk:w.heap[cb]?=some (.cells c e fz))(f:Array Value→Array Value):Go.Sort.mapBlock w cb f=setB w cb (.cells (f c) e fz):=by
 unfold Go.Sort.mapBlock setB
 congr 1
 apply Array.ext_getElem?
 intro k
 simp only[Array.getElem?_modify,Array.getElem?_setIfInBounds]
 by_cases h:cb=k
 ·subst h
  have hl:=(Array.getElem?_eq_some_iff.1 hk).1
  rw[if_pos rfl,if_pos rfl,if_pos hl,hk];rfl
 ·rw[if_neg h,if_neg h]
theorem uB(w:World)(n:Nat):Below w.heap.size w (Go.Sort.ahead w n) where
 os:=rfl
 tape:=rfl
 output:=rfl
 size:=aaA _
 block:=fun _ _=>rfl
theorem anX{f:Nat}(hen:∀args w,(callFunc f args).run P w=.ok (.enter f args) w)
 (hc:∀(blk off cap:Nat) (zs:List Int) (w:World),Go.Sort.Holds (Value.int .i64) w blk off zs.toArray→blk<w.heap.size→zs.length<4611686018427387904→
   Calls P f #[.slice (some ⟨blk,off,none⟩) zs.length cap] w fun e w'=>e=.returned (.tuple #[])∧∃n os,w'=Go.Sort.grow (Go.Sort.putRow (Value.int .i64) (Go.Sort.ahead w n) blk off (zs.mergeSort fun x y=>decide (x≤y)).toArray) os):qA P G f oI:=by
 intro args h out h' hp
 refine⟨hen,fun w S ρ cargs hI H dom all hargs=>?_⟩
 unfold oI at hp
 split at hp
 ·rename_i b len
  split at hp
  ·rename_i wr rows hg
   split at hp
   ·rename_i hl
    obtain⟨hl1,hl2,hl3⟩:=hl
    obtain⟨zs,hz,hp⟩:=afR.1 hp
    simp only[Prod.mk.injEq]at hp
    obtain⟨rfl,rfl⟩:=hp
    have hrows:=pM hz
    have hzl:zs.length=len:=by rw[←hl1,hrows];simp
    obtain⟨v,vs',e,hv,hn⟩:=hargs.cons_inv
    have:=hn.nil_inv
    subst this
    have ec:cargs=#[v]:=by apply Array.toList_inj.1;rw[e]
    subst ec
    have hbl:b<h.length:=(aa9.1 hg).1
    cases hv with
    |slrD hρ _=>have:=H.dead b hρ;rw[show hf h b=some _ from hg]at this;cases this
    | @slr _ _ _ _ cb co _ sz cap a hρ hle ha=>
      obtain⟨c,e',fz,fl',rows',k1,k2,k3,k4⟩:=H.at_ b cb co 1 sz hρ
      rcases k4 with⟨⟨wr',k4⟩,hS,hfz⟩|⟨k4,_⟩
      ·rw[show hf h b=some _ from hg]at k4
       cases k4
       rcases ha with ha|⟨rfl,hcap⟩
       ·omega
       have hco:co+len≤c.size:=by have:=k3.len;rw[hl1]at this;omega
       have hold:Go.Sort.Holds (Value.int .i64) w cb (co+0*1) zs.toArray:=fun j hj=>by
        have hj':j<zs.length:=by simpa using hj
        have hr:rows[j]?=some [AV.int .i64 zs[j]]:=by rw[hrows,aj8,ae2 hj'];rfl
        obtain⟨v,h1,h2⟩:=k3.cell j _ 0 _ hr rfl
        cases h2
        have hlt:co+j<c.size:=by omega
        refine⟨?_,nZ k1 (hfz _ (by rw[←k2];omega))⟩
        rw[aH k1]
        simp only[Nat.zero_mul,af4]
        have h1':c[co+j]?=some (Value.int .i64 zs[j]):=by simpa using h1
        rw[h1']
        simp[getElem!_pos,hj']
       rw[←hzl]
       refine(hc cb (co+0*1) cap zs w hold (H.lt hρ) (by omega)).mono fun e w' hw=>?_
       obtain⟨rfl,n,os,rfl⟩:=hw
       rw[akX]
       have hB1:=uB w n
       have H1:=H.below hB1
       have k1':(Go.Sort.ahead w n).heap[cb]?=some (.cells c e' fz):=k1
       have hsl:=nP zs
       generalize Ns zs=ys at *
       have hput:Go.Sort.putRow (Value.int .i64) (Go.Sort.ahead w n) cb (co+0*1) ys.toArray=setB (Go.Sort.ahead w n) cb (.cells (Go.Sort.putCells (Value.int .i64) (co+0*1) ys.toArray c) e' fz):=mE k1' _
       rw[hput]
       have hcs:(Go.Sort.putCells (Value.int .i64) (co+0*1) ys.toArray c).size=c.size:=by simp[Go.Sort.putCells]
       have hblk:Eg (Go.Sort.ahead w n) S ρ (Go.Sort.putCells (Value.int .i64) (co+0*1) ys.toArray c) co 1 true (ys.map fun n=>[.int .i64 n]):=by
        refine⟨by rw[hcs];simp;omega,fun r hr=>?_,fun _ r hr x hx=>?_,fun i r j x hr hx=>?_,fun r hr x hx=>?_⟩
        ·obtain⟨n,_,rfl⟩:=aa0.1 hr;rfl
        ·obtain⟨n,_,rfl⟩:=aa0.1 hr;simp at hx;subst hx;rfl
        ·rw[aj8]at hr
         obtain⟨m,hm,rfl⟩:=afR.1 hr
         have hi:i<ys.length:=(aa9.1 hm).1
         have hx':j=0∧x=.int .i64 m:=by
          cases j with
          |zero=>simp at hx;exact⟨rfl,hx.symm⟩
          |succ j=>simp at hx
         obtain⟨rfl,rfl⟩:=hx'
         refine⟨.int .i64 m,?_,.int _ _⟩
         simp only[Go.Sort.putCells,Array.getElem?_mapIdx,Nat.mul_one,af4,Nat.zero_mul,af4]
         rw[Array.getElem?_eq_getElem (by omega),Option.map_some,if_pos ⟨by omega,by simp;omega⟩,show co+i-co=i by omega]
         have:ys[i]?=some m:=hm
         have h2:=aa9.1 hm
         simp[getElem!_pos,h2.1,h2.2]
        ·obtain⟨n,_,rfl⟩:=aa0.1 hr;simp at hx;subst hx;rfl
       have H2:=H1.setLive (wr:=true) hρ hS (e:=e') (fz:=fz) (by rw[hcs];exact k2) hfz ⟨_,_,_,k1'⟩ hblk
       have hs2:=Ep.setB (w:=Go.Sort.ahead w n) hρ hS ⟨_,_,_,k1'⟩ (.cells (Go.Sort.putCells (Value.int .i64) (co+0*1) ys.toArray c) e' fz)
       generalize hw2:setB (Go.Sort.ahead w n) cb (.cells (Go.Sort.putCells (Value.int .i64) (co+0*1) ys.toArray c) e' fz)=w2 at *
       have hB3:=yM (w:=w2) (aaA _) os
       have H3:=H2.below hB3
       refine⟨.tuple #[],S,ρ,⟨⟨_,rfl⟩,rfl⟩,.tup rfl (fun i x v hx _=>by simp at hx),by rw[zI hbl];exact H3,((Ep.below H hB1).trans hs2).trans (Ep.below H2 hB3),fun b' hb'=>dom b' (by simpa using hb'),fun b' hb'=>all b' (by simpa using hb'),by simp,fun i x x' hx hx' hsm=>?_⟩
       by_cases e:i=b
       ·subst e
        rw[hg]at hx;cases hx
        rw[List.getElem?_set_self hbl]at hx';cases hx'
        simp[CB.same]at hsm
       ·refine⟨rfl,fun cb' co' st' sz' hb'=>?_⟩
        have hne:cb'≠cb:=fun q=>e (H.inj _ _ _ _ _ _ _ _ _ hb' (q▸hρ))
        have hl':cb'<w.heap.size:=H.lt hb'
        have hw2s:w2.heap.size=w.heap.size:=by rw[←hw2];simp[setB,Go.Sort.ahead]
        rw[hB3.block cb' (by rw[hw2s];exact hl'),←hw2,Aw hne]
        rfl
      ·rw[show hf h b=some _ from hg]at k4;cases k4
   ·cases hp
  ·cases hp
 ·cases hp
end
end
end Go.Ev
