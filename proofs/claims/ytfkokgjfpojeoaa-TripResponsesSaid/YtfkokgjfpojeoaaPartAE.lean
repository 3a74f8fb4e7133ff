/- The functions of the layer, walked. -/
import Derived.Test.YtfkokgjfpojeoaaPartAD
open List renaming length_map→acL,mem_map→acR,getElem?_eq_getElem→acZ,getElem?_append_left→aqD,mem_cons→aAM,replicate→aAO,getElem?_set_self→aAP,map_congr_left→aC6,mem_flatMap→aC7,map_cons→aEO,mem_range→aER,getElem?_append_right→aE9,length_cons→aG6,getElem?_set_ne→aHJ,getElem?_of_mem→aHM,mem_append→aIC,not_mem_nil→aID,range→aJZ,getElem?_eq_none→aKM,length_nil→aLD,getElem?_eq_some_iff→aLF,drop_eq_nil_of_le→aLG,mem_of_getElem?→aLH,pairwise_cons→aLI,mem_filter→aM9,nil_append→aON,find?_some→aOX,mem_of_find?_eq_some→aOY
open Eq renaming trans→aAN
open Bool renaming and_eq_true→aCF
open Option renaming bind_some→aLE
open Int renaming toNat_natCast→aOD
open Nat renaming add_sub_cancel_left→aOW,lt_of_lt_of_le→aOZ
set_option linter.unusedSimpArgs false
set_option linter.unusedVariables false
namespace Go.Proofs.Ytfkokgjfpojeoaa
open Go.Ev Go Go.Ev.Bfs
set_option maxRecDepth 100000
set_option maxHeartbeats 16000000
def wh(m:Ah)(k:Nat)(r:Int):Int:=aW k (Rb m k) r m.votes
theorem aUU{s:Db}{v:Au}{n:Int}(hl:s.lo≤s.hi)(h1:n≠s.lo)(h2:n≠s.hi+1)(h3:s.byp=true∨¬(n=(if v.above=true then v.level else v.level+1)∧s.lo<n∧n≤s.hi)):Re s v n=Re s v (n-1):=by
 cases hb:s.byp with
 |true=>unfold Re;rw[hb];rfl
 |false=>
  have h3:=h3.resolve_left (by rw[hb];simp)
  rw[Bool.eq_iff_iff]
  cases ha:v.above<;>simp[ha]at h3<;>simp[Re,ha,hb,Qy]<;>omega
theorem aJC{m:Ah}{k:Nat}{n:Int}(hl:(Rb m k).lo≤(Rb m k).hi)(h1:n≠(Rb m k).lo)(h2:n≠(Rb m k).hi+1)(h3:(Rb m k).byp=true∨∀v∈m.votes,¬(n=(if v.above=true then v.level else v.level+1)∧(Rb m k).lo<n∧n≤(Rb m k).hi)):wh m k n=wh m k (n-1):=by
 unfold wh aW al3
 congr 1
 refine aC6 fun v hv=>?_
 rw[aUU hl h1 h2 (h3.imp id fun h=>h v hv)]
theorem aNG(n:Int):mD n=true↔ -10000≤n∧n≤10000:=by simp[mD,Qy]
theorem aJY{m:Ah}{k:Nat}(hk:k<m.sens.length):Rb m k∈m.sens:=aLH (sY (k:=(k:Int)) (by simpa using hk))
theorem a3S{m:Ah}(hm:Ce m=true){k:Nat}(hk:k<m.sens.length):Sep (-10000) 10000 (wh m k) (rdF m k):=by
 obtain⟨q1,q2,q3⟩:=aqP hm (aJY hk)
 have mem:∀n,n∈fQ (tH (Rb m k) m.votes)↔n∈tH (Rb m k) m.votes:=fun n=>(zM _).mem_iff
 refine aZH aNG (abW _) ((mem _).2 (by simp[tH])) fun n h1 h2 h3=>(mem n).2 (Classical.byContradiction fun hn=>h3 ?_)
 simp only[tH,aIC,aAM,aID,or_false,aC7,not_or,not_exists,not_and]at hn
 refine aJC q2 hn.1.2.1 hn.1.2.2 (.inr fun v hv hc=>?_)
 have:=hn.2 v hv
 split at hc<;>omega
def aTC(m:Ah)(k:Nat):List Int:=(Rb m k).lo::((Rb m k).hi+1)::m.votes.flatMap fun v=>if(Rb m k).lo<(if v.above=true then v.level else v.level+1)∧(if v.above=true then v.level else v.level+1)≤(Rb m k).hi then [if v.above=true then v.level else v.level+1]else []
def upN:Nat→Int→List Int
 |0,_=>[]
 |d+1,n=>n::upN d (n+1)
theorem aD3:∀(d:Nat) (n x:Int),x∈upN d n↔n≤x∧x<n+d
 |0,n,x=>by simp[upN]<;>omega
 |d+1,n,x=>by simp only[upN,aAM,aD3 d];omega
theorem aZY:∀(d:Nat) (n:Int),(upN d n).Pairwise (· < ·)
 |0,_=>List.Pairwise.nil
 |d+1,n=>aLI.2 ⟨fun x hx=>by have:=(aD3 d _ x).1 hx;omega,aZY d _⟩
def Nz(m:Ah)(k:Nat):List Int:= -10000::if(Rb m k).byp=true then []else(upN 20000 (-9999)).filter fun n=>decide (n∈aTC m k)
theorem aUH{m:Ah}(hm:Ce m=true){k:Nat}(hk:k<m.sens.length):Sep (-10000) 10000 (wh m k) (Nz m k):=by
 obtain⟨q1,q2,q3⟩:=aqP hm (aJY hk)
 have hin:∀n∈(if(Rb m k).byp=true then([]:List Int)else(upN 20000 (-9999)).filter fun n=>decide (n∈aTC m k)),-9999≤n∧n≤10000:=fun n hn=>by
  split at hn
  ·cases hn
  ·have:=(aD3 _ _ _).1 (aM9.1 hn).1
   omega
 refine Sep.of (aLI.2 ⟨fun n hn=>by have:=hin n hn;omega,?_⟩) (fun n hn=>?_) (by simp[Nz]) fun n h1 h2 h3=>?_
 ·split
  ·exact List.Pairwise.nil
  ·exact(aZY _ _).filter _
 ·rcases aAM.1 hn with rfl|hn
  ·omega
  ·have:=hin n hn;omega
 ·refine List.mem_cons_of_mem _ ?_
  cases hb:(Rb m k).byp with
  |true=>
   exfalso;apply h3
   unfold wh aW al3
   congr 1
   refine aC6 fun v _=>?_
   simp[Re,hb]
  |false=>
   rw[if_neg (by simp)]
   refine aM9.2 ⟨(aD3 _ _ _).2 (by omega),decide_eq_true (Classical.byContradiction fun hn=>h3 ?_)⟩
   simp only[aTC,aAM,aC7,not_or,not_exists,not_and]at hn
   refine aJC q2 hn.1 hn.2.1 (.inr fun v hv hc=>?_)
   have:=hn.2.2 v hv
   rw[if_pos (by rw[←hc.1];exact hc.2)]at this
   simp only[List.mem_singleton]at this
   exact this hc.1
def kM(m:Ah)(k d:Nat):List (List Int):=(aJZ d).map fun j=>Nz m (k+j)
theorem aQV(m:Ah)(k d:Nat):kM m k (d+1)=Nz m k::kM m (k+1) d:=by
 unfold kM
 rw[List.range_succ_eq_map,aEO,List.map_map]
 congr 1
 refine aC6 fun j _=>?_
 simp only[Function.comp,Nat.succ_eq_add_one]
 congr 1;omega
theorem aIY{m:Ah}(hm:Ce m=true):∀(d k:Nat),k+d=m.sens.length→acS (-10000) 10000 (wh m) k (wT m k d)
 |0,_,_=>trivial
 |d+1,k,h=>by rw[aFQ];exact⟨a3S hm (by omega),aIY hm d (k+1) (by omega)⟩
theorem aI4{m:Ah}(hm:Ce m=true):∀(d k:Nat),k+d=m.sens.length→acS (-10000) 10000 (wh m) k (kM m k d)
 |0,_,_=>trivial
 |d+1,k,h=>by rw[aQV];exact⟨aUH hm (by omega),aI4 hm d (k+1) (by omega)⟩
theorem aCM(m:Ah)(k d:Nat):(wT m k d).length=d:=by simp[wT]
theorem aB7(m:Ah)(k d:Nat):(kM m k d).length=d:=by simp[kM]
theorem aQ1{C:Type}{w:Nat→Int→C}:∀{p q:List Int} {k:Nat},Cls w k p q→p.length=q.length∧∀i,i<p.length→w (k+i) (p.getD i 0)=w (k+i) (q.getD i 0)
 | [],[],_,_=>⟨rfl,fun i h=>by simp at h⟩
 | [],_::_,_,h=>by cases h
 |_::_,[],_,h=>by cases h
 |a::p,b::q,k,h=>by
  obtain⟨h1,h2⟩:=aQ1 h.2
  refine⟨by simp[h1],fun i hi=>?_⟩
  cases i with
  |zero=>exact h.1
  |succ i=>
   have:=h2 i (by simpa using hi)
   rw[show k+1+i=k+(i+1) by omega]at this
   simpa using this
theorem aT9{a b:List Bool}(ha:a.length≤6)(hl:a.length=b.length)(h:fO a 0 0=fO b 0 0):a=b:=by
 apply List.ext_getElem?
 intro i
 by_cases hi:i<a.length
 ·rw[aKP a ha i hi,aKP b (by omega) i (by omega),h]
 ·rw[aKM (by omega),aKM (by omega)]
theorem aWJ{m:Ah}(hm:Ce m=true){k:Nat}{a b:Int}(h:wh m k a=wh m k b){v:Au}(hv:v∈m.votes)(hk:(k:Int)∈v.sens):Re (Rb m k) v a=Re (Rb m k) v b:=by
 have h1:al3 k (Rb m k) a m.votes=al3 k (Rb m k) b m.votes:=aT9 (by simp[al3];exact fN hm) (by simp[al3]) h
 unfold al3 at h1
 have h2:=List.map_inj_left.1 h1 v hv
 have h3:(v.sens.any fun x=>(k:Int)==x)=true:=List.any_eq_true.2 ⟨k,hk,by simp⟩
 simpa [h3]using h2
theorem aNS{m:Ah}{p q:List Int}{v:Au}:∀(l:List Int) (c:Int),(∀k∈l,Re (Rb m k) v (rAt p k)=Re (Rb m k) v (rAt q k))→aaQ m v p l c=aaQ m v q l c
 | [],_,_=>rfl
 |k::l,c,h=>by
  unfold aaQ
  rw[h k (by simp)]
  exact aNS l _ fun k hk=>h k (by simp[hk])
theorem aN1{m:Ah}(hm:Ce m=true){p q:List Int}(hl:p.length=m.sens.length)(h:Cls (wh m) 0 p q):Hh m p=Hh m q:=by
 obtain⟨h1,h2⟩:=aQ1 h
 unfold Hh
 rw[ahR,ahR]
 congr 1
 refine aC6 fun v hv=>?_
 unfold sZ
 rw[aNS v.sens 0 fun k hk=>?_]
 obtain⟨k0,k1⟩:=ac6 hm v hv k hk
 obtain⟨j,rfl⟩:∃j:Nat,k=j:=⟨k.toNat,by omega⟩
 simp only[aOD]at k1
 have:=h2 j (by omega)
 rw[Nat.zero_add]at this
 simp only[rAt,aOD]
 exact aWJ hm this hv hk
def stp(m:Ah)(v:Int × Int)(x:List Int × Int):Int × Int:=aL0 m v.1 v.2 (tsc x)
theorem aLR{m:Ah}{a b:List Int × Int}(h1:Hh m a.1=Hh m b.1)(h2:a.2=b.2)(v:Int × Int):stp m v a=stp m v b:=by
 unfold stp aL0 tsc
 unfold Hh at h1
 simp only[h1,h2]
def Leg(m:Ah)(a:List Int × Int):Prop:=a.1.length=m.sens.length∧(∀n∈a.1,-10000≤n∧n≤10000)∧ -1≤a.2∧a.2<m.cmds
theorem aIW{m:Ah}(hm:Ce m=true){c:Int}:c∈Fg m↔ -1≤c∧c<m.cmds:=by
 have:=eT hm
 unfold Fg
 rw[acR]
 constructor
 ·rintro⟨i,hi,rfl⟩
  have:=aER.1 hi
  omega
 ·intro h
  exact⟨(c+1).toNat,aER.2 (by omega),by omega⟩
theorem a0G(m:Ah):(Fg m).Pairwise (· < ·):=by
 unfold Fg
 exact List.pairwise_map.2 (List.pairwise_lt_range.imp fun h=>by omega)
structure pF(m:Ah)(X:List (List Int × Int)):Prop where
 pw:X.Pairwise ltS
 leg:∀a∈X,Leg m a
 rep:∀a,Leg m a→∃b∈X,Hh m b.1=Hh m a.1∧b.2=a.2∧(b=a∨ltS b a)
theorem aI2{m:Ah}(hm:Ce m=true){R:List (List Int)}(hp:R.Pairwise ltR)(hl:∀r∈R,r.length=m.sens.length∧∀n∈r,-10000≤n∧n≤10000)(hr:∀x:List Int,x.length=m.sens.length→(∀n∈x,-10000≤n∧n≤10000)→∃y∈R,Hh m y=Hh m x∧(y=x∨ltR y x)):pF m (aH (Fg m) R):=by
 refine⟨aY1 (a0G m) hp,fun a ha=>?_,fun a ha=>?_⟩
 ·obtain⟨h1,h2⟩:=aH2.1 ha
  obtain⟨h3,h4⟩:=hl _ h1
  exact⟨h3,h4,(aIW hm).1 h2⟩
 ·obtain⟨a1,a2,a3⟩:=ha
  obtain⟨y,y1,y2,y3⟩:=hr a.1 a1 a2
  refine⟨(y,a.2),aH2.2 ⟨y1,(aIW hm).2 a3⟩,y2,rfl,?_⟩
  rcases y3 with rfl|y3
  ·exact .inl rfl
  ·exact .inr (.inl y3)
theorem aBR(m:Ah):∀(rows:List (List Int)) (W:List Int) (X:List (List Int × Int)),(rows.foldl (aeL m) (W,X)).2=X++aH (Fg m) (Ug (fun _=>true) (Hh m) rows W)
 | [],W,X=>by simp[Ug,aH]
 |r::rows,W,X=>by
  rw[List.foldl_cons]
  by_cases h:Hh m r∈W
  ·have e:aeL m (W,X) r=(W,X):=if_pos h
   rw[e,aBR,Ug,if_neg (by simp[h])]
  ·have e:aeL m (W,X) r=(W++[Hh m r],X++(Fg m).map fun c=>(r,c)):=if_neg h
   rw[e,aBR,Ug,if_pos ⟨rfl,h⟩]
   simp[aH,List.append_assoc]
def Fz(m:Ah):List (List Int × Int):=aH (Fg m) (Ug (fun _=>true) (Hh m) (Zl (wT m 0 m.sens.length)) [])
theorem aGQ(m:Ah)(now:List Int):(tB m 0 m.sens.length now ([],[])).2=Fz m:=by
 unfold tB Fz
 rw[aBR,aON,List.take_zero]
 simp
theorem eW{m:Ah}(hm:Ce m=true):pF m (Fz m):=by
 have hS:=aIY hm m.sens.length 0 (by omega)
 have hp:(Zl (wT m 0 m.sens.length)).Pairwise ltR:=aE5 hS.inc
 refine aI2 hm (auH (R:=ltR) (fun a b h _=>h) hp) (fun r hr=>?_) fun x h1 h2=>?_
 ·have:=acS.row hS r (wF hr).1
  rw[aCM]at this;exact this
 ·obtain⟨y,y1,y2,y3⟩:=acS.all hS x (by rw[aCM];exact h1) h2
  have hyl:y.length=m.sens.length:=by have:=(acS.row hS y y1).1;rwa[aCM]at this
  rcases aiH (ok:=fun _=>true) (w:=Hh m) (met:=[]) hp y1 rfl with h|⟨b,b1,b2,b3⟩
  ·cases h
  ·refine⟨b,b1,b2.trans (aN1 hm hyl y2),?_⟩
   rcases b3 with rfl|b3
   ·exact y3
   ·rcases y3 with rfl|y3
    ·exact .inr b3
    ·exact .inr (aQP b3 y3)
def Dy(m:Ah):List (List Int × Int):=aH (Fg m) (Zl (kM m 0 m.sens.length))
theorem Xo{m:Ah}(hm:Ce m=true):pF m (Dy m):=by
 have hS:=aI4 hm m.sens.length 0 (by omega)
 refine aI2 hm (aE5 hS.inc) (fun r hr=>?_) fun x h1 h2=>?_
 ·have:=acS.row hS r hr
  rw[aB7]at this;exact this
 ·obtain⟨y,y1,y2,y3⟩:=acS.all hS x (by rw[aB7];exact h1) h2
  have hyl:y.length=m.sens.length:=by have:=(acS.row hS y y1).1;rwa[aB7]at this
  exact⟨y,y1,aN1 hm hyl y2,y3⟩
def gS(X:List (List Int × Int))(i:Nat):List Int × Int:=X.getD i ([],0)
theorem pJ{X:List (List Int × Int)}{i:Nat}{x:List Int × Int}(h:X[i]?=some x):gS X i=x:=by simp[gS,h]
theorem aPI{X:List (List Int × Int)}{i:Nat}(h:i<X.length):gS X i∈X:=by
 have h1:X[i]?=some X[i]:=acZ h
 rw[pJ h1];exact List.getElem_mem h
theorem pF.inc{m:Ah}{X:List (List Int × Int)}(h:pF m X):∀i j,i<j→j<X.length→ltS (gS X i) (gS X j):=baR h.pw
theorem pF.reps{m:Ah}{X:List (List Int × Int)}(h:pF m X){a:List Int × Int}(ha:Leg m a):aX9 ltS (stp m) (gS X) X.length a:=by
 obtain⟨b,b1,b2,b3,b4⟩:=h.rep a ha
 obtain⟨i,hi,rfl⟩:=List.getElem_of_mem b1
 refine⟨i,hi,fun v=>?_,?_⟩
 ·rw[pJ (acZ hi)];exact aLR b2 b3 v
 ·rw[pJ (acZ hi)];exact b4
abbrev Fnd(m:Ah)(X:List (List Int × Int))(D:List ((Int × Int) × List Nat)):Prop:=BF (fun v i=>stp m v (gS X i)) X.length (m.bgn,0) D D.length 0
theorem Fnd.eq{m:Ah}{X Y:List (List Int × Int)}(hX:pF m X)(hY:pF m Y){D E:List ((Int × Int) × List Nat)}(B:Fnd m X D)(C:Fnd m Y E){k:Nat}{x:(Int × Int) × List Nat}(hx:D[k]?=some x):∃(k':Nat) (x':(Int × Int) × List Nat),E[k']?=some x'∧x'.1=x.1∧x'.2.map (gS Y)=x.2.map (gS X):=
 BF.same a33 hX.inc hY.inc B C (fun _ hi=>hX.reps (hY.leg _ (aPI hi))) (fun _ hi=>hY.reps (hX.leg _ (aPI hi))) hx
theorem aUM{m:Ah}(hm:Ce m=true):Fz m≠[]:=fun e=>by
 have hc:=eT hm
 obtain⟨b,hb,_⟩:=(eW hm).rep (aAO m.sens.length (-10000),-1) ⟨by simp,fun n hn=>by have:=List.eq_of_mem_replicate hn;omega,by simp,by simp only;omega⟩
 rw[e]at hb;cases hb
theorem aEN:Bd .nilm=[.nilm]:=aAN rfl rfl
theorem aEM:AV.flat .nilm=false:=aAN rfl rfl
theorem aEC:AV.isCell .nilm=true:=aAN rfl rfl
theorem aEB(b:Nat):Bd (.mapr b)=[.mapr b]:=aAN rfl rfl
theorem aD8(b:Nat):AV.flat (.mapr b)=false:=aAN rfl rfl
theorem aEF(b:Nat):AV.isCell (.mapr b)=true:=aAN rfl rfl
def ScR(m:Ah)(H:Aa)(o:Gw)(G:Aa):Prop:=∃lv b x rows Ro,o=.ret (.tup [lv,.slr 2 b 0 (Fz m).length])∧LLG 2 (H.length+8) lv G rows ((Fz m).map fun x=>(tsc x).cells) Ro∧rows.length=(Fz m).length∧G[b]?=some (.live 2 true x ((Fz m).map (sgC m)))∧H.length≤b∧Qs H G∧Bv G=true∧∀c,c<H.length→Gq H G c
def as6(m:Ah)(p:Nat)(x:Bool):Aa:=[.live 7 false false [m.cells],.live 1 false false [[.nils]],.live 1 false false [[.nils]],Gk [],.live 1 false x [[.mapr (p+3)]],.live 1 true false (aAO m.sens.length [.int .i64 0]),.live 1 false x [[.slr 1 (p+5) 0 m.sens.length]],.live 1 false x [[.func (.func 78) [] (scA p)]]]
theorem a4L{m:Ah}(hs:m.small)(hm:Ce m=true){H:Aa}(hq:Bv H=true):ShQ Ec 54 [.agg m.cells] H (ScR m H):=by
 have hn6:=awF hm
 have hms:((m.sens.length:Int)≤(m.sens.length:Int)∧(m.sens.length:Int)≤1099511627776)=True:=eq_true (by omega)
 refine anJ rfl Try.func54 rfl rfl ?_
 simp only[Try.f54]
 (have hb:=trivial;with_reducible repeat' (first|simp only[hb,Vc.down,seval,bdS.down,aEN,aEM,aEC,aEB,aD8,aEF,hms,acL]|refine Bm ?_ ?_<;>intro hb|refine fd ?_|fail))
 obtain⟨p,hp⟩:∃p,H.length=p:=⟨_,rfl⟩
 have hcl:Hj (H++as6 m p true)=Hj H++as6 m p false:=by simp[Hj,as6,CB.clean,Gk]
 have hqb:Bv (H++as6 m p true)=true:=Dp hq rfl
 have gb:∀k,(H++as6 m p true)[p+k]?=(as6 m p true)[k]?:=fun k=>by
  rw[aE9 (by omega)];congr 1;omega
 have F0:ScF m p [] [] (aAO m.sens.length 0) .nils .nils [] [] (H++as6 m p true):=by
  refine⟨⟨false,gb 0⟩,⟨false,gb 1⟩,⟨false,gb 2⟩,gb 3,⟨true,gb 4⟩,⟨false,?_⟩,⟨true,?_⟩,⟨true,gb 7⟩,?_,.inl ⟨rfl,rfl⟩,rfl⟩
  ·rw[gb 5];simp[as6,iv]
  ·rw[gb 6];simp[as6]
  ·exact LLG.none
 obtain⟨o,G,es,M,e1,e2,⟨rfl,now',l',SL⟩,e3,e4,e5⟩:=bC (O:=Ec) (H:=H++as6 m p true) (f:=78) (args:=.int .i64 0::scA p) (Q:=fun o G=>o=.ret (.tup [])∧∃now',now'.length=m.sens.length∧ScL m p (tB m 0 m.sens.length (aAO m.sens.length 0) ([],[])).1 (Fz m) now' .nils .nils (Hj (H++as6 m p true)) G) hqb (by
  obtain⟨o,G,c,rfl,now',x1,_,SL⟩:=a7X hs hm m.sens.length 0 [] [] (aAO m.sens.length 0) .nils .nils [] [] (Hj (H++as6 m p true)) (Il hqb) (F0.cl (Ho _).symm) (Few.start m) (by simp) (by omega)
  rw[aGQ]at SL
  exact⟨_,G,c,⟨rfl,now',by rw[x1];simp,SL⟩,SL.w,SL.q⟩)
 have smH:∀c,c<H.length→Gq H M c:=fun c hc=>by
  have e:Gq (Hj (H++as6 m p true)) G c:=SL.k c (by rw[Ee];simp;omega) (by simp[anF,Xi];omega)
  exact((((Gq.refl H c).app hc _).eqR (Ho _).symm).trans e).eqR e3.symm
 obtain⟨⟨lv,sv,rows,Ro,F,_⟩,_,_,_⟩:=SL
 have F:=F.cl e3.symm
 obtain⟨x1,m1⟩:=F.h1
 obtain⟨x2,m2⟩:=F.h2
 rcases F.S with⟨h,_⟩|⟨b,x,rfl,kb,kp,_⟩
 ·exact absurd h (aUM hm)
 have wH:Qs H M:=((Qs.refl H).app _).trans e4
 have hL:=F.L
 have hl:=F.len
 have e0:((0:Nat):Int)=0:=rfl
 rw[hcl]at e1
 simp only[as6,scA,Gk]at e1 e2
 rw[hp,e1]
 subst hp
 (have hb:=trivial;with_reducible repeat' (first|simp only[hb,Vc.down,seval,bdS.down,e2,m1,m2]|refine Bm ?_ ?_<;>intro hb|refine fd ?_|fail))
 exact⟨lv,b,x,rows,Ro,rfl,hL,hl,kb,by omega,wH,e5,smH⟩
def nvN(v:Int × Int):List AV:=[.int .i64 v.1,.int .i64 v.2]
def QN(v:AV)(q:List (Int × Int))(H:Aa)(p:Nat):Prop:=
 (v=.nils∧q=[])∨∃b w rows r,v=.slr 2 b r q.length∧H[b]?=some (.live 2 true w rows)∧b≠p∧rows.drop r=q.map nvN∧r+q.length=rows.length
theorem QN.sm{v:AV}{q:List (Int × Int)}{H G:Aa}{p:Nat}(h:QN v q H p)(k:∀b∈Xi v,Gq H G b):QN v q G p:=by
 rcases h with h|⟨b,w,rows,r,rfl,h2,h3⟩
 ·exact .inl h
 ·obtain⟨x,h4⟩:=(k b (by simp[Xi])).live ⟨w,h2⟩
  exact .inr ⟨b,x,rows,r,rfl,h4,h3⟩
theorem QN.lt{v:AV}{q:List (Int × Int)}{H:Aa}{p:Nat}(h:QN v q H p):∀b∈Xi v,b<H.length∧b≠p:=by
 rcases h with⟨rfl,_⟩|⟨b,w,rows,r,rfl,h2,h3,_⟩
 ·intro b hb1;simp[Xi]at hb1
 ·intro b' hb1;simp[Xi]at hb1;subst hb1;exact⟨Aw h2,h3⟩
theorem a6C{H:Aa}{p:Nat}{w:Bool}{v:AV}{q:List (Int × Int)}(x:Int × Int)(hq:Bv H=true)(hp:H[p]?=some (.live 1 false w [[v]]))(hQ:QN v q H p)(hl:q.length≤100000000):
 ShQ Ec 135 [.ptr p 0 0,.agg [.int .i64 x.1,.int .i64 x.2]] H fun o G=>(o=.ret (.tup [])∧(∃v',G[p]?=some (.live 1 false true [[v']])∧QN v' (q++[x]) G p∧∀b∈Xi v',H.length≤b)∧∀c,c<H.length→c≠p→c∉Xi v→Gq H G c)∧Qs H G∧Bv G=true:=by
 have hpl:=Aw hp
 refine anJ rfl Try.func135 rfl rfl ?_
 simp only[Try.f135]
 have hA:=Ae hp
 have hS:=Jj hpl
 rcases hQ with⟨rfl,rfl⟩|⟨b,w',rows,r,rfl,hrb,hbp,hd,hl2⟩
 ·obtain⟨sf,s1,sn,sk⟩:∃sf:Nat→Nat,sf p=1∧sf H.length=10∧∀k,sf (H.length+k)=k+10:=⟨fun b=>if H.length≤b then b-H.length+10 else 1,by simp;omega,by simp,fun k=>by simp⟩
  (have hb:=trivial;with_reducible repeat' (first|simp only[hb,Vc.down,seval,a6M.down,hp,hA,hS]|refine Bm ?_ ?_<;>intro hb|((refine oC (eR (sf) ?_) ?_);(simp (discharger:=decide) only[oL,bW,aEO,List.map_nil,Ry,oD,oV,nZ,nY,Rz,aG6,aLD,s1,sn,sk];kernel_rfl);intro _)|refine fdq ?_|fail))
  refine⟨⟨⟨.slr 2 (H.length+2) 0 1,?_,.inr ⟨H.length+2,false,[nvN x],0,rfl,?_,by omega,rfl,rfl⟩,fun c hc=>by simp[Xi]at hc;omega⟩,fun c hc hn _=>((Gq.refl H c).set (fun e=>hn e.symm) _).app (by simpa using hc) _⟩,((Qs.refl H).put hp 1 false _).app _,Dp (Dv hq _ rfl) rfl⟩
  ·rw[aqD (by simpa using hpl),aAP hpl]
  ·rw[Gl];rfl
 ·have hbl:=Aw hrb
  have hB:=Ae hrb
  have hSb:=Jj hbl
  have h39:(q.length+1≤549755813888)=True:=eq_true (by omega)
  have hg:∀l,(H.set b .dead++l)[p]?=some (.live 1 false w [[.slr 2 b r q.length]]):=fun l=>by
   rw[aqD (by simpa using hpl),aHJ hbp];exact hp
  have hg2:∀l c,(H.set b .dead++l).set p c=(H.set b .dead).set p c++l:=fun l c=>Jj (by simpa using hpl) l c
  obtain⟨sf,s1,s2,sn,sk⟩:∃sf:Nat→Nat,sf p=1∧sf b=2∧sf H.length=10∧∀k,sf (H.length+k)=k+10:=⟨fun c=>if H.length≤c then c-H.length+10 else if c=b then 2 else 1,by show(if _ then _ else _)=_;rw[if_neg (by omega),if_neg (fun e=>hbp e.symm)],by show(if _ then _ else _)=_;rw[if_neg (by omega),if_pos rfl],by simp,fun k=>by simp⟩
  (have hb:=trivial;with_reducible repeat' (first|simp only[hb,Vc.down,seval,a6M.down,hp,hA,hS,hrb,hB,hSb,hd,hl2,h39,hg,hg2,Oa,Gl,List.length_set,acL]|refine Bm ?_ ?_<;>intro hb|((refine oC (eR (sf) ?_) ?_);(simp (discharger:=decide) only[oL,bW,aEO,List.map_nil,Ry,oD,oV,nZ,nY,Rz,aG6,aLD,s1,s2,sn,sk];kernel_rfl);intro _)|refine fdq ?_|fail))
  have hsl:((H.set b CB.dead).set p (CB.live 1 false true [[AV.slr 2 (H.length+2) 0 (q.length+1)]])).length=H.length:=by simp
  refine⟨⟨⟨.slr 2 (H.length+2) 0 (q.length+1),?_,.inr ⟨H.length+2,false,(q++[x]).map nvN,0,by simp,?_,by omega,rfl,by simp⟩,fun c hc=>by simp[Xi]at hc;omega⟩,fun c hc hn hn2=>(((Gq.refl H c).set (fun e=>hn2 (by simp[Xi,e])) _).set (fun e=>hn e.symm) _).app (by simpa using hc) _⟩,(((Qs.refl H).kill hrb).put (by rw[aHJ hbp];exact hp) 1 false _).app _,Dp (Dv (Dv hq _ rfl) _ rfl) rfl⟩
  ·rw[aqD (by omega),aAP (by simpa using hpl)]
  ·rw[aE9 (by omega),hsl,aOW];simp[nvN]
theorem a5Y(b r k:Nat):slx Try.prog 99 (some (.slr 2 b r (k+1))) (some (some (.int .i64 1))) (some none)=some (.ret (.slr 2 b (r+1) k),[]):=by
 have hz:mV Try.prog 86=some 2:=by kernel_rfl
 simp only[slx,aLE,aAQ,Try.underlying99,hz,Uc]
 simp[Uc,r1]
 omega
theorem a4V{H:Aa}{p:Nat}{w:Bool}{v:AV}(hq:Bv H=true)(hp:H[p]?=some (.live 1 false w [[v]]))(hQ:QN v [] H p):
 ShQ Ec 136 [.ptr p 0 0] H fun o G=>(o=.ret (.tup [.agg [.int .i64 0,.int .i64 0],.bool false])∧∀c,c<H.length→Gq H G c)∧Qs H G∧Bv G=true:=by
 have hA:=Ae hp
 have hpl:=Aw hp
 rcases hQ with⟨rfl,_⟩|⟨b,w',rows,r,rfl,hrb,hbp,hd,hl⟩
 ·refine anJ rfl Try.func136 rfl rfl ?_
  simp only[Try.f136]
  (have hb:=trivial;with_reducible repeat' (first|simp only[hb,Vc.down,seval,aWC.down,hp,hA]|refine Bm ?_ ?_<;>intro hb|refine fd ?_|fail))
  exact⟨fun c hc=>(Gq.refl H c).app hc _,(Qs.refl H).app _,Dp hq rfl⟩
 ·simp only[aLD]at hp hA
  refine anJ rfl Try.func136 rfl rfl ?_
  simp only[Try.f136]
  (have hb:=trivial;with_reducible repeat' (first|simp only[hb,Vc.down,seval,aWC.down,hp,hA]|refine Bm ?_ ?_<;>intro hb|refine fd ?_|fail))
  exact⟨fun c hc=>(Gq.refl H c).app hc _,(Qs.refl H).app _,Dp hq rfl⟩
theorem aSN{H:Aa}{p:Nat}{w:Bool}{v:AV}{x:Int × Int}{q:List (Int × Int)}(hq:Bv H=true)(hp:H[p]?=some (.live 1 false w [[v]]))(hQ:QN v (x::q) H p)(hl:q.length≤100000000):
 ShQ Ec 136 [.ptr p 0 0] H fun o G=>(o=.ret (.tup [.agg [.int .i64 x.1,.int .i64 x.2],.bool true])∧(∃v',G[p]?=some (.live 1 false true [[v']])∧QN v' q G p∧Xi v'=Xi v)∧∀c,c<H.length→c≠p→Gq H G c)∧Qs H G∧Bv G=true:=by
 have hpl:=Aw hp
 rcases hQ with⟨_,h⟩|⟨b,w',rows,r,rfl,hrb,hbp,hd,hl2⟩
 ·cases h
 have hr0:rows[r]?=some [.int .i64 x.1,.int .i64 x.2]:=by
  have:=congrArg (·[0]?) hd
  simpa [nvN]using this
 have hd2:rows.drop (r+1)=q.map nvN:=by
  have:=congrArg (·.drop 1) hd
  simpa [List.drop_drop]using this
 simp only[aG6]at hl2 hp
 have h1:decide (((q.length+1:Nat):Int)=0)=false:=decide_eq_false (by omega)
 have h2:((((q.length+1:Nat):Int))==0)=false:=by simp;omega
 have h3:((0:Int)<((q.length+1:Nat):Int))=True:=eq_true (by omega)
 have h4:((1:Int)≤((q.length+1:Nat):Int))=True:=eq_true (by omega)
 have hA:=Ae hp
 have hB:=Ae hrb
 have hS:=Jj hpl
 have gs0:∀(c d:CB) (l:Aa),(H.set p c++l).set H.length d=H.set p c++l.set 0 d:=fun c d l=>by
  rw[List.set_append_right _ _ (by simp)];simp
 refine anJ rfl Try.func136 rfl rfl ?_
 simp only[Try.f136]
 (have hb:=trivial;with_reducible repeat' (first|simp only[hb,Vc.down,seval,aWC.down,hp,hA,hB,hS,hrb,hr0,h1,h2,h3,h4,a5Y,Oa,Gl,gs0]|refine Bm ?_ ?_<;>intro hb|refine fd ?_|fail))
 refine⟨⟨⟨.slr 2 b (r+1) q.length,?_,.inr ⟨b,w',rows,r+1,rfl,?_,hbp,hd2,by omega⟩,rfl⟩,fun c hc hn=>((Gq.refl H c).set (fun e=>hn e.symm) _).app (by simpa using hc) _⟩,((Qs.refl H).put hp 1 false _).app _,Dp (Dv hq _ rfl) rfl⟩
 ·rw[aqD (by simpa using hpl),aAP hpl]
 ·rw[aqD (by simpa using Aw hrb),aHJ (fun e=>hbp e.symm)];exact hrb
def aDY(E:List ((Int × Int) × List Nat))(v:Int × Int):Option (List Nat):=(E.find? fun x=>decide (x.1=v)).map (·.2)
theorem oG{step:Int × Int→Nat→Int × Int}{n:Nat}{v0:Int × Int}{E:List ((Int × Int) × List Nat)}{i j:Nat}(B:BF step n v0 E i j){v:Int × Int}{p:List Nat}:aDY E v=some p↔(v,p)∈E:=by
 unfold aDY
 constructor
 ·intro h
  obtain⟨x,h1,rfl⟩:=Option.map_eq_some_iff.1 h
  have h2:=aOX h1
  have h3:=aOY h1
  simp only[decide_eq_true_eq]at h2
  rw[←h2];exact h3
 ·intro h
  cases hf:E.find? fun x=>decide (x.1=v)with
  |none=>have:=List.find?_eq_none.1 hf _ h;simp at this
  |some x=>
   have h2:=aOX hf
   have h3:=aOY hf
   simp only[decide_eq_true_eq]at h2
   obtain⟨k,hk⟩:=aHM h3
   obtain⟨k',hk'⟩:=aHM h
   have:=B.nd k k' _ _ hk hk' (by simpa using h2)
   subst this
   rw[hk]at hk'
   cases hk'
   rfl
def kN(v:Int × Int):AV:=.agg [.int .i64 v.1,.int .i64 v.2]
theorem a5G(x y x' y':Int):aEq Try.prog 12 86 (.agg [.int .i64 x,.int .i64 y]) (.agg [.int .i64 x',.int .i64 y'])=(some (x==x')).bind fun r=>if r then((some (y==y')).bind fun r=>if r then some true else some false)else some false:=by kernel_rfl
theorem aL7:aDT Try.prog 86 kN (fun _=>True):=⟨fun a _=>by
 obtain⟨x,y⟩:=a
 show aK7 Try.prog 86 (.agg [.int .i64 x,.int .i64 y])=true
 kernel_rfl,fun a b _ _=>by
 obtain⟨x,y⟩:=a
 obtain⟨x',y'⟩:=b
 show aEq Try.prog 12 86 (.agg [.int .i64 x,.int .i64 y]) (.agg [.int .i64 x',.int .i64 y'])=_
 rw[a5G]
 by_cases e1:x=x'
 ·subst e1
  by_cases e2:y=y'
  ·subst e2;simp
  ·simp[e2]
 ·simp[e1],fun a _=>by
 simp[kN,AV.sameKey,AV.same]⟩
def okN(m:Ah)(v:Int × Int):Prop:=0≤v.1∧v.1<m.states∧0≤v.2∧v.2≤10
theorem Kv{m:Ah}(h:Ce m=true):1≤m.states∧m.states≤8∧0≤m.bgn∧m.bgn<m.states:=by
 simp only[Ce,cJ,aCF]at h
 have h1:=h.1.1.1.1.1.1.1.2
 have h2:=h.1.1.1.1.1.2
 simp only[Qy,aCF,decide_eq_true_eq]at h1 h2
 rw[Dz (by omega) (by omega)]at h2
 omega
theorem a13{m:Ah}(h:Ce m=true){x:Bi}(hx:x∈m.moves):0≤x.to∧x.to<m.states:=by
 have hs:=Kv h
 simp only[Ce,aCF,List.all_eq_true]at h
 have h2:=h.1.2 x hx
 simp only[Vo,aCF,Qy,decide_eq_true_eq]at h2
 have h3:=h2.1.1.1.2
 rw[Dz (by omega) (by omega)]at h3
 omega
theorem a5L{a:Int}(h0:0≤a)(h1:a≤10):0≤aAR a∧aAR a≤10:=by
 unfold aAR
 rw[Dz (by omega) (by omega)]
 split<;>omega
theorem aN5{m:Ah}{st ag bits com:Int}(hv:okN m (st,ag)):∀(l:List Bi),(∀x∈l,0≤x.to∧x.to<m.states)→okN m (Pm st ag bits com l)
 | [],_=>⟨hv.1,hv.2.1,a5L hv.2.2.1 hv.2.2.2⟩
 |x::l,h=>by
  unfold Pm
  split
  ·exact⟨(h x (by simp)).1,(h x (by simp)).2,by simp,by simp⟩
  ·exact aN5 hv l fun y hy=>h y (by simp[hy])
theorem apH{m:Ah}(hm:Ce m=true){v:Int × Int}(hv:okN m v)(a:List Int × Int):okN m (stp m v a):=aN5 hv _ fun _ hx=>a13 hm hx
theorem aFI{m:Ah}(hm:Ce m=true){X:List (List Int × Int)}{D:List ((Int × Int) × List Nat)}{i j:Nat}(B:BF (fun v i=>stp m v (gS X i)) X.length (m.bgn,0) D i j){x:(Int × Int) × List Nat}(hx:x∈D):okN m x.1:=by
 obtain⟨k,hk⟩:=aHM hx
 have h:=(B.way k x hk).1
 rw[←h]
 have hs:=Kv hm
 have h0:okN m (m.bgn,0):=⟨hs.2.2.1,hs.2.2.2,by simp,by simp⟩
 have key:∀(w:List Nat) (v:Int × Int),okN m v→okN m (run (fun v i=>stp m v (gS X i)) v w):=by
  intro w
  induction w with
  |nil=>intro v hv;exact hv
  |cons a w ih=>intro v hv;exact ih _ (apH hm hv _)
 exact key _ _ h0
def aXZ(m:Ah):List (Int × Int):=(aJZ m.states.toNat).flatMap fun(s:Nat)=>(aJZ 11).map fun(a:Nat)=>((s:Int),(a:Int))
theorem aLL{m:Ah}{v:Int × Int}(h:okN m v):v∈aXZ m:=by
 obtain⟨h1,h2,h3,h4⟩:=h
 refine aC7.2 ⟨v.1.toNat,aER.2 (by omega),acR.2 ⟨v.2.toNat,aER.2 (by omega),?_⟩⟩
 exact Prod.ext (by simp;omega) (by simp;omega)
theorem aN8(m:Ah):(aXZ m).length=m.states.toNat*11:=by
 unfold aXZ
 rw[List.length_flatMap]
 have key:∀l:List Nat,(l.map fun _=>11).sum=l.length*11:=fun l=>by
  induction l with
  |nil=>rfl
  |cons a l ih=>rw[aEO,List.sum_cons,ih,aG6];omega
 simp[key]
theorem beR{V:Type}{step:V→Nat→V}{n:Nat}{v0:V}{D:List (V × List Nat)}{i j:Nat}(B:BF step n v0 D i j):(D.map (·.1)).Nodup:=by
 unfold List.Nodup
 rw[List.pairwise_iff_getElem]
 intro a b ha hb hab e
 simp only[acL]at ha hb
 simp only[List.getElem_map]at e
 have:=B.nd a b _ _ (acZ ha) (acZ hb) e
 omega
theorem aP0{m:Ah}(hm:Ce m=true){X:List (List Int × Int)}{D:List ((Int × Int) × List Nat)}{i j:Nat}(B:BF (fun v i=>stp m v (gS X i)) X.length (m.bgn,0) D i j):D.length≤m.states.toNat*11:=by
 have:=nI (beR B) (k:=aXZ m) fun v hv=>by
  obtain⟨x,hx,rfl⟩:=acR.1 hv
  exact aLL (aFI hm B hx)
 rw[aN8]at this
 simpa using this
theorem Qw{m:Ah}(hm:Ce m=true){X:List (List Int × Int)}{D:List ((Int × Int) × List Nat)}{i j:Nat}(B:BF (fun v i=>stp m v (gS X i)) X.length (m.bgn,0) D i j):D.length≤88:=by
 have h1:=aP0 hm B
 have h2:=Kv hm
 omega
def cmC(m:Ah)(X:List (List Int × Int))(x:(Int × Int) × List Nat):AV:=match x.2.getLast? with
 |none=>.agg [.int .i64 x.1.1,.int .i64 x.1.2,.int .i64 (-1)]
 |some a=>let u:=run (fun v i=>stp m v (gS X i)) (m.bgn,0) x.2.dropLast
  .agg [.int .i64 u.1,.int .i64 u.2,.int .i64 a]
def mkI(P:Program)(ty:TypeId)(x:Option AV):OE:=x.bind fun a=>match P.underlying ty with
 |some (.interface _)=>none
 |some _=>some (.ret (.iface ty a),[])
 |none=>none
theorem aNB{O:Hz}{P:Program}(t:List AV)(h:Aa)(ty:TypeId)(x:Operand):Gx O P t h (.makeInterface ty x)=mkI P ty (Ar t x):=by
 rw[Fb _ _ _ rfl]
 simp only[exec,mkI]
 cases Ar t x with
 |none=>rfl
 |some a=>
  simp only[aLE]
  cases P.underlying ty with
  |none=>rfl
  |some u=>cases u<;>rfl
theorem aMD(a:AV):mkI Try.prog 133 (some a)=some (.ret (.iface 133 a),[]):=by
 have:Try.prog.underlying 133=some (.pointer 135):=Try.underlying133
 simp only[mkI,aLE,this]
theorem adL:asX Try.prog 133 "saltdome/trip.put" =some 135:=by kernel_rfl
theorem vM:asX Try.prog 133 "saltdome/trip.take" =some 136:=by kernel_rfl
structure FdS(m:Ah)(X:List (List Int × Int))(H:Aa)(D:List ((Int × Int) × List Nat))(i j nb:Nat)(u:Int × Int)(q:List (Int × Int))(ov:AV)(O:List (Int × Int))(h:Aa):Prop where
 B:BF (fun v i=>stp m v (gS X i)) X.length (m.bgn,0) D i j
 m0:∃x,h[H.length]?=some (.live 7 false x [m.cells])
 mp:∃y,h[H.length+2]?=some (Gk (eO kN y (D.map (·.1))))∧∀x∈D,y x.1=cmC m X x
 nd:∃x,h[nb]?=some (.live 2 true x [nvN u])
 ln:∃x v,h[H.length+3]?=some (.live 1 false x [[v]])∧QN v q h (H.length+3)∧∀b∈Xi v,H.length+4≤b∧b≠nb∧b∉Xi ov
 or_:(ov=.nils∧O=[])∨∃b x,ov=.slr 2 b 0 O.length∧h[b]?=some (.live 2 true x (O.map nvN))∧H.length+4≤b∧b≠nb
 nbl:H.length+4≤nb
 w:Qs H h
 q:Bv h=true
 k:∀c,c<H.length→Gq H h c
def FdR(m:Ah)(X:List (List Int × Int))(H:Aa)(o:Gw)(G:Aa):Prop:=∃D ob ox mb y,o=.ret (.tup [.slr 2 ob 0 D.length,.mapr mb])∧Fnd m X D∧G[ob]?=some (.live 2 true ox (D.map fun x=>nvN x.1))∧H.length≤ob∧G[mb]?=some (Gk (eO kN y (D.map (·.1))))∧(∀x∈D,y x.1=cmC m X x)∧H.length≤mb∧Qs H G∧Bv G=true∧∀c,c<H.length→Gq H G c
theorem FdS.app{m:Ah}{X:List (List Int × Int)}{H:Aa}{D:List ((Int × Int) × List Nat)}{i j nb:Nat}{u:Int × Int}{q:List (Int × Int)}{ov:AV}{O:List (Int × Int)}{h:Aa}(F:FdS m X H D i j nb u q ov O h){l:Aa}(hl:Bv l=true):FdS m X H D i j nb u q ov O (h++l):=by
 obtain⟨B,⟨x0,m0⟩,⟨y,mp,my⟩,⟨x1,nd⟩,⟨x2,v,l1,l2,l3⟩,or_,nbl,w,q',k⟩:=F
 refine⟨B,⟨x0,Ae m0 l⟩,⟨y,Ae mp l,my⟩,⟨x1,Ae nd l⟩,⟨x2,v,Ae l1 l,l2.sm fun b hb=>(Gq.refl h b).app (l2.lt b hb).1 l,l3⟩,?_,nbl,w.app l,Dp q' hl,fun c hc=>(k c hc).app (aOZ hc w.1) l⟩
 rcases or_ with h1|⟨b,x,h1,h2,h3⟩
 ·exact .inl h1
 ·exact .inr ⟨b,x,h1,Ae h2 l,h3⟩
theorem FdS.own{m:Ah}{X:List (List Int × Int)}{H:Aa}{D:List ((Int × Int) × List Nat)}{i j nb:Nat}{u:Int × Int}{q:List (Int × Int)}{ov:AV}{O:List (Int × Int)}{h:Aa}(F:FdS m X H D i j nb u q ov O h):jV 0 2 true (O.map nvN) ov h:=by
 rcases F.or_ with⟨rfl,rfl⟩|⟨b,x,rfl,h2,_⟩
 ·exact jV.nil _ _ _ _
 ·exact jV.blk h2 rfl (by simp)
theorem FdS.ord{m:Ah}{X:List (List Int × Int)}{H:Aa}{D:List ((Int × Int) × List Nat)}{i j nb:Nat}{u:Int × Int}{q:List (Int × Int)}{ov:AV}{O:List (Int × Int)}{h:Aa}(F:FdS m X H D i j nb u q ov O h):FdS m X H D i j nb u q (.slr 2 (h.length+1) 0 (O.length+1)) (O++[u]) (kl 0 ov h++[.live 2 true false [nvN u],.live 2 true false ((O++[u]).map nvN)]):=by
 have hkl:(kl 0 ov h).length=h.length∧Bv (kl 0 ov h)=true∧Qs H (kl 0 ov h)∧∀c,c∉Xi ov→Gq h (kl 0 ov h) c:=by
  rcases F.or_ with⟨rfl,rfl⟩|⟨b,x,rfl,h2,_⟩
  ·exact⟨rfl,F.q,F.w,fun c _=>Gq.refl h c⟩
  ·exact⟨by simp[kl],Dv F.q b rfl,F.w.kill h2,fun c hc=>(Gq.refl h c).set (fun e=>hc (by simp[Xi];omega)) _⟩
 have hov:∀b∈Xi ov,H.length+4≤b∧b≠nb:=fun b hb=>by
  rcases F.or_ with⟨rfl,rfl⟩|⟨b',x,rfl,h2,h3,h4⟩
  ·simp[Xi]at hb
  ·simp[Xi]at hb;subst hb;exact⟨h3,h4⟩
 obtain⟨k1,k2,k3,k4⟩:=hkl
 have hlo:H.length≤h.length:=F.w.1
 obtain⟨B,m0,⟨y,mp,my⟩,nd,⟨x2,v,l1,l2,l3⟩,or_,nbl,w,q',k⟩:=F
 have hnb:nb<h.length:=by obtain⟨_,nd⟩:=nd;exact Aw nd
 have sm:∀c,c<h.length→c∉Xi ov→Gq h (kl 0 ov h++[.live 2 true false [nvN u],.live 2 true false ((O++[u]).map nvN)]) c:=fun c c1 c2=>(k4 c c2).app (by omega) _
 have l4:=Aw l1
 refine⟨B,(sm _ (by omega) fun hb=>by have:=(hov _ hb).1;omega).live m0,⟨y,(sm _ (by omega) fun hb=>by have:=(hov _ hb).1;omega).map mp,my⟩,(sm _ hnb fun hb=>(hov _ hb).2 rfl).live nd,?_,.inr ⟨h.length+1,false,by simp,?_,by omega,by omega⟩,nbl,k3.app _,Dp k2 rfl,fun c hc=>(k c hc).trans (sm c (by omega) fun hb=>by have:=(hov _ hb).1;omega)⟩
 ·obtain⟨z,g⟩:=(sm (H.length+3) l4 fun hb=>by have:=(hov _ hb).1;omega).live ⟨x2,l1⟩
  refine⟨z,v,g,l2.sm fun b hb=>sm b (l2.lt b hb).1 (l3 b hb).2.2,fun b hb=>⟨(l3 b hb).1,(l3 b hb).2.1,?_⟩⟩
  have:=(l2.lt b hb).1
  simp[Xi];omega
 ·rw[aE9 (by omega),k1,aOW];rfl
theorem FdS.next{m:Ah}{X:List (List Int × Int)}{H:Aa}{D:List ((Int × Int) × List Nat)}{i nb:Nat}{u:Int × Int}{q:List (Int × Int)}{ov:AV}{O:List (Int × Int)}{h':Aa}(F:FdS m X H D i X.length nb u q ov O h'){M:Aa}{q2:List (Int × Int)}(u2:Int × Int)(sm:∀c,c<h'.length→c≠H.length+3→Gq h' M c)(hl:∃x v,M[H.length+3]?=some (.live 1 false x [[v]])∧QN v q2 M (H.length+3)∧∀b∈Xi v,H.length+4≤b∧b≠h'.length∧b∉Xi ov)(hn:∃x r,M[h'.length]?=some (.live 2 true x r))(w:Qs h' M)(hq:Bv M=true):FdS m X H D (i+1) 0 h'.length u2 q2 ov O (M.set h'.length (.live 2 true true [nvN u2])):=by
 have hlo:H.length≤h'.length:=F.w.1
 obtain⟨B,m0,⟨y,mp,my⟩,nd,⟨x2,v,l1,l2,l3⟩,or_,nbl,w0,q',k⟩:=F
 obtain⟨xn,r,hn⟩:=hn
 obtain⟨xl,v2,n1,n2,n3⟩:=hl
 have hp3:=Aw l1
 have sm2:∀c,c<h'.length→c≠H.length+3→Gq h' (M.set h'.length (.live 2 true true [nvN u2])) c:=fun c c1 c2=>(sm c c1 c2).set (by omega) _
 have hm0:H.length<h'.length:=by obtain⟨_,g⟩:=m0;exact Aw g
 refine⟨B.next,(sm2 _ hm0 (by omega)).live m0,⟨y,(sm2 _ (Aw mp) (by omega)).map mp,my⟩,⟨true,aAP (Aw hn)⟩,⟨xl,v2,by rw[aHJ (by omega)];exact n1,n2.sm fun b hb=>(Gq.refl M b).set (fun e=>(n3 b hb).2.1 e.symm) _,n3⟩,?_,by omega,w0.trans (w.hi (Nat.le_refl _) _),Dv hq _ rfl,fun c hc=>(k c hc).trans (sm2 c (by omega) (by omega))⟩
 rcases or_ with h1|⟨b,z,h1,h2,h3,h4⟩
 ·exact .inl h1
 ·obtain⟨z',g⟩:=(sm2 b (Aw h2) (by omega)).live ⟨z,h2⟩
  exact .inr ⟨b,z',h1,g,h3,by have:=Aw h2;omega⟩
def fd4(m:Ah)(x:Bool):Aa:=[.live 7 false false [m.cells],.live 2 true x [[.int .i64 m.bgn,.int .i64 0]],Gk [.agg [.int .i64 m.bgn,.int .i64 0],.agg [.int .i64 m.bgn,.int .i64 0,.int .i64 (-1)]],.live 1 false false [[.nils]]]
theorem aFP{α:Type}{l:List α}{k:Nat}{x:α}(h:l[k]?=some x)(l2:List α):(l++l2)[k]?=some x:=by
 rw[aqD (aLF.1 h).1];exact h
theorem a3X{m:Ah}(hs:m.small)(hm:Ce m=true){X:List (List Int × Int)}(hX:X.length≤2000){H:Aa}(hq:Bv H=true){sb:Nat}{x:Bool}(hsb:H[sb]?=some (.live 2 true x (X.map (sgC m)))):
 ShQ Ec 55 [.agg m.cells,.slr 2 sb 0 X.length] H (FdR m X H):=by
 obtain⟨p,hp⟩:∃p,H.length=p:=⟨_,rfl⟩
 have hms0:=fun(h:Aa) (b:Nat) (g:h[b]?=some (Gk [])) (c:AV)=>aL7.ms_new (ty:=100) (v:=fun _=>AV.nils) (L:=[]) Try.underlying100 g (fun _ h=>(by cases h)) (s:=(m.bgn,0)) trivial (by simp) c
 have hms:=hms0 (H++[.live 7 false false [m.cells],.live 2 true true [[.int .i64 m.bgn,.int .i64 0]],Gk []]) (H.length+2) (by simp) (.agg [.int .i64 m.bgn,.int .i64 0,.int .i64 (-1)])
 have hkv:eO kN (fun y=>if y=(m.bgn,(0:Int))then AV.agg [.int .i64 m.bgn,.int .i64 0,.int .i64 (-1)]else .nils) ([]++[(m.bgn,0)])=[.agg [.int .i64 m.bgn,.int .i64 0],.agg [.int .i64 m.bgn,.int .i64 0,.int .i64 (-1)]]:=by simp[eO,kN]
 rw[hkv]at hms
 simp only[kN,Gk]at hms
 refine anJ rfl Try.func55 rfl rfl ?_
 simp only[Try.f55]
 (have hb:=trivial;with_reducible repeat' (first|simp only[hb,Vc.down,seval,aG8.down,Yd.down,hms,aNB,aMD,adL,vM,aEN,aEM,aEC,aEB,aD8,aEF,acL]|refine Bm ?_ ?_<;>intro hb|refine fd ?_|fail))
 have hcl:Hj (H++fd4 m true)=Hj H++fd4 m false:=by simp[Hj,fd4,CB.clean,Gk]
 have hqb:Bv (H++fd4 m true)=true:=Dp hq (by
  simp only[fd4,Bv,List.all_cons,List.all_nil,Bool.and_true,aCF]
  refine⟨rfl,rfl,adG _ fun x hx=>?_,rfl⟩
  simp only[aAM,aID,or_false]at hx
  rcases hx with rfl|rfl<;>simp[AV.sameKey,AV.same])
 have gb:∀k,(H++fd4 m true)[p+k]?=(fd4 m true)[k]?:=fun k=>by
  rw[aE9 (by omega)];congr 1;omega
 obtain⟨o,G1,es1,M1,a1,a2,⟨rfl,⟨v1,a7,a8,a9⟩,a10⟩,a4,a5,a6⟩:=bC (O:=Ec) (H:=H++fd4 m true) (f:=135) (args:=[.ptr (p+3) 0 0,.agg [.int .i64 m.bgn,.int .i64 0]]) hqb (a6C (m.bgn,0) (Il hqb) (Qh (gb 3)) (.inl ⟨rfl,rfl⟩) (by simp))
 have sm1:∀c,c<p+4→c≠p+3→Gq (H++fd4 m true) M1 c:=fun c c1 c2=>((((Gq.refl _ c).eqR (Ho _).symm).trans (a10 c (by rw[Ee];simp[fd4];omega) c2 (by simp[Xi])))).eqR a4.symm
 obtain⟨x1,k1⟩:=Kr a4.symm ⟨_,a7⟩
 have QN1:QN v1 ([]++[(m.bgn,0)]) M1 (p+3):=a8.sm fun b _=>(Gq.refl G1 b).eqR a4.symm
 obtain⟨o,G2,es2,M2,b1,b2,⟨rfl,⟨v2,b7,b8,b9⟩,b10⟩,b4,b5,b6⟩:=bC (O:=Ec) (H:=M1) (f:=136) (args:=[.ptr (p+3) 0 0]) a6 (aSN (q:=[]) (Il a6) (Qh k1) (QN1.sm fun b _=>(Gq.refl M1 b).eqR (Ho M1).symm) (by simp))
 obtain⟨x2,k2⟩:=Kr b4.symm ⟨_,b7⟩
 have QN2:QN v2 [] M2 (p+3):=b8.sm fun b _=>(Gq.refl G2 b).eqR b4.symm
 have hM1:p+4≤M1.length:=by have:=a5.1;simp[fd4]at this;omega
 have sm2:∀c,c<p+4→c≠p+3→Gq (H++fd4 m true) M2 c:=fun c c1 c2=>(sm1 c c1 c2).trans ((((Gq.refl _ c).eqR (Ho _).symm).trans (b10 c (by rw[Ee];omega) c2)).eqR b4.symm)
 have hM2:M1.length≤M2.length:=b5.1
 have st0:FdS m X H [((m.bgn,0),[])] 0 0 M2.length (m.bgn,0) [] .nils [] (M2++[.live 2 true true [nvN (m.bgn,0)]]):=by
  refine⟨BF.start _ _ _,?_,⟨fun _=>.agg [.int .i64 m.bgn,.int .i64 0,.int .i64 (-1)],?_,?_⟩,⟨true,by simp⟩,⟨x2,v2,?_,by rw[hp];exact QN2.sm fun b hb=>(Gq.refl M2 b).app (QN2.lt b hb).1 _,fun b hb=>?_⟩,.inl ⟨rfl,rfl⟩,by omega,?_,Dp b6 rfl,fun c hc=>?_⟩
  ·obtain⟨z,g⟩:=(sm2 p (by omega) (by omega)).live ⟨false,gb 0⟩
   exact⟨z,Ae (by rw[hp];exact g) _⟩
  ·rw[hp];exact Ae ((sm2 (p+2) (by omega) (by omega)).map (gb 2)) _
  ·intro x hx;simp at hx;subst hx;rfl
  ·rw[hp];exact Ae k2 _
  ·have h1:=b9▸hb
   have h2:=a9 b h1
   have h3:=(QN2.lt b hb).1
   rw[Ee]at h2
   simp[fd4]at h2
   exact⟨by omega,by omega,by simp[Xi]⟩
  ·exact((((Qs.refl H).app _).trans a5).trans b5).app _
  ·exact((((Gq.refl H c).app hc _).trans (sm2 c (by omega) (by omega)))).app (by omega) _
 rw[hcl]at a1
 simp only[fd4,Gk]at a1 a2
 rw[hp,a1]
 subst hp
 (have hb:=trivial;with_reducible repeat' (first|simp only[hb,Vc.down,seval,aG8.down,Yd.down,a2,b1,b2,aNB,aMD,adL,vM,aEN,aEM,aEC,aEB,aD8,aEF,acL]|refine Bm ?_ ?_<;>intro hb|refine fd ?_|fail))
 refine Eo (cnt 77 (fun n (_:Unit) t h=>∃D i nb u ov,n+i=89∧i≤D.length∧t 1=.slr 2 sb 0 X.length∧t 2=.ptr H.length 0 0∧t 7=.mapr (H.length+2)∧t 8=ov∧t 9=.iface 133 (.ptr (H.length+3) 0 0)∧t 10=.ptr nb 0 0∧t 11=.bool (decide (i<D.length))∧FdS m X H D i 0 nb u ((D.drop (i+1)).map (·.1)) ov ((D.take i).map (·.1)) h∧∀x,D[i]?=some x→u=x.1) (fun _ _=>()) (fun _ e t h=>e=.exit 0∧∃D nb u ov,t 8=ov∧t 7=.mapr (H.length+2)∧FdS m X H D D.length 0 nb u [] ov (D.map (·.1)) h) ?_ ?_ 89 () _ _ ?_) (fun e t h hk=>?_)
 ·rintro _ t h Q' kQ ⟨D,i,nb,u,ov,hni,hiD,_,_,_,_,_,_,_,F,_⟩
  have:=Qw hm F.B
  omega
 ·rintro n _ t h J Q' kJ kQ ⟨D,i,nb,u,ov,hni,hiD,g1,g2,g7,g8,g9,g10,g11,F,hu⟩
  by_cases hlt:i<D.length
  ·obtain⟨⟨u',pth⟩,hDi⟩:∃z,D[i]?=some z:=⟨_,acZ hlt⟩
   obtain rfl:u=u':=hu _ hDi
   rw[decide_eq_true hlt]at g11
   obtain⟨xn,hnd⟩:=F.nd
   have own':=F.own
   have hap:=fun(q:Aa) (r:List AV)=>aw2 own' (pre:=[]) rfl q r [] (by have:=Qw hm F.B;simp;omega)
   have hhp:=fun(q:Aa) (r:List (List AV)) (ba:Nat)=>aE0 own' (pre:=[]) rfl q 2 true r ba
   simp only[aON]at hap hhp
   (have hb:=trivial;with_reducible repeat' (first|simp only[hb,Vc.down,seval,aG8.down,Yd.down,g1,g2,g7,g8,g9,g10,g11,hnd,nvN,hap,hhp,acL]|refine Bm ?_ ?_<;>intro hb|refine fd ?_|fail))
   have st1:=F.ord
   have hO:((D.take i).map (·.1)).length=i:=by simp;omega
   have hO1:(D.take i).map (·.1)++[u]=(D.take (i+1)).map (·.1):=by rw[List.take_add_one,hDi];simp
   rw[hO,hO1]at st1
   refine Eo (Wy 77 X (fun j (_:Unit) t h'=>∃D,i<D.length∧(∃pth,D[i]?=some (u,pth))∧t 1=.slr 2 sb 0 X.length∧t 2=.ptr H.length 0 0∧t 7=.mapr (H.length+2)∧t 8=.slr 2 (h.length+1) 0 (i+1)∧t 9=.iface 133 (.ptr (H.length+3) 0 0)∧t 10=.ptr nb 0 0∧t 46=.slr 2 sb 0 X.length∧t 47=.int .i64 X.length∧t 48=.int .i64 j∧FdS m X H D i j nb u ((D.drop (i+1)).map (·.1)) (.slr 2 (h.length+1) 0 (i+1)) ((D.take (i+1)).map (·.1)) h') (fun _ _=>()) (fun _ e t h'=>e=.exit 2∧∃D,i<D.length∧(∃pth,D[i]?=some (u,pth))∧t 1=.slr 2 sb 0 X.length∧t 2=.ptr H.length 0 0∧t 7=.mapr (H.length+2)∧t 8=.slr 2 (h.length+1) 0 (i+1)∧t 9=.iface 133 (.ptr (H.length+3) 0 0)∧t 10=.ptr nb 0 0∧FdS m X H D i X.length nb u ((D.drop (i+1)).map (·.1)) (.slr 2 (h.length+1) 0 (i+1)) ((D.take (i+1)).map (·.1)) h') ?_ ?_ () _ _ ?_) (fun e t h' hk=>?_)
   ·rintro _ t h' Q2 kQ2 ⟨D,c1,c2,c3,c4,c5,c6,c7,c8,c9,c10,c11,c12⟩
    (have hb:=trivial;with_reducible repeat' (first|simp only[hb,Vc.down,seval,aG8.down,Yd.down,c9,c10,c11,Int.lt_irrefl,decide_false]|refine Bm ?_ ?_<;>intro hb|refine fd ?_|fail))
    exact kQ2 _ _ _ ⟨rfl,D,c1,c2,by simp[up,c3],by simp[up,c4],by simp[up,c5],by simp[up,c6],by simp[up,c7],by simp[up,c8],c12⟩
   ·rintro sx rest j _ t h' J2 Q2 kJ2 kQ2 hx hj ⟨D,c1,⟨pth,c2⟩,c3,c4,c5,c6,c7,c8,c9,c10,c11,F2⟩
    obtain⟨xm,hm0⟩:=F2.m0
    obtain⟨y,mp,my⟩:=F2.mp
    obtain⟨xn2,nd⟩:=F2.nd
    obtain⟨xs,hsg⟩:=(F2.k sb (Aw hsb)).live ⟨x,hsb⟩
    obtain⟨xl,v,ln1,ln2,ln3⟩:=F2.ln
    have hpl3:=Aw ln1
    have hst:=aK4 m u.1 u.2 (Hh m sx.1) sx.2 hs (fun x hx w hw=>(aCE hm x hx w hw).1)
    obtain⟨v',hv'⟩:∃v',stp m u sx=v':=⟨_,rfl⟩
    have hv2:Pm u.1 u.2 (Hh m sx.1) sx.2 m.moves=v':=hv'
    rw[hv2]at hst
    have hgj:stp m u (gS X j)=v':=by rw[pJ hx];exact hv'
    have hw:=Bo hj (show X.length≤maxLen by unfold maxLen;omega)
    have hd:((j:Int)<(X.length:Int))=True:=eq_true (by omega)
    have hd2:decide ((j:Int)<(X.length:Int))=true:=decide_eq_true (by omega)
    by_cases hin:v'∈D.map (·.1)
    ·obtain⟨z,hz,hz1⟩:=acR.1 hin
     have hyz:=my z hz
     rw[hz1]at hyz
     obtain⟨c0,e1,e2,hcm⟩:∃c0 e1 e2,y v'=.agg [.int .i64 c0,.int .i64 e1,.int .i64 e2]:=by
      rw[hyz];unfold cmC;split<;>exact⟨_,_,_,rfl⟩
     have hlk:=fun l=>aL7.lk_yes (ty:=100) (z:=.agg [.int .i64 0,.int .i64 0,.int .i64 0]) Try.underlying100 (by kernel_rfl) (Ae mp l) (fun _ _=>trivial) hin true
     simp only[cond_true,hcm,kN]at hlk
     (have hb:=trivial;with_reducible repeat' (first|simp only[hb,Vc.down,seval,aG8.down,Yd.down,c3,c4,c5,c6,c7,c8,c9,c10,c11,hm0,Ae hm0,nd,Ae nd,hsg,Ae hsg,nvN,sgC,hx,hst,hlk,hd,hd2,hw,acL]|refine Bm ?_ ?_<;>intro hb|refine fd ?_|fail))
     obtain⟨kz,hkz⟩:=aHM hz
     refine Bn (kJ2 _ _ () ⟨D,c1,⟨pth,c2⟩,by simp[up,c3],by simp[up,c4],by simp[up,c5],by simp[up,c6],by simp[up,c7],by simp[up,c8],by simp[up,c9],by simp[up,c10],by simp[up]<;>omega,?_⟩ rfl)
     exact { F2.app (by rfl)with B:=F2.B.old c2 hkz (hz1.trans hgj.symm) }
    ·have hlk:=fun l=>aL7.lk_no (ty:=100) (z:=.agg [.int .i64 0,.int .i64 0,.int .i64 0]) Try.underlying100 (by kernel_rfl) (Ae mp l) (fun _ _=>trivial) trivial hin true
     have hms:=fun l=>aL7.ms_new (ty:=100) Try.underlying100 (Ae mp l) (fun _ _=>trivial) trivial hin (.agg [.int .i64 u.1,.int .i64 u.2,.int .i64 (j:Int)])
     obtain⟨mv,hmv⟩:∃mv,eO kN (fun w=>if w=v' then AV.agg [.int .i64 u.1,.int .i64 u.2,.int .i64 (j:Int)]else y w) (D.map (·.1)++[v'])=mv:=⟨_,rfl⟩
     rw[hmv]at hms
     simp only[cond_true,kN]at hlk hms
     have hsa:=Jj (Aw mp)
     have hmq:(Gk mv).quiet (Gk mv).clean=true:=adG _ fun a ha=>by
      rw[←hmv]at ha
      unfold eO at ha
      obtain⟨w,hw,ha⟩:=aC7.1 ha
      simp only[aAM,aID,or_false]at ha
      rcases ha with rfl|rfl
      ·simp[kN,AV.sameKey,AV.same]
      ·by_cases e:w=v'
       ·simp[e,AV.sameKey,AV.same]
       ·rw[if_neg e]
        rcases aIC.1 hw with hw|hw
        ·obtain⟨z,hz,rfl⟩:=acR.1 hw
         rw[my z hz];unfold cmC;split<;>simp[AV.sameKey,AV.same]
        ·simp at hw;exact absurd hw e
     obtain⟨l3,hl3⟩:∃l3:Aa,[CB.live 2 true true [[.int .i64 (Hh m sx.1),.int .i64 sx.2]],.live 2 true true [[.int .i64 v'.1,.int .i64 v'.2]],.live 3 true true [[.int .i64 0,.int .i64 0,.int .i64 0]]]=l3:=⟨_,rfl⟩
     have hcl:Hj (h'.set (H.length+2) (Gk mv)++l3)=Hj (h'.set (H.length+2) (Gk mv))++[.live 2 true false [[.int .i64 (Hh m sx.1),.int .i64 sx.2]],.live 2 true false [[.int .i64 v'.1,.int .i64 v'.2]],.live 3 true false [[.int .i64 0,.int .i64 0,.int .i64 0]]]:=by rw[←hl3];simp[Hj,CB.clean]
     have hqK:Bv (h'.set (H.length+2) (Gk mv)++l3)=true:=Dp (Dv F2.q _ hmq) (by rw[←hl3];rfl)
     have smK:∀c,c<h'.length→c≠H.length+2→Gq h' (h'.set (H.length+2) (Gk mv)++l3) c:=fun c hc hn=>((Gq.refl h' c).set (fun e=>hn e.symm) _).app (by simpa using hc) _
     obtain⟨xl2,hK3⟩:=(smK (H.length+3) hpl3 (by omega)).live ⟨xl,ln1⟩
     have QNK:=ln2.sm fun b hb=>smK b (ln2.lt b hb).1 (by have:=(ln3 b hb).1;omega)
     have h88:=Qw hm F2.B
     obtain⟨o,G,es,M,a1,a2,⟨rfl,⟨v2,a7,a8,a9⟩,a10⟩,a4,a5,a6⟩:=bC (O:=Ec) (f:=135) (args:=[.ptr (H.length+3) 0 0,.agg [.int .i64 v'.1,.int .i64 v'.2]]) hqK (a6C v' (Il hqK) (Qh hK3) (QNK.sm fun b _=>(Gq.refl _ b).eqR (Ho _).symm) (by simp;omega))
     have sm:∀c,c<h'.length→c≠H.length+2→c≠H.length+3→c∉Xi v→Gq h' M c:=fun c c1 c2 c3 c4=>(smK c c1 c2).trans ((((Gq.refl _ c).eqR (Ho _).symm).trans (a10 c (by rw[Ee];simp;omega) c3 c4)).eqR a4.symm)
     obtain⟨xl3,k7⟩:=Kr a4.symm ⟨_,a7⟩
     have mM:M[H.length+2]?=some (Gk mv):=by
      have e:(h'.set (H.length+2) (Gk mv)++l3)[H.length+2]?=some (Gk mv):=by
       rw[aqD (by simpa using Aw mp),aAP (Aw mp)]
      exact((((Gq.refl _ _).eqR (Ho _).symm).trans (a10 (H.length+2) (by rw[Ee];exact Aw e) (by omega) (fun hb=>by have:=(ln3 _ hb).1;omega))).eqR a4.symm).map e
     rw[hcl]at a1
     subst hl3
     (have hb:=trivial;with_reducible repeat' (first|simp only[hb,Vc.down,seval,aG8.down,Yd.down,c3,c4,c5,c6,c7,c8,c9,c10,c11,hm0,Ae hm0,nd,Ae nd,hsg,Ae hsg,nvN,sgC,hx,hst,hlk,hms,hsa,hd,hd2,hw,Oa,Gl,a1,a2,aNB,aMD,adL,vM,acL]|refine Bm ?_ ?_<;>intro hb|refine fd ?_|fail))
     have hdrop:(D++[(v',pth++[j])]).drop (i+1)=D.drop (i+1)++[(v',pth++[j])]:=List.drop_append_of_le_length (by omega)
     have htake:(D++[(v',pth++[j])]).take (i+1)=D.take (i+1):=List.take_append_of_le_length (by omega)
     have hmap:(D++[(v',pth++[j])]).map (·.1)=D.map (·.1)++[v']:=by simp
     have hovl:∀b∈Xi (.slr 2 (h.length+1) 0 (i+1)),H.length+4≤b∧b<h'.length:=fun b hb=>by
      rcases F2.or_ with⟨h1,_⟩|⟨b',z,h1,h2,h3,_⟩
      ·cases h1
      ·have eb:b'=h.length+1:=by simp only[AV.slr.injEq]at h1;omega
       simp[Xi]at hb;subst hb;rw[←eb];exact⟨h3,Aw h2⟩
     refine Bn (kJ2 _ _ () ⟨D++[(v',pth++[j])],by simp;omega,⟨pth,aFP c2 _⟩,by simp[up,c3],by simp[up,c4],by simp[up,c5],by simp[up,c6],by simp[up,c7],by simp[up,c8],by simp[up,c9],by simp[up,c10],by simp[up]<;>omega,?_⟩ rfl)
     have hnbl:=F2.nbl
     rw[hdrop,htake,List.map_append]
     refine⟨?_,(sm _ (Aw hm0) (by omega) (by omega) fun hb=>by have:=(ln3 _ hb).1;omega).live ⟨xm,hm0⟩,⟨fun w=>if w=v' then AV.agg [.int .i64 u.1,.int .i64 u.2,.int .i64 (j:Int)]else y w,by rw[hmap,hmv];exact mM,fun z hz=>?_⟩,(sm nb (Aw nd) (by omega) (by omega) fun hb=>(ln3 _ hb).2.1 rfl).live ⟨xn2,nd⟩,⟨xl3,v2,k7,a8.sm fun b _=>(Gq.refl G b).eqR a4.symm,fun b hb=>?_⟩,?_,hnbl,(F2.w.trans (((Qs.refl h').map mp mv).app _)).trans a5,a6,fun c hc=>(F2.k c hc).trans (sm c (aOZ hc F2.w.1) (by omega) (by omega) fun hb=>by have:=(ln3 _ hb).1;omega)⟩
     ·have:=F2.B.new c2 hj (fun k z hz e=>hin (by rw[hgj]at e;exact acR.2 ⟨z,aLH hz,e⟩))
      rwa[hgj]at this
     ·rcases aIC.1 hz with hz|hz
      ·have hne:z.1≠v':=fun e=>hin (acR.2 ⟨z,hz,e⟩)
       simp only[if_neg hne];exact my z hz
      ·simp at hz;subst hz
       have hway:=(F2.B.way i _ c2).1
       simp only at hway
       simp[cmC,hway]
     ·have h1:=a9 b hb
      rw[Ee]at h1
      simp at h1
      refine⟨by omega,fun e=>by have:=Aw nd;omega,fun h2=>by have:=(hovl b h2).2;omega⟩
     ·rcases F2.or_ with⟨h1,_⟩|⟨b',z,h1,h2,h3,h4⟩
      ·cases h1
      ·obtain⟨z',g⟩:=(sm b' (Aw h2) (by omega) (by omega) fun hb=>(ln3 _ hb).2.2 (by rw[h1];simp[Xi])).live ⟨z,h2⟩
       exact .inr ⟨b',z',h1,g,h3,h4⟩
   ·exact⟨D,hlt,⟨pth,hDi⟩,by simp[up,g1],by simp[up,g2],by simp[up,g7],by simp[up];omega,by simp[up,g9],by simp[up,g10],by simp[up],by simp[up],by simp[up],by rw[show((D.take i).map (·.1)).map nvN++[[.int .i64 u.1,.int .i64 u.2]]=((D.take (i+1)).map (·.1)).map nvN from by rw[←hO1];simp[nvN]];exact st1⟩
   obtain⟨rfl,D,c1,⟨pth,c2⟩,c3,c4,c5,c6,c7,c8,F2⟩:=hk
   obtain⟨xn3,nd⟩:=F2.nd
   obtain⟨xl,v,ln1,ln2,ln3⟩:=F2.ln
   obtain⟨K2,hK2⟩:∃K2,h'++[CB.live 2 true true [[.int .i64 u.1,.int .i64 u.2]]]=K2:=⟨_,rfl⟩
   have hcl:Hj (h'++[CB.live 2 true true [[.int .i64 u.1,.int .i64 u.2]]])=Hj h'++[CB.live 2 true false [[.int .i64 u.1,.int .i64 u.2]]]:=by simp[Hj,CB.clean]
   have hqK:Bv K2=true:=by rw[←hK2];exact Dp F2.q rfl
   have hp3:=Aw ln1
   have k3:K2[H.length+3]?=some (.live 1 false xl [[v]]):=by rw[←hK2];exact Ae ln1 _
   have QK:QN v ((D.drop (i+1)).map (·.1)) K2 (H.length+3):=by rw[←hK2];exact ln2.sm fun b hb=>(Gq.refl h' b).app (ln2.lt b hb).1 _
   have kn:K2[h'.length]?=some (.live 2 true true [[.int .i64 u.1,.int .i64 u.2]]):=by rw[←hK2];simp
   have smK:∀c,c<h'.length→Gq h' K2 c:=fun c hc=>by rw[←hK2];exact(Gq.refl h' c).app hc _
   have wK:Qs h' K2:=by rw[←hK2];exact(Qs.refl h').app _
   have hKl:K2.length=h'.length+1:=by rw[←hK2];simp
   have h88:=Qw hm F2.B
   by_cases hend:i+1<D.length
   ·obtain⟨z,hz⟩:∃z,D[i+1]?=some z:=⟨_,acZ hend⟩
    have hdr:(D.drop (i+1)).map (·.1)=z.1::(D.drop (i+1+1)).map (·.1):=by
     obtain⟨q1,q2⟩:=aLF.1 hz
     rw[List.drop_eq_getElem_cons q1,q2];rfl
    rw[hdr]at QK
    obtain⟨o,G,es,M,a1,a2,⟨rfl,⟨v2,a7,a8,a9⟩,a10⟩,a4,a5,a6⟩:=bC (O:=Ec) (H:=K2) (f:=136) (args:=[.ptr (H.length+3) 0 0]) hqK (aSN (Il hqK) (Qh k3) (QK.sm fun b _=>(Gq.refl _ b).eqR (Ho _).symm) (by simp;omega))
    have sm:∀c,c<K2.length→c≠H.length+3→Gq K2 M c:=fun c c1 c2=>(((Gq.refl _ c).eqR (Ho _).symm).trans (a10 c (by rw[Ee];exact c1) c2)).eqR a4.symm
    obtain⟨xl3,k7⟩:=Kr a4.symm ⟨_,a7⟩
    obtain⟨xn4,kn2⟩:=(sm h'.length (by omega) (by omega)).live ⟨_,kn⟩
    have F3:=F2.next (q2:=(D.drop (i+1+1)).map (·.1)) z.1 (fun c c1 c2=>(smK c c1).trans (sm c (by omega) c2)) ⟨xl3,v2,k7,a8.sm fun b _=>(Gq.refl G b).eqR a4.symm,fun b hb=>by
     rw[a9]at hb
     have:=ln3 b hb
     have:=(ln2.lt b hb).1
     exact⟨by omega,by omega,(ln3 b hb).2.2⟩⟩ ⟨_,_,kn2⟩ (wK.trans a5) a6
    have hKe:=hK2
    rw[←hK2,hcl]at a1
    rw[←hK2]at a2
    (have hb:=trivial;with_reducible repeat' (first|simp only[hb,Vc.down,seval,aG8.down,Yd.down,c3,c4,c5,c6,c7,c8,nd,nvN,a1,a2,kn2,aNB,aMD,adL,vM,acL]|refine Bm ?_ ?_<;>intro hb|refine fd ?_|fail))
    exact Bn (kJ _ _ () ⟨D,i+1,h'.length,z.1,_,by omega,by omega,by simp[up,c3],by simp[up,c4],by simp[up,c5],rfl,by simp[up,c7],by simp[up],by simp[up,hend],by simpa [up,c6,nvN]using F3,fun w hw=>by rw[hz]at hw;cases hw;rfl⟩ rfl)
   ·have hdr:(D.drop (i+1)).map (·.1)=[]:=by rw[aLG (by omega)];rfl
    have hdr2:(D.drop (i+1+1)).map (·.1)=[]:=by rw[aLG (by omega)];rfl
    rw[hdr]at QK
    obtain⟨o,G,es,M,a1,a2,⟨rfl,a10⟩,a4,a5,a6⟩:=bC (O:=Ec) (H:=K2) (f:=136) (args:=[.ptr (H.length+3) 0 0]) hqK (a4V (Il hqK) (Qh k3) (QK.sm fun b _=>(Gq.refl _ b).eqR (Ho _).symm))
    have sm:∀c,c<K2.length→Gq K2 M c:=fun c c1=>(((Gq.refl _ c).eqR (Ho _).symm).trans (a10 c (by rw[Ee];exact c1))).eqR a4.symm
    obtain⟨xl3,k7⟩:=(sm _ (Aw k3)).live ⟨_,k3⟩
    obtain⟨xn4,kn2⟩:=(sm h'.length (by omega)).live ⟨_,kn⟩
    have F3:=F2.next (q2:=(D.drop (i+1+1)).map (·.1)) (0,0) (fun c c1 c2=>(smK c c1).trans (sm c (by omega))) ⟨xl3,v,k7,by rw[hdr2];exact QK.sm fun b hb=>sm b (QK.lt b hb).1,fun b hb=>by
     have:=ln3 b hb
     have:=(ln2.lt b hb).1
     exact⟨by omega,by omega,(ln3 b hb).2.2⟩⟩ ⟨_,_,kn2⟩ (wK.trans a5) a6
    have hKe:=hK2
    rw[←hK2,hcl]at a1
    rw[←hK2]at a2
    (have hb:=trivial;with_reducible repeat' (first|simp only[hb,Vc.down,seval,aG8.down,Yd.down,c3,c4,c5,c6,c7,c8,nd,nvN,a1,a2,kn2,aNB,aMD,adL,vM,acL]|refine Bm ?_ ?_<;>intro hb|refine fd ?_|fail))
    exact Bn (kJ _ _ () ⟨D,i+1,h'.length,(0,0),_,by omega,by omega,by simp[up,c3],by simp[up,c4],by simp[up,c5],rfl,by simp[up,c7],by simp[up],by simp[up,hend],by simpa [up,c6,nvN]using F3,fun w hw=>by rw[aKM (by omega)]at hw;cases hw⟩ rfl)
  ·have hDl:i=D.length:=by omega
   rw[decide_eq_false hlt]at g11
   subst hDl
   have hdr:D.drop (D.length+1)=[]:=aLG (by omega)
   rw[hdr,List.take_length]at F
   (have hb:=trivial;with_reducible repeat' (first|simp only[hb,Vc.down,seval,aG8.down,Yd.down,g11]|refine Bm ?_ ?_<;>intro hb|refine fd ?_|fail))
   exact kQ _ _ _ ⟨rfl,D,nb,u,ov,by simp[up,g8],by simp[up,g7],F⟩
 ·exact⟨_,0,M2.length,(m.bgn,0),.nils,rfl,by simp,by simp[up,Fe],by simp[up],by simp[up],by simp[up],by simp[up],by simp[up],by simp[up],st0,fun x hx=>by simp at hx;rw[←hx]⟩
 ·obtain⟨rfl,D,nb,u,ov,g8,g7,F⟩:=hk
  have hne:D≠[]:=fun e=>by have:=F.B.hd;rw[e]at this;simp at this
  rcases F.or_ with⟨_,h2⟩|⟨b,x1,rfl,h2,h3,_⟩
  ·exact absurd (List.map_eq_nil_iff.1 h2) hne
  ·obtain⟨y,mp,my⟩:=F.mp
   (have hb:=trivial;with_reducible repeat' (first|simp only[hb,Vc.down,seval,aG8.down,Yd.down,g7,g8]|refine Bm ?_ ?_<;>intro hb|refine fd ?_|fail))
   exact⟨D,b,x1,H.length+2,y,by simp,F.B,by rw[List.map_map]at h2;exact h2,by omega,mp,my,by omega,F.w,F.q,F.k⟩
theorem aH5{m:Ah}(hm:Ce m=true):(Fz m).length≤320:=by
 rw[←aGQ m []]
 have:Few m (tB m 0 m.sens.length [] ([],[])):=by unfold tB;exact aB3 hm _ (Few.start m)
 exact this.le hm
theorem a44{m:Ah}(hs:m.small)(hm:Ce m=true){H:Aa}(hq:Bv H=true):∃lv b x rows Ro es M,shK H (Ec.call (.sh 54) [.agg m.cells] (Hj H))=some (.ret (.tup [lv,.slr 2 b 0 (Fz m).length]),es)∧Eh H es=M∧LLG 2 (H.length+8) lv M rows ((Fz m).map fun x=>(tsc x).cells) Ro∧rows.length=(Fz m).length∧M[b]?=some (.live 2 true x ((Fz m).map (sgC m)))∧H.length≤b∧Qs H M∧Bv M=true∧∀c,c<H.length→Gq H M c:=by
 obtain⟨o,G,es,M,a1,a2,⟨lv,b,x,rows,Ro,rfl,s1,s2,s3,s4,_,_,s5⟩,a4,a5,a6⟩:=bC (O:=Ec) (H:=H) (f:=54) (args:=[.agg m.cells]) (Q:=ScR m (Hj H)) hq (by
  obtain⟨o,G,c,lv,b,x,rows,Ro,r,s1,s2,s3,s4,s5,s6,s7⟩:=a4L hs hm (Il hq)
  exact⟨o,G,c,⟨lv,b,x,rows,Ro,r,s1,s2,s3,s4,s5,s6,s7⟩,s5,s6⟩)
 obtain⟨z,g⟩:=Kr a4.symm ⟨x,s3⟩
 rw[Ee]at s1 s4 s5
 exact⟨lv,b,z,rows,Ro,es,M,a1,a2,s1.cl a4.symm,s2,g,s4,a5,a6,fun c hc=>(((Gq.refl H c).eqR (Ho H).symm).trans (s5 c hc)).eqR a4.symm⟩
theorem a5Z{m:Ah}(hs:m.small)(hm:Ce m=true){X:List (List Int × Int)}(hX:X.length≤2000){H:Aa}(hq:Bv H=true){sb:Nat}{x:Bool}(hsb:H[sb]?=some (.live 2 true x (X.map (sgC m)))):∃D ob ox mb y es M,shK H (Ec.call (.sh 55) [.agg m.cells,.slr 2 sb 0 X.length] (Hj H))=some (.ret (.tup [.slr 2 ob 0 D.length,.mapr mb]),es)∧Eh H es=M∧Fnd m X D∧M[ob]?=some (.live 2 true ox (D.map fun x=>nvN x.1))∧H.length≤ob∧M[mb]?=some (Gk (eO kN y (D.map (·.1))))∧(∀x∈D,y x.1=cmC m X x)∧H.length≤mb∧Qs H M∧Bv M=true∧∀c,c<H.length→Gq H M c:=by
 obtain⟨o,G,es,M,a1,a2,⟨D,ob,ox,mb,y,rfl,s1,s2,s3,s4,s5,s6,_,_,s7⟩,a4,a5,a6⟩:=bC (O:=Ec) (H:=H) (f:=55) (args:=[.agg m.cells,.slr 2 sb 0 X.length]) (Q:=FdR m X (Hj H)) hq (by
  obtain⟨o,G,c,D,ob,ox,mb,y,r,s1,s2,s3,s4,s5,s6,s7,s8,s9⟩:=a3X hs hm hX (Il hq) (Qh hsb)
  exact⟨o,G,c,⟨D,ob,ox,mb,y,r,s1,s2,s3,s4,s5,s6,s7,s8,s9⟩,s7,s8⟩)
 obtain⟨z,g⟩:=Kr a4.symm ⟨ox,s2⟩
 rw[Ee]at s3 s6 s7
 exact⟨D,ob,z,mb,y,es,M,a1,a2,s1,g,s3,aSI a4.symm s4,s5,s6,a5,a6,fun c hc=>(((Gq.refl H c).eqR (Ho H).symm).trans (s7 c hc)).eqR a4.symm⟩
theorem aKE:∀(d:Nat) (n:Int) (i:Nat) (x:Int),(upN d n)[i]?=some x→x=n+i∧i<d
 |0,n,i,x,h=>by simp[upN]at h
 |d+1,n,0,x,h=>by simp[upN]at h;omega
 |d+1,n,i+1,x,h=>by
  simp only[upN,List.getElem?_cons_succ]at h
  have:=aKE d (n+1) i x h
  omega
theorem ahQ:∀(d:Nat) (n:Int),(upN d n).length=d
 |0,_=>rfl
 |d+1,n=>by simp[upN,ahQ d]
theorem rM{α:Type}{l:List α}{k:Nat}{x:α}(h:l[k]?=some x):k<l.length:=(aLF.1 h).1
theorem a6X{V:Type}{step:V→Nat→V}{n:Nat}{v0:V}{D:List (V × List Nat)}{i j:Nat}(B:BF step n v0 D i j):∀(k:Nat) (x:V × List Nat),D[k]?=some x→x.2.length≤k:=by
 intro k
 induction k using Nat.strongRecOn with
 |_ k ih=>
  intro x hx
  by_cases h0:k=0
  ·subst h0;rw[B.hd]at hx;cases hx;simp
  ·obtain⟨k',u,p,a,h1,h2,rfl,_,_⟩:=B.par k x hx h0
   have:=ih k' h1 _ h2
   simp only at this
   simp;omega
end Go.Proofs.Ytfkokgjfpojeoaa
