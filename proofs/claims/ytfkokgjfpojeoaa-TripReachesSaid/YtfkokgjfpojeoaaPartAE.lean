/- The functions of the layer, walked. -/
import Derived.Test.YtfkokgjfpojeoaaPartAD
open List renaming mem_cons→acE,length_map→acG,getElem?_of_mem→acK,mem_map→acZ,getElem?_eq_getElem→adD,getElem?_append_left→ahZ,mem_of_getElem?→ah3,length_cons→aiH,replicate→aiI,getElem?_append_right→aiK,getElem?_set_self→al2,map_congr_left→al4,mem_append→al5,mem_flatMap→al6,map_cons→al7,mem_range→al9,getElem?_set_ne→amP,not_mem_nil→anC,mem_cons_of_mem→anF,range→an5,getElem?_eq_none→aoC,length_nil→ao3,drop_eq_nil_of_le→apN,pairwise_cons→ap9,mem_filter→asB,nil_append→asS,find?_eq_none→as6,find?_some→as9,mem_of_find?_eq_some→atA,getElem?_eq_some_iff→atX
open Eq renaming trans→aiC
open Bool renaming and_eq_true→al3
open Nat renaming add_sub_cancel_left→apC,add_right_cancel_iff→asX,lt_of_lt_of_le→atB
open Option renaming bind_some→apH,map_eq_some_iff→as8
open Int renaming toNat_natCast→asI
set_option linter.unusedSimpArgs false
set_option linter.unusedVariables false
namespace Go.Proofs.Ytfkokgjfpojeoaa
open Go.Ev Go Go.Ev.Bfs
set_option maxRecDepth 100000
set_option maxHeartbeats 16000000
def wh(m:Ad)(k:Nat)(r:Int):Int:=Vy k (Qb m k) r m.votes
theorem asQ{s:Bz}{v:Aj}{n:Int}(hl:s.lo≤s.hi)(h1:n≠s.lo)(h2:n≠s.hi+1)(h3:s.byp=true∨¬(n=(if v.above=true then v.level else v.level+1)∧s.lo<n∧n≤s.hi)):Qk s v n=Qk s v (n-1):=by
 cases hb:s.byp with
 |true=>unfold Qk;rw[hb];rfl
 |false=>
  have h3:=h3.resolve_left (by rw[hb];simp)
  rw[Bool.eq_iff_iff]
  cases ha:v.above<;>simp[ha]at h3<;>simp[Qk,ha,hb,To]<;>omega
theorem aeS{m:Ad}{k:Nat}{n:Int}(hl:(Qb m k).lo≤(Qb m k).hi)(h1:n≠(Qb m k).lo)(h2:n≠(Qb m k).hi+1)(h3:(Qb m k).byp=true∨∀v∈m.votes,¬(n=(if v.above=true then v.level else v.level+1)∧(Qb m k).lo<n∧n≤(Qb m k).hi)):wh m k n=wh m k (n-1):=by
 unfold wh Vy nD
 congr 1
 refine al4 fun v hv=>?_
 rw[asQ hl h1 h2 (h3.imp id fun h=>h v hv)]
theorem alC(n:Int):aF n=true↔ -10000≤n∧n≤10000:=by simp[aF,To]
theorem ahG{m:Ad}{k:Nat}(hk:k<m.sens.length):Qb m k∈m.sens:=ah3 (cR (k:=(k:Int)) (by simpa using hk))
theorem a2I{m:Ad}(hm:Bh m=true){k:Nat}(hk:k<m.sens.length):Sep (-10000) 10000 (wh m k) (rdF m k):=by
 obtain⟨q1,q2,q3⟩:=qJ hm (ahG hk)
 have mem:∀n,n∈Yr (dI (Qb m k) m.votes)↔n∈dI (Qb m k) m.votes:=fun n=>(iJ _).mem_iff
 refine awI alC (hZ _) ((mem _).2 (by simp[dI])) fun n h1 h2 h3=>(mem n).2 (Classical.byContradiction fun hn=>h3 ?_)
 simp only[dI,al5,acE,anC,or_false,al6,not_or,not_exists,not_and]at hn
 refine aeS q2 hn.1.2.1 hn.1.2.2 (.inr fun v hv hc=>?_)
 have:=hn.2 v hv
 split at hc<;>omega
def asY(m:Ad)(k:Nat):List Int:=(Qb m k).lo::((Qb m k).hi+1)::m.votes.flatMap fun v=>if(Qb m k).lo<(if v.above=true then v.level else v.level+1)∧(if v.above=true then v.level else v.level+1)≤(Qb m k).hi then [if v.above=true then v.level else v.level+1]else []
def fK:Nat→Int→List Int
 |0,_=>[]
 |d+1,n=>n::fK d (n+1)
theorem mQ:∀(d:Nat) (n x:Int),x∈fK d n↔n≤x∧x<n+d
 |0,n,x=>by simp[fK]<;>omega
 |d+1,n,x=>by simp only[fK,acE,mQ d];omega
theorem avR:∀(d:Nat) (n:Int),(fK d n).Pairwise (· < ·)
 |0,_=>List.Pairwise.nil
 |d+1,n=>ap9.2 ⟨fun x hx=>by have:=(mQ d _ x).1 hx;omega,avR d _⟩
def Ll(m:Ad)(k:Nat):List Int:= -10000::if(Qb m k).byp=true then []else(fK 20000 (-9999)).filter fun n=>decide (n∈asY m k)
theorem aqT{m:Ad}(hm:Bh m=true){k:Nat}(hk:k<m.sens.length):Sep (-10000) 10000 (wh m k) (Ll m k):=by
 obtain⟨q1,q2,q3⟩:=qJ hm (ahG hk)
 have hin:∀n∈(if(Qb m k).byp=true then([]:List Int)else(fK 20000 (-9999)).filter fun n=>decide (n∈asY m k)),-9999≤n∧n≤10000:=fun n hn=>by
  split at hn
  ·cases hn
  ·have:=(mQ _ _ _).1 (asB.1 hn).1
   omega
 refine Sep.of (ap9.2 ⟨fun n hn=>by have:=hin n hn;omega,?_⟩) (fun n hn=>?_) (by simp[Ll]) fun n h1 h2 h3=>?_
 ·split
  ·exact List.Pairwise.nil
  ·exact(avR _ _).filter _
 ·rcases acE.1 hn with rfl|hn
  ·omega
  ·have:=hin n hn;omega
 ·refine anF _ ?_
  cases hb:(Qb m k).byp with
  |true=>
   exfalso;apply h3
   unfold wh Vy nD
   congr 1
   refine al4 fun v _=>?_
   simp[Qk,hb]
  |false=>
   rw[if_neg (by simp)]
   refine asB.2 ⟨(mQ _ _ _).2 (by omega),decide_eq_true (Classical.byContradiction fun hn=>h3 ?_)⟩
   simp only[asY,acE,al6,not_or,not_exists,not_and]at hn
   refine aeS q2 hn.1 hn.2.1 (.inr fun v hv hc=>?_)
   have:=hn.2.2 v hv
   rw[if_pos (by rw[←hc.1];exact hc.2)]at this
   simp only[List.mem_singleton]at this
   exact this hc.1
def Zv(m:Ad)(k d:Nat):List (List Int):=(an5 d).map fun j=>Ll m (k+j)
theorem am0(m:Ad)(k d:Nat):Zv m k (d+1)=Ll m k::Zv m (k+1) d:=by
 unfold Zv
 rw[List.range_succ_eq_map,al7,List.map_map]
 congr 1
 refine al4 fun j _=>?_
 simp only[Function.comp,Nat.succ_eq_add_one]
 congr 1;omega
theorem aeM{m:Ad}(hm:Bh m=true):∀(d k:Nat),k+d=m.sens.length→iQ (-10000) 10000 (wh m) k (fD m k d)
 |0,_,_=>trivial
 |d+1,k,h=>by rw[abC];exact⟨a2I hm (by omega),aeM hm d (k+1) (by omega)⟩
theorem agR{m:Ad}(hm:Bh m=true):∀(d k:Nat),k+d=m.sens.length→iQ (-10000) 10000 (wh m) k (Zv m k d)
 |0,_,_=>trivial
 |d+1,k,h=>by rw[am0];exact⟨aqT hm (by omega),agR hm d (k+1) (by omega)⟩
theorem sR(m:Ad)(k d:Nat):(fD m k d).length=d:=by simp[fD]
theorem tU(m:Ad)(k d:Nat):(Zv m k d).length=d:=by simp[Zv]
theorem aoV{C:Type}{w:Nat→Int→C}:∀{p q:List Int} {k:Nat},Cls w k p q→p.length=q.length∧∀i,i<p.length→w (k+i) (p.getD i 0)=w (k+i) (q.getD i 0)
 | [],[],_,_=>⟨rfl,fun i h=>by simp at h⟩
 | [],_::_,_,h=>by cases h
 |_::_,[],_,h=>by cases h
 |a::p,b::q,k,h=>by
  obtain⟨h1,h2⟩:=aoV h.2
  refine⟨by simp[h1],fun i hi=>?_⟩
  cases i with
  |zero=>exact h.1
  |succ i=>
   have:=h2 i (by simpa using hi)
   rw[show k+1+i=k+(i+1) by omega]at this
   simpa using this
theorem asF{a b:List Bool}(ha:a.length≤6)(hl:a.length=b.length)(h:Yy a 0 0=Yy b 0 0):a=b:=by
 apply List.ext_getElem?
 intro i
 by_cases hi:i<a.length
 ·rw[anN a ha i hi,anN b (by omega) i (by omega),h]
 ·rw[aoC (by omega),aoC (by omega)]
theorem awJ{m:Ad}(hm:Bh m=true){k:Nat}{a b:Int}(h:wh m k a=wh m k b){v:Aj}(hv:v∈m.votes)(hk:(k:Int)∈v.sens):Qk (Qb m k) v a=Qk (Qb m k) v b:=by
 have h1:nD k (Qb m k) a m.votes=nD k (Qb m k) b m.votes:=asF (by simp[nD];exact gY hm) (by simp[nD]) h
 unfold nD at h1
 have h2:=List.map_inj_left.1 h1 v hv
 have h3:(v.sens.any fun x=>(k:Int)==x)=true:=List.any_eq_true.2 ⟨k,hk,by simp⟩
 simpa [h3]using h2
theorem ai9{m:Ad}{p q:List Int}{v:Aj}:∀(l:List Int) (c:Int),(∀k∈l,Qk (Qb m k) v (rAt p k)=Qk (Qb m k) v (rAt q k))→gV m v p l c=gV m v q l c
 | [],_,_=>rfl
 |k::l,c,h=>by
  unfold gV
  rw[h k (by simp)]
  exact ai9 l _ fun k hk=>h k (by simp[hk])
theorem al0{m:Ad}(hm:Bh m=true){p q:List Int}(hl:p.length=m.sens.length)(h:Cls (wh m) 0 p q):Ji m p=Ji m q:=by
 obtain⟨h1,h2⟩:=aoV h
 unfold Ji
 rw[pV,pV]
 congr 1
 refine al4 fun v hv=>?_
 unfold fY
 rw[ai9 v.sens 0 fun k hk=>?_]
 obtain⟨k0,k1⟩:=rX hm v hv k hk
 obtain⟨j,rfl⟩:∃j:Nat,k=j:=⟨k.toNat,by omega⟩
 simp only[asI]at k1
 have:=h2 j (by omega)
 rw[Nat.zero_add]at this
 simp only[rAt,asI]
 exact awJ hm this hv hk
def Ww(m:Ad)(v:Int × Int)(x:List Int × Int):Int × Int:=aj7 m v.1 v.2 (tsc x)
theorem ayD{m:Ad}{a b:List Int × Int}(h1:Ji m a.1=Ji m b.1)(h2:a.2=b.2)(v:Int × Int):Ww m v a=Ww m v b:=by
 unfold Ww aj7 tsc
 unfold Ji at h1
 simp only[h1,h2]
def Leg(m:Ad)(a:List Int × Int):Prop:=a.1.length=m.sens.length∧(∀n∈a.1,-10000≤n∧n≤10000)∧ -1≤a.2∧a.2<m.cmds
theorem agN{m:Ad}(hm:Bh m=true){c:Int}:c∈Ep m↔ -1≤c∧c<m.cmds:=by
 have:=aE hm
 unfold Ep
 rw[acZ]
 constructor
 ·rintro⟨i,hi,rfl⟩
  have:=al9.1 hi
  omega
 ·intro h
  exact⟨(c+1).toNat,al9.2 (by omega),by omega⟩
theorem awK(m:Ad):(Ep m).Pairwise (· < ·):=by
 unfold Ep
 exact List.pairwise_map.2 (List.pairwise_lt_range.imp fun h=>by omega)
structure Qj(m:Ad)(X:List (List Int × Int)):Prop where
 pw:X.Pairwise ltS
 leg:∀a∈X,Leg m a
 rep:∀a,Leg m a→∃b∈X,Ji m b.1=Ji m a.1∧b.2=a.2∧(b=a∨ltS b a)
theorem afP{m:Ad}(hm:Bh m=true){R:List (List Int)}(hp:R.Pairwise ltR)(hl:∀r∈R,r.length=m.sens.length∧∀n∈r,-10000≤n∧n≤10000)(hr:∀x:List Int,x.length=m.sens.length→(∀n∈x,-10000≤n∧n≤10000)→∃y∈R,Ji m y=Ji m x∧(y=x∨ltR y x)):Qj m (Vn (Ep m) R):=by
 refine⟨av6 (awK m) hp,fun a ha=>?_,fun a ha=>?_⟩
 ·obtain⟨h1,h2⟩:=agD.1 ha
  obtain⟨h3,h4⟩:=hl _ h1
  exact⟨h3,h4,(agN hm).1 h2⟩
 ·obtain⟨a1,a2,a3⟩:=ha
  obtain⟨y,y1,y2,y3⟩:=hr a.1 a1 a2
  refine⟨(y,a.2),agD.2 ⟨y1,(agN hm).2 a3⟩,y2,rfl,?_⟩
  rcases y3 with rfl|y3
  ·exact .inl rfl
  ·exact .inr (.inl y3)
theorem tJ(m:Ad):∀(rows:List (List Int)) (W:List Int) (X:List (List Int × Int)),(rows.foldl (jK m) (W,X)).2=X++Vn (Ep m) (Qu (fun _=>true) (Ji m) rows W)
 | [],W,X=>by simp[Qu,Vn]
 |r::rows,W,X=>by
  rw[List.foldl_cons]
  by_cases h:Ji m r∈W
  ·have e:jK m (W,X) r=(W,X):=if_pos h
   rw[e,tJ,Qu,if_neg (by simp[h])]
  ·have e:jK m (W,X) r=(W++[Ji m r],X++(Ep m).map fun c=>(r,c)):=if_neg h
   rw[e,tJ,Qu,if_pos ⟨rfl,h⟩]
   simp[Vn,List.append_assoc]
def He(m:Ad):List (List Int × Int):=Vn (Ep m) (Qu (fun _=>true) (Ji m) (Vu (fD m 0 m.sens.length)) [])
theorem zH(m:Ad)(now:List Int):(dP m 0 m.sens.length now ([],[])).2=He m:=by
 unfold dP He
 rw[tJ,asS,List.take_zero]
 simp
theorem Uh{m:Ad}(hm:Bh m=true):Qj m (He m):=by
 have hS:=aeM hm m.sens.length 0 (by omega)
 have hp:(Vu (fD m 0 m.sens.length)).Pairwise ltR:=abR hS.inc
 refine afP hm (sC (R:=ltR) (fun a b h _=>h) hp) (fun r hr=>?_) fun x h1 h2=>?_
 ·have:=iQ.row hS r (eU hr).1
  rw[sR]at this;exact this
 ·obtain⟨y,y1,y2,y3⟩:=iQ.all hS x (by rw[sR];exact h1) h2
  have hyl:y.length=m.sens.length:=by have:=(iQ.row hS y y1).1;rwa[sR]at this
  rcases lV (ok:=fun _=>true) (w:=Ji m) (met:=[]) hp y1 rfl with h|⟨b,b1,b2,b3⟩
  ·cases h
  ·refine⟨b,b1,b2.trans (al0 hm hyl y2),?_⟩
   rcases b3 with rfl|b3
   ·exact y3
   ·rcases y3 with rfl|y3
    ·exact .inr b3
    ·exact .inr (amT b3 y3)
def Dx(m:Ad):List (List Int × Int):=Vn (Ep m) (Vu (Zv m 0 m.sens.length))
theorem Ye{m:Ad}(hm:Bh m=true):Qj m (Dx m):=by
 have hS:=agR hm m.sens.length 0 (by omega)
 refine afP hm (abR hS.inc) (fun r hr=>?_) fun x h1 h2=>?_
 ·have:=iQ.row hS r hr
  rw[tU]at this;exact this
 ·obtain⟨y,y1,y2,y3⟩:=iQ.all hS x (by rw[tU];exact h1) h2
  have hyl:y.length=m.sens.length:=by have:=(iQ.row hS y y1).1;rwa[tU]at this
  exact⟨y,y1,al0 hm hyl y2,y3⟩
def gS(X:List (List Int × Int))(i:Nat):List Int × Int:=X.getD i ([],0)
theorem oZ{X:List (List Int × Int)}{i:Nat}{x:List Int × Int}(h:X[i]?=some x):gS X i=x:=by simp[gS,h]
theorem agY{X:List (List Int × Int)}{i:Nat}(h:i<X.length):gS X i∈X:=by
 have h1:X[i]?=some X[i]:=adD h
 rw[oZ h1];exact List.getElem_mem h
theorem Qj.inc{m:Ad}{X:List (List Int × Int)}(h:Qj m X):∀i j,i<j→j<X.length→ltS (gS X i) (gS X j):=bhY h.pw
theorem Qj.reps{m:Ad}{X:List (List Int × Int)}(h:Qj m X){a:List Int × Int}(ha:Leg m a):aw5 ltS (Ww m) (gS X) X.length a:=by
 obtain⟨b,b1,b2,b3,b4⟩:=h.rep a ha
 obtain⟨i,hi,rfl⟩:=List.getElem_of_mem b1
 refine⟨i,hi,fun v=>?_,?_⟩
 ·rw[oZ (adD hi)];exact ayD b2 b3 v
 ·rw[oZ (adD hi)];exact b4
abbrev mT(m:Ad)(X:List (List Int × Int))(D:List ((Int × Int) × List Nat)):Prop:=BF (fun v i=>Ww m v (gS X i)) X.length (m.bgn,0) D D.length 0
theorem mT.eq{m:Ad}{X Y:List (List Int × Int)}(hX:Qj m X)(hY:Qj m Y){D E:List ((Int × Int) × List Nat)}(B:mT m X D)(C:mT m Y E){k:Nat}{x:(Int × Int) × List Nat}(hx:D[k]?=some x):∃(k':Nat) (x':(Int × Int) × List Nat),E[k']?=some x'∧x'.1=x.1∧x'.2.map (gS Y)=x.2.map (gS X):=
 BF.same qH hX.inc hY.inc B C (fun _ hi=>hX.reps (hY.leg _ (agY hi))) (fun _ hi=>hY.reps (hX.leg _ (agY hi))) hx
theorem arX{m:Ad}(hm:Bh m=true):He m≠[]:=fun e=>by
 have hc:=aE hm
 obtain⟨b,hb,_⟩:=(Uh hm).rep (aiI m.sens.length (-10000),-1) ⟨by simp,fun n hn=>by have:=List.eq_of_mem_replicate hn;omega,by simp,by simp only;omega⟩
 rw[e]at hb;cases hb
theorem yK:Am .nilm=[.nilm]:=aiC rfl rfl
theorem yM:AV.flat .nilm=false:=aiC rfl rfl
theorem yD:AV.isCell .nilm=true:=aiC rfl rfl
theorem yO(b:Nat):Am (.mapr b)=[.mapr b]:=aiC rfl rfl
theorem yA(b:Nat):AV.flat (.mapr b)=false:=aiC rfl rfl
theorem yR(b:Nat):AV.isCell (.mapr b)=true:=aiC rfl rfl
def ScR(m:Ad)(H:Ab)(o:Gp)(G:Ab):Prop:=∃lv b x rows Ro,o=.ret (.tup [lv,.slr 2 b 0 (He m).length])∧nH 2 (H.length+8) lv G rows ((He m).map fun x=>(tsc x).cells) Ro∧rows.length=(He m).length∧G[b]?=some (.live 2 true x ((He m).map (sgC m)))∧H.length≤b∧Ns H G∧Bc G=true∧∀c,c<H.length→Ge H G c
def pX(m:Ad)(p:Nat)(x:Bool):Ab:=[.live 7 false false [m.cells],.live 1 false false [[.nils]],.live 1 false false [[.nils]],Hr [],.live 1 false x [[.mapr (p+3)]],.live 1 true false (aiI m.sens.length [.int .i64 0]),.live 1 false x [[.slr 1 (p+5) 0 m.sens.length]],.live 1 false x [[.func (.func 78) [] (scA p)]]]
theorem aGP{m:Ad}(hs:m.small)(hm:Bh m=true){H:Ab}(hq:Bc H=true):ShQ Dc 54 [.agg m.cells] H (ScR m H):=by
 have hn6:=dG hm
 have hms:((m.sens.length:Int)≤(m.sens.length:Int)∧(m.sens.length:Int)≤1099511627776)=True:=eq_true (by omega)
 refine mZ rfl Try.func54 rfl rfl ?_
 simp only[Try.f54]
 (have hb:=trivial;with_reducible repeat' (first|simp only[hb,Vc.down,seval,bj7.down,yK,yM,yD,yO,yA,yR,hms,acG]|refine Aq ?_ ?_<;>intro hb|refine fd ?_|fail))
 obtain⟨p,hp⟩:∃p,H.length=p:=⟨_,rfl⟩
 have hcl:Hf (H++pX m p true)=Hf H++pX m p false:=by simp[Hf,pX,CB.clean,Hr]
 have hqb:Bc (H++pX m p true)=true:=Bw hq rfl
 have gb:∀k,(H++pX m p true)[p+k]?=(pX m p true)[k]?:=fun k=>by
  rw[aiK (by omega)];congr 1;omega
 have F0:uW m p [] [] (aiI m.sens.length 0) .nils .nils [] [] (H++pX m p true):=by
  refine⟨⟨false,gb 0⟩,⟨false,gb 1⟩,⟨false,gb 2⟩,gb 3,⟨true,gb 4⟩,⟨false,?_⟩,⟨true,?_⟩,⟨true,gb 7⟩,?_,.inl ⟨rfl,rfl⟩,rfl⟩
  ·rw[gb 5];simp[pX,iv]
  ·rw[gb 6];simp[pX]
  ·exact nH.none
 obtain⟨o,G,es,M,e1,e2,⟨rfl,now',l',SL⟩,e3,e4,e5⟩:=Ti (O:=Dc) (H:=H++pX m p true) (f:=78) (args:=.int .i64 0::scA p) (Q:=fun o G=>o=.ret (.tup [])∧∃now',now'.length=m.sens.length∧ScL m p (dP m 0 m.sens.length (aiI m.sens.length 0) ([],[])).1 (He m) now' .nils .nils (Hf (H++pX m p true)) G) hqb (by
  obtain⟨o,G,c,rfl,now',x1,_,SL⟩:=bhH hs hm m.sens.length 0 [] [] (aiI m.sens.length 0) .nils .nils [] [] (Hf (H++pX m p true)) (Ha hqb) (F0.cl (Gz _).symm) (Few.start m) (by simp) (by omega)
  rw[zH]at SL
  exact⟨_,G,c,⟨rfl,now',by rw[x1];simp,SL⟩,SL.w,SL.q⟩)
 have smH:∀c,c<H.length→Ge H M c:=fun c hc=>by
  have e:Ge (Hf (H++pX m p true)) G c:=SL.k c (by rw[Cm];simp;omega) (by simp[oW,Pl];omega)
  exact((((Ge.refl H c).app hc _).eqR (Gz _).symm).trans e).eqR e3.symm
 obtain⟨⟨lv,sv,rows,Ro,F,_⟩,_,_,_⟩:=SL
 have F:=F.cl e3.symm
 obtain⟨x1,m1⟩:=F.h1
 obtain⟨x2,m2⟩:=F.h2
 rcases F.S with⟨h,_⟩|⟨b,x,rfl,kb,kp,_⟩
 ·exact absurd h (arX hm)
 have wH:Ns H M:=((Ns.refl H).app _).trans e4
 have hL:=F.L
 have hl:=F.len
 have e0:((0:Nat):Int)=0:=rfl
 rw[hcl]at e1
 simp only[pX,scA,Hr]at e1 e2
 rw[hp,e1]
 subst hp
 (have hb:=trivial;with_reducible repeat' (first|simp only[hb,Vc.down,seval,bj7.down,e2,m1,m2]|refine Aq ?_ ?_<;>intro hb|refine fd ?_|fail))
 exact⟨lv,b,x,rows,Ro,rfl,hL,hl,kb,by omega,wH,e5,smH⟩
def aP(v:Int × Int):List AV:=[.int .i64 v.1,.int .i64 v.2]
def QN(v:AV)(q:List (Int × Int))(H:Ab)(p:Nat):Prop:=
 (v=.nils∧q=[])∨∃b w rows r,v=.slr 2 b r q.length∧H[b]?=some (.live 2 true w rows)∧b≠p∧rows.drop r=q.map aP∧r+q.length=rows.length
theorem QN.sm{v:AV}{q:List (Int × Int)}{H G:Ab}{p:Nat}(h:QN v q H p)(k:∀b∈Pl v,Ge H G b):QN v q G p:=by
 rcases h with h|⟨b,w,rows,r,rfl,h2,h3⟩
 ·exact .inl h
 ·obtain⟨x,h4⟩:=(k b (by simp[Pl])).live ⟨w,h2⟩
  exact .inr ⟨b,x,rows,r,rfl,h4,h3⟩
theorem QN.lt{v:AV}{q:List (Int × Int)}{H:Ab}{p:Nat}(h:QN v q H p):∀b∈Pl v,b<H.length∧b≠p:=by
 rcases h with⟨rfl,_⟩|⟨b,w,rows,r,rfl,h2,h3,_⟩
 ·intro b hb1;simp[Pl]at hb1
 ·intro b' hb1;simp[Pl]at hb1;subst hb1;exact⟨An h2,h3⟩
theorem a9Z{H:Ab}{p:Nat}{w:Bool}{v:AV}{q:List (Int × Int)}(x:Int × Int)(hq:Bc H=true)(hp:H[p]?=some (.live 1 false w [[v]]))(hQ:QN v q H p)(hl:q.length≤100000000):
 ShQ Dc 135 [.ptr p 0 0,.agg [.int .i64 x.1,.int .i64 x.2]] H fun o G=>(o=.ret (.tup [])∧(∃v',G[p]?=some (.live 1 false true [[v']])∧QN v' (q++[x]) G p∧∀b∈Pl v',H.length≤b)∧∀c,c<H.length→c≠p→c∉Pl v→Ge H G c)∧Ns H G∧Bc G=true:=by
 have hpl:=An hp
 refine mZ rfl Try.func135 rfl rfl ?_
 simp only[Try.f135]
 have hA:=Ac hp
 have hS:=Jt hpl
 rcases hQ with⟨rfl,rfl⟩|⟨b,w',rows,r,rfl,hrb,hbp,hd,hl2⟩
 ·obtain⟨sf,s1,sn,sk⟩:∃sf:Nat→Nat,sf p=1∧sf H.length=10∧∀k,sf (H.length+k)=k+10:=⟨fun b=>if H.length≤b then b-H.length+10 else 1,by simp;omega,by simp,fun k=>by simp⟩
  (have hb:=trivial;with_reducible repeat' (first|simp only[hb,Vc.down,seval,bbI.down,hp,hA,hS]|refine Aq ?_ ?_<;>intro hb|((refine Zi (Up (sf) ?_) ?_);(simp (discharger:=decide) only[Zq,Ul,al7,List.map_nil,Qd,Zo,Zk,Zh,Qc,aiH,ao3,s1,sn,sk];kernel_rfl);intro _)|refine fdq ?_|fail))
  refine⟨⟨⟨.slr 2 (H.length+2) 0 1,?_,.inr ⟨H.length+2,false,[aP x],0,rfl,?_,by omega,rfl,rfl⟩,fun c hc=>by simp[Pl]at hc;omega⟩,fun c hc hn _=>((Ge.refl H c).set (fun e=>hn e.symm) _).app (by simpa using hc) _⟩,((Ns.refl H).put hp 1 false _).app _,Bw (Dj hq _ rfl) rfl⟩
  ·rw[ahZ (by simpa using hpl),al2 hpl]
  ·rw[Gj];rfl
 ·have hbl:=An hrb
  have hB:=Ac hrb
  have hSb:=Jt hbl
  have h39:(q.length+1≤549755813888)=True:=eq_true (by omega)
  have hg:∀l,(H.set b .dead++l)[p]?=some (.live 1 false w [[.slr 2 b r q.length]]):=fun l=>by
   rw[ahZ (by simpa using hpl),amP hbp];exact hp
  have hg2:∀l c,(H.set b .dead++l).set p c=(H.set b .dead).set p c++l:=fun l c=>Jt (by simpa using hpl) l c
  obtain⟨sf,s1,s2,sn,sk⟩:∃sf:Nat→Nat,sf p=1∧sf b=2∧sf H.length=10∧∀k,sf (H.length+k)=k+10:=⟨fun c=>if H.length≤c then c-H.length+10 else if c=b then 2 else 1,by show(if _ then _ else _)=_;rw[if_neg (by omega),if_neg (fun e=>hbp e.symm)],by show(if _ then _ else _)=_;rw[if_neg (by omega),if_pos rfl],by simp,fun k=>by simp⟩
  (have hb:=trivial;with_reducible repeat' (first|simp only[hb,Vc.down,seval,bbI.down,hp,hA,hS,hrb,hB,hSb,hd,hl2,h39,hg,hg2,Lm,Gj,List.length_set,acG]|refine Aq ?_ ?_<;>intro hb|((refine Zi (Up (sf) ?_) ?_);(simp (discharger:=decide) only[Zq,Ul,al7,List.map_nil,Qd,Zo,Zk,Zh,Qc,aiH,ao3,s1,s2,sn,sk];kernel_rfl);intro _)|refine fdq ?_|fail))
  have hsl:((H.set b CB.dead).set p (CB.live 1 false true [[AV.slr 2 (H.length+2) 0 (q.length+1)]])).length=H.length:=by simp
  refine⟨⟨⟨.slr 2 (H.length+2) 0 (q.length+1),?_,.inr ⟨H.length+2,false,(q++[x]).map aP,0,by simp,?_,by omega,rfl,by simp⟩,fun c hc=>by simp[Pl]at hc;omega⟩,fun c hc hn hn2=>(((Ge.refl H c).set (fun e=>hn2 (by simp[Pl,e])) _).set (fun e=>hn e.symm) _).app (by simpa using hc) _⟩,(((Ns.refl H).kill hrb).put (by rw[amP hbp];exact hp) 1 false _).app _,Bw (Dj (Dj hq _ rfl) _ rfl) rfl⟩
  ·rw[ahZ (by omega),al2 (by simpa using hpl)]
  ·rw[aiK (by omega),hsl,apC];simp[aP]
theorem aS3(b r k:Nat):slx Try.prog 99 (some (.slr 2 b r (k+1))) (some (some (.int .i64 1))) (some none)=some (.ret (.slr 2 b (r+1) k),[]):=by
 have hz:bG Try.prog 86=some 2:=by kernel_rfl
 simp only[slx,apH,tA,Try.underlying99,hz,Qz]
 simp[Qz,r1]
 omega
theorem aAL{H:Ab}{p:Nat}{w:Bool}{v:AV}(hq:Bc H=true)(hp:H[p]?=some (.live 1 false w [[v]]))(hQ:QN v [] H p):
 ShQ Dc 136 [.ptr p 0 0] H fun o G=>(o=.ret (.tup [.agg [.int .i64 0,.int .i64 0],.bool false])∧∀c,c<H.length→Ge H G c)∧Ns H G∧Bc G=true:=by
 have hA:=Ac hp
 have hpl:=An hp
 rcases hQ with⟨rfl,_⟩|⟨b,w',rows,r,rfl,hrb,hbp,hd,hl⟩
 ·refine mZ rfl Try.func136 rfl rfl ?_
  simp only[Try.f136]
  (have hb:=trivial;with_reducible repeat' (first|simp only[hb,Vc.down,seval,avA.down,hp,hA]|refine Aq ?_ ?_<;>intro hb|refine fd ?_|fail))
  exact⟨fun c hc=>(Ge.refl H c).app hc _,(Ns.refl H).app _,Bw hq rfl⟩
 ·simp only[ao3]at hp hA
  refine mZ rfl Try.func136 rfl rfl ?_
  simp only[Try.f136]
  (have hb:=trivial;with_reducible repeat' (first|simp only[hb,Vc.down,seval,avA.down,hp,hA]|refine Aq ?_ ?_<;>intro hb|refine fd ?_|fail))
  exact⟨fun c hc=>(Ge.refl H c).app hc _,(Ns.refl H).app _,Bw hq rfl⟩
theorem apD{H:Ab}{p:Nat}{w:Bool}{v:AV}{x:Int × Int}{q:List (Int × Int)}(hq:Bc H=true)(hp:H[p]?=some (.live 1 false w [[v]]))(hQ:QN v (x::q) H p)(hl:q.length≤100000000):
 ShQ Dc 136 [.ptr p 0 0] H fun o G=>(o=.ret (.tup [.agg [.int .i64 x.1,.int .i64 x.2],.bool true])∧(∃v',G[p]?=some (.live 1 false true [[v']])∧QN v' q G p∧Pl v'=Pl v)∧∀c,c<H.length→c≠p→Ge H G c)∧Ns H G∧Bc G=true:=by
 have hpl:=An hp
 rcases hQ with⟨_,h⟩|⟨b,w',rows,r,rfl,hrb,hbp,hd,hl2⟩
 ·cases h
 have hr0:rows[r]?=some [.int .i64 x.1,.int .i64 x.2]:=by
  have:=congrArg (·[0]?) hd
  simpa [aP]using this
 have hd2:rows.drop (r+1)=q.map aP:=by
  have:=congrArg (·.drop 1) hd
  simpa [List.drop_drop]using this
 simp only[aiH]at hl2 hp
 have h1:decide (((q.length+1:Nat):Int)=0)=false:=decide_eq_false (by omega)
 have h2:((((q.length+1:Nat):Int))==0)=false:=by simp;omega
 have h3:((0:Int)<((q.length+1:Nat):Int))=True:=eq_true (by omega)
 have h4:((1:Int)≤((q.length+1:Nat):Int))=True:=eq_true (by omega)
 have hA:=Ac hp
 have hB:=Ac hrb
 have hS:=Jt hpl
 have gs0:∀(c d:CB) (l:Ab),(H.set p c++l).set H.length d=H.set p c++l.set 0 d:=fun c d l=>by
  rw[List.set_append_right _ _ (by simp)];simp
 refine mZ rfl Try.func136 rfl rfl ?_
 simp only[Try.f136]
 (have hb:=trivial;with_reducible repeat' (first|simp only[hb,Vc.down,seval,avA.down,hp,hA,hB,hS,hrb,hr0,h1,h2,h3,h4,aS3,Lm,Gj,gs0]|refine Aq ?_ ?_<;>intro hb|refine fd ?_|fail))
 refine⟨⟨⟨.slr 2 b (r+1) q.length,?_,.inr ⟨b,w',rows,r+1,rfl,?_,hbp,hd2,by omega⟩,rfl⟩,fun c hc hn=>((Ge.refl H c).set (fun e=>hn e.symm) _).app (by simpa using hc) _⟩,((Ns.refl H).put hp 1 false _).app _,Bw (Dj hq _ rfl) rfl⟩
 ·rw[ahZ (by simpa using hpl),al2 hpl]
 ·rw[ahZ (by simpa using An hrb),amP (fun e=>hbp e.symm)];exact hrb
def akY:List Int→List Int→Option Bool
 |a::p,b::q=>if a=b then akY p q else some (decide (a<b))
 |_,_=>none
def ai2:List (List Int × Int)→List (List Int × Int)→Bool
 |a::p,b::q=>match akY a.1 b.1 with
  |some r=>r
  |none=>if a.2=b.2 then ai2 p q else decide (a.2<b.2)
 |_,_=>false
theorem ae4:∀{p q:List Int},p.length=q.length→(akY p q=none∧p=q)∨(akY p q=some true∧ltR p q)∨(akY p q=some false∧ltR q p)
 | [],[],_=>.inl ⟨rfl,rfl⟩
 | [],_::_,h=>by simp at h
 |_::_,[],h=>by simp at h
 |a::p,b::q,h=>by
  simp only[aiH,asX]at h
  unfold akY
  by_cases e:a=b
  ·subst e
   rw[if_pos rfl]
   rcases ae4 h with⟨h1,rfl⟩|⟨h1,h2⟩|⟨h1,h2⟩
   ·exact .inl ⟨h1,rfl⟩
   ·exact .inr (.inl ⟨h1,.inr ⟨rfl,h2⟩⟩)
   ·exact .inr (.inr ⟨h1,.inr ⟨rfl,h2⟩⟩)
  ·rw[if_neg e]
   by_cases h1:a<b
   ·exact .inr (.inl ⟨by rw[decide_eq_true h1],.inl h1⟩)
   ·exact .inr (.inr ⟨by rw[decide_eq_false h1],.inl (by omega)⟩)
def ay0(N:Nat)(l:List (List Int × Int)):Prop:=∀a∈l,a.1.length=N
theorem ae0{N:Nat}:∀{p q:List (List Int × Int)},p.length=q.length→ay0 N p→ay0 N q→(ai2 p q=true∧xG ltS p q∧p≠q)∨(ai2 p q=false∧xG ltS q p)
 | [],[],_,_,_=>.inr ⟨rfl,trivial⟩
 | [],_::_,h,_,_=>by simp at h
 |_::_,[],h,_,_=>by simp at h
 |a::p,b::q,h,hp,hq=>by
  simp only[aiH,asX]at h
  have ih:=ae0 (N:=N) h (fun x hx=>hp x (by simp[hx])) (fun x hx=>hq x (by simp[hx]))
  have hne:∀{p q:List (List Int × Int)} {a b:List Int × Int},ltS a b→a::p≠b::q:=fun hl e=>by
   simp only[List.cons.injEq]at e
   rw[e.1]at hl
   exact qH.irr _ hl
  unfold ai2
  rcases ae4 (p:=a.1) (q:=b.1) (by rw[hp a (by simp),hq b (by simp)])with⟨h1,h2⟩|⟨h1,h2⟩|⟨h1,h2⟩
  ·rw[h1]
   simp only
   by_cases e:a.2=b.2
   ·have eab:a=b:=Prod.ext h2 e
    subst eab
    rw[if_pos rfl]
    rcases ih with⟨i1,i2,i3⟩|⟨i1,i2⟩
    ·exact .inl ⟨i1,.inr ⟨rfl,i2⟩,fun e=>i3 (List.cons.inj e).2⟩
    ·exact .inr ⟨i1,.inr ⟨rfl,i2⟩⟩
   ·rw[if_neg e]
    by_cases hl:a.2<b.2
    ·exact .inl ⟨decide_eq_true hl,.inl (.inr ⟨h2,hl⟩),hne (.inr ⟨h2,hl⟩)⟩
    ·exact .inr ⟨decide_eq_false hl,.inl (.inr ⟨h2.symm,by omega⟩)⟩
  ·rw[h1]
   exact .inl ⟨rfl,.inl (.inl h2),hne (.inl h2)⟩
  ·rw[h1]
   exact .inr ⟨rfl,.inl (.inl h2)⟩
def mW(p b:List (List Int × Int)):Bool:=decide (p.length<b.length)||(decide (p.length=b.length)&&ai2 p b)
theorem atC{N:Nat}{p q:List (List Int × Int)}(hp:ay0 N p)(hq:ay0 N q):(mW p q=true→leA ltS p q∧p≠q)∧(mW p q=false→leA ltS q p):=by
 unfold mW
 by_cases h1:p.length<q.length
 ·rw[decide_eq_true h1]
  exact⟨fun _=>⟨.inl h1,fun e=>by rw[e]at h1;omega⟩,fun h=>by simp at h⟩
 ·rw[decide_eq_false h1]
  by_cases h2:p.length=q.length
  ·rw[decide_eq_true h2]
   rcases ae0 h2 hp hq with⟨i1,i2,i3⟩|⟨i1,i2⟩
   ·rw[i1];exact⟨fun _=>⟨.inr ⟨h2,i2⟩,i3⟩,fun h=>by simp at h⟩
   ·rw[i1];exact⟨fun h=>by simp at h,fun _=>.inr ⟨h2.symm,i2⟩⟩
  ·rw[decide_eq_false h2]
   exact⟨fun h=>by simp at h,fun _=>.inl (by omega)⟩
def Tu:List (Option (List (List Int × Int)))→Option (List (List Int × Int))→Option (List (List Int × Int))
 | [],b=>b
 |none::l,b=>Tu l b
 |some p::l,none=>Tu l (some p)
 |some p::l,some b=>Tu l (some (if mW p b=true then p else b))
theorem pY(p:List (List Int × Int)):leA ltS p p:=.inr ⟨rfl,agI p⟩
theorem gR{N:Nat}:∀{l:List (Option (List (List Int × Int)))} {b:Option (List (List Int × Int))},(∀p,some p∈b::l→ay0 N p)→
 (Tu l b=none∧∀p,some p∉b::l)∨∃p,Tu l b=some p∧some p∈b::l∧∀q,some q∈b::l→leA ltS p q
 | [],none,_=>.inl ⟨rfl,by simp⟩
 | [],some b,_=>.inr ⟨b,rfl,by simp,fun q hq=>by simp at hq;subst hq;exact pY _⟩
 |none::l,b,h=>by
  have e:Tu (none::l) b=Tu l b:=by cases b<;>rfl
  rw[e]
  have hm:∀p,some p∈b::none::l↔some p∈b::l:=fun p=>by simp
  rcases gR (l:=l) (b:=b) fun p hp=>h p ((hm p).2 hp)with⟨h1,h2⟩|⟨p,h1,h2,h3⟩
  ·exact .inl ⟨h1,fun p hp=>h2 p ((hm p).1 hp)⟩
  ·exact .inr ⟨p,h1,(hm p).2 h2,fun q hq=>h3 q ((hm q).1 hq)⟩
 |some p::l,none,h=>by
  have hm:∀q,some q∈none::some p::l↔some q∈some p::l:=fun q=>by simp
  rcases gR (l:=l) (b:=some p) fun q hq=>h q ((hm q).2 hq)with⟨h1,h2⟩|⟨q,h1,h2,h3⟩
  ·exact absurd (by simp) (h2 p)
  ·exact .inr ⟨q,h1,(hm q).2 h2,fun r hr=>h3 r ((hm r).1 hr)⟩
 |some p::l,some b,h=>by
  have rp:=h p (by simp)
  have rb:=h b (by simp)
  obtain⟨s1,s2⟩:=atC rp rb
  have e:Tu (some p::l) (some b)=Tu l (some (if mW p b=true then p else b)):=rfl
  rw[e]
  generalize hc:(if mW p b=true then p else b)=c
  have hcm:c=p∨c=b:=by rw[←hc];split<;>simp
  have cp:leA ltS c p∧leA ltS c b:=by
   rw[←hc]
   cases hb:mW p b with
   |true=>rw[if_pos rfl];exact⟨pY _,(s1 hb).1⟩
   |false=>rw[if_neg (by simp)];exact⟨s2 hb,pY _⟩
  rcases gR (l:=l) (b:=some c) fun q hq=>by
   rcases acE.1 hq with e|hq
   ·cases e;rcases hcm with rfl|rfl<;>assumption
   ·exact h q (by simp[hq])with⟨_,h2⟩|⟨q,h1,h2,h3⟩
  ·exact absurd (by simp) (h2 c)
  ·refine .inr ⟨q,h1,?_,fun r hr=>?_⟩
   ·rcases acE.1 h2 with e|h2
    ·cases e;rcases hcm with rfl|rfl<;>simp
    ·simp[h2]
   ·have qc:=h3 c (by simp)
    rcases acE.1 hr with e|hr
    ·cases e;exact uG qH qc cp.2
    ·rcases acE.1 hr with e|hr
     ·cases e;exact uG qH qc cp.1
     ·exact h3 r (by simp[hr])
def jD(D:List ((Int × Int) × List Nat))(s:Int):Option ((Int × Int) × List Nat):=D.find? fun x=>x.1.1==s
theorem BF.leg{m:Ad}{X:List (List Int × Int)}(hX:Qj m X){D:List ((Int × Int) × List Nat)}{i j:Nat}(B:BF (fun v i=>Ww m v (gS X i)) X.length (m.bgn,0) D i j){k:Nat}{x:(Int × Int) × List Nat}(hx:D[k]?=some x):∀a∈x.2.map (gS X),Leg m a:=fun a ha=>by
 obtain⟨i,hi,rfl⟩:=acZ.1 ha
 exact hX.leg _ (agY ((B.way k x hx).2 i hi))
theorem tL{m:Ad}{X:List (List Int × Int)}(hX:Qj m X){D:List ((Int × Int) × List Nat)}(B:mT m X D)(s:Int):
 (jD D s=none∧∀x∈D,x.1.1≠s)∨∃x,jD D s=some x∧x∈D∧x.1.1=s∧∀y∈D,y.1.1=s→leA ltS (x.2.map (gS X)) (y.2.map (gS X)):=by
 unfold jD
 cases hf:D.find? fun x=>x.1.1==s with
 |none=>
  refine .inl ⟨rfl,fun x hx e=>?_⟩
  have:=as6.1 hf x hx
  simp[e]at this
 |some x=>
  obtain⟨h1,as_,bs_,h2,h3⟩:=List.find?_eq_some_iff_append.1 hf
  refine .inr ⟨x,rfl,by rw[h2];simp,by simpa using h1,fun y hy e=>?_⟩
  have hxk:D[as_.length]?=some x:=by rw[h2];simp
  rw[h2]at hy
  rcases al5.1 hy with hy|hy
  ·have:=h3 y hy
   simp[e]at this
  ·rcases acE.1 hy with rfl|hy
   ·exact pY _
   ·obtain⟨j,hj⟩:=acK hy
    have hyk:D[as_.length+(j+1)]?=some y:=by
     rw[h2,aiK (by omega),apC];simpa using hj
    exact aoQ hX.inc (B.way _ _ hyk).2 (B.srt _ _ _ _ (by omega) hxk hyk).1
def eM(E:List ((Int × Int) × List Nat))(v:Int × Int):Option (List Nat):=(E.find? fun x=>decide (x.1=v)).map (·.2)
theorem Zb{step:Int × Int→Nat→Int × Int}{n:Nat}{v0:Int × Int}{E:List ((Int × Int) × List Nat)}{i j:Nat}(B:BF step n v0 E i j){v:Int × Int}{p:List Nat}:eM E v=some p↔(v,p)∈E:=by
 unfold eM
 constructor
 ·intro h
  obtain⟨x,h1,rfl⟩:=as8.1 h
  have h2:=as9 h1
  have h3:=atA h1
  simp only[decide_eq_true_eq]at h2
  rw[←h2];exact h3
 ·intro h
  cases hf:E.find? fun x=>decide (x.1=v)with
  |none=>have:=as6.1 hf _ h;simp at this
  |some x=>
   have h2:=as9 hf
   have h3:=atA hf
   simp only[decide_eq_true_eq]at h2
   obtain⟨k,hk⟩:=acK h3
   obtain⟨k',hk'⟩:=acK h
   have:=B.nd k k' _ _ hk hk' (by simpa using h2)
   subst this
   rw[hk]at hk'
   cases hk'
   rfl
def auN:List Int:=[0,1,2,3,4,5,6,7,8,9,10]
def wA(Y:List (List Int × Int))(E:List ((Int × Int) × List Nat))(s:Int):Option (List (List Int × Int)):=Tu (auN.map fun a=>(eM E (s,a)).map fun p=>p.map (gS Y)) none
theorem ayK{m:Ad}{X Y:List (List Int × Int)}(hX:Qj m X)(hY:Qj m Y){D E:List ((Int × Int) × List Nat)}(B:mT m X D)(C:mT m Y E)(hag:∀x∈E,x.1.2∈auN)(s:Int):wA Y E s=(jD D s).map fun x=>x.2.map (gS X):=by
 have mem:∀p,some p∈auN.map (fun a=>(eM E (s,a)).map fun p=>p.map (gS Y))↔∃y∈E,y.1.1=s∧y.2.map (gS Y)=p:=fun p=>by
  rw[acZ]
  constructor
  ·rintro⟨a,_,h⟩
   obtain⟨q,h1,rfl⟩:=as8.1 h
   exact⟨_,(Zb C).1 h1,rfl,rfl⟩
  ·rintro⟨⟨⟨s',a⟩,q⟩,h1,rfl,rfl⟩
   exact⟨a,hag _ h1,by rw[(Zb C).2 h1];rfl⟩
 have toE:∀x∈D,∃y∈E,y.1=x.1∧y.2.map (gS Y)=x.2.map (gS X):=fun x hx=>by
  obtain⟨k,hk⟩:=acK hx
  obtain⟨k',y,h1,h2,h3⟩:=mT.eq hX hY B C hk
  exact⟨y,ah3 h1,h2,h3⟩
 have toD:∀y∈E,∃x∈D,x.1=y.1∧x.2.map (gS X)=y.2.map (gS Y):=fun x hx=>by
  obtain⟨k,hk⟩:=acK hx
  obtain⟨k',y,h1,h2,h3⟩:=mT.eq hY hX C B hk
  exact⟨y,ah3 h1,h2,h3⟩
 unfold wA
 rcases gR (N:=m.sens.length) (l:=auN.map fun a=>(eM E (s,a)).map fun p=>p.map (gS Y)) (b:=none) (fun p hp=>by
  obtain⟨y,hy,_,rfl⟩:=(mem p).1 (by simpa using hp)
  obtain⟨k,hk⟩:=acK hy
  exact fun a ha=>(BF.leg hY C hk a ha).1)with⟨h1,h2⟩|⟨p,h1,h2,h3⟩
 ·rw[h1]
  rcases tL hX B s with⟨g1,_⟩|⟨x,_,g2,g3,_⟩
  ·rw[g1];rfl
  ·obtain⟨y,y1,y2,_⟩:=toE x g2
   exact absurd (anF _ ((mem _).2 ⟨y,y1,by rw[y2];exact g3,rfl⟩)) (h2 _)
 ·rw[h1]
  obtain⟨y,y1,y2,rfl⟩:=(mem p).1 (by simpa using h2)
  obtain⟨x,x1,x2,x3⟩:=toD y y1
  rcases tL hX B s with⟨_,g2⟩|⟨z,g1,g2,g3,g4⟩
  ·exact absurd (by rw[x2];exact y2) (g2 x x1)
  ·rw[g1]
   obtain⟨w,w1,w2,w3⟩:=toE z g2
   have k1:=h3 _ (anF _ ((mem _).2 ⟨w,w1,by rw[w2];exact g3,rfl⟩))
   have k2:=g4 x x1 (by rw[x2];exact y2)
   rw[w3]at k1
   rw[x3]at k2
   exact congrArg some (qC qH k1 k2)
theorem awQ{m:Ad}{X Y:List (List Int × Int)}(hX:Qj m X)(hY:Qj m Y){D E:List ((Int × Int) × List Nat)}(B:mT m X D)(C:mT m Y E)(s:Int):(∃x∈D,x.1.1=s)↔∃y∈E,y.1.1=s:=by
 constructor
 ·rintro⟨x,hx,h⟩
  obtain⟨k,hk⟩:=acK hx
  obtain⟨k',y,h1,h2,_⟩:=mT.eq hX hY B C hk
  exact⟨y,ah3 h1,by rw[h2];exact h⟩
 ·rintro⟨x,hx,h⟩
  obtain⟨k,hk⟩:=acK hx
  obtain⟨k',y,h1,h2,_⟩:=mT.eq hY hX C B hk
  exact⟨y,ah3 h1,by rw[h2];exact h⟩
def kN(v:Int × Int):AV:=.agg [.int .i64 v.1,.int .i64 v.2]
theorem aBS(x y x' y':Int):iT Try.prog 12 86 (.agg [.int .i64 x,.int .i64 y]) (.agg [.int .i64 x',.int .i64 y'])=(some (x==x')).bind fun r=>if r then((some (y==y')).bind fun r=>if r then some true else some false)else some false:=by kernel_rfl
theorem ayC:acP Try.prog 86 kN (fun _=>True):=⟨fun a _=>by
 obtain⟨x,y⟩:=a
 show ah0 Try.prog 86 (.agg [.int .i64 x,.int .i64 y])=true
 kernel_rfl,fun a b _ _=>by
 obtain⟨x,y⟩:=a
 obtain⟨x',y'⟩:=b
 show iT Try.prog 12 86 (.agg [.int .i64 x,.int .i64 y]) (.agg [.int .i64 x',.int .i64 y'])=_
 rw[aBS]
 by_cases e1:x=x'
 ·subst e1
  by_cases e2:y=y'
  ·subst e2;simp
  ·simp[e2]
 ·simp[e1],fun a _=>by
 simp[kN,AV.sameKey,AV.same]⟩
def xN(m:Ad)(v:Int × Int):Prop:=0≤v.1∧v.1<m.states∧0≤v.2∧v.2≤10
theorem Ie{m:Ad}(h:Bh m=true):1≤m.states∧m.states≤8∧0≤m.bgn∧m.bgn<m.states:=by
 simp only[Bh,Xd,al3]at h
 have h1:=h.1.1.1.1.1.1.1.2
 have h2:=h.1.1.1.1.1.2
 simp only[To,al3,decide_eq_true_eq]at h1 h2
 rw[Ed (by omega) (by omega)]at h2
 omega
theorem a3N{m:Ad}(h:Bh m=true){x:Ap}(hx:x∈m.moves):0≤x.to∧x.to<m.states:=by
 have hs:=Ie h
 simp only[Bh,al3,List.all_eq_true]at h
 have h2:=h.1.2 x hx
 simp only[Sj,al3,To,decide_eq_true_eq]at h2
 have h3:=h2.1.1.1.2
 rw[Ed (by omega) (by omega)]at h3
 omega
theorem aW4{a:Int}(h0:0≤a)(h1:a≤10):0≤tW a∧tW a≤10:=by
 unfold tW
 rw[Ed (by omega) (by omega)]
 split<;>omega
theorem ak7{m:Ad}{st ag bits com:Int}(hv:xN m (st,ag)):∀(l:List Ap),(∀x∈l,0≤x.to∧x.to<m.states)→xN m (Ox st ag bits com l)
 | [],_=>⟨hv.1,hv.2.1,aW4 hv.2.2.1 hv.2.2.2⟩
 |x::l,h=>by
  unfold Ox
  split
  ·exact⟨(h x (by simp)).1,(h x (by simp)).2,by simp,by simp⟩
  ·exact ak7 hv l fun y hy=>h y (by simp[hy])
theorem atZ{m:Ad}(hm:Bh m=true){v:Int × Int}(hv:xN m v)(a:List Int × Int):xN m (Ww m v a):=ak7 hv _ fun _ hx=>a3N hm hx
theorem ahW{m:Ad}(hm:Bh m=true){X:List (List Int × Int)}{D:List ((Int × Int) × List Nat)}{i j:Nat}(B:BF (fun v i=>Ww m v (gS X i)) X.length (m.bgn,0) D i j){x:(Int × Int) × List Nat}(hx:x∈D):xN m x.1:=by
 obtain⟨k,hk⟩:=acK hx
 have h:=(B.way k x hk).1
 rw[←h]
 have hs:=Ie hm
 have h0:xN m (m.bgn,0):=⟨hs.2.2.1,hs.2.2.2,by simp,by simp⟩
 have key:∀(w:List Nat) (v:Int × Int),xN m v→xN m (run (fun v i=>Ww m v (gS X i)) v w):=by
  intro w
  induction w with
  |nil=>intro v hv;exact hv
  |cons a w ih=>intro v hv;exact ih _ (atZ hm hv _)
 exact key _ _ h0
def aAF(m:Ad):List (Int × Int):=(an5 m.states.toNat).flatMap fun(s:Nat)=>(an5 11).map fun(a:Nat)=>((s:Int),(a:Int))
theorem auI{m:Ad}{v:Int × Int}(h:xN m v):v∈aAF m:=by
 obtain⟨h1,h2,h3,h4⟩:=h
 refine al6.2 ⟨v.1.toNat,al9.2 (by omega),acZ.2 ⟨v.2.toNat,al9.2 (by omega),?_⟩⟩
 exact Prod.ext (by simp;omega) (by simp;omega)
theorem awT(m:Ad):(aAF m).length=m.states.toNat*11:=by
 unfold aAF
 rw[List.length_flatMap]
 have key:∀l:List Nat,(l.map fun _=>11).sum=l.length*11:=fun l=>by
  induction l with
  |nil=>rfl
  |cons a l ih=>rw[al7,List.sum_cons,ih,aiH];omega
 simp[key]
theorem bjD{V:Type}{step:V→Nat→V}{n:Nat}{v0:V}{D:List (V × List Nat)}{i j:Nat}(B:BF step n v0 D i j):(D.map (·.1)).Nodup:=by
 unfold List.Nodup
 rw[List.pairwise_iff_getElem]
 intro a b ha hb hab e
 simp only[acG]at ha hb
 simp only[List.getElem_map]at e
 have:=B.nd a b _ _ (adD ha) (adD hb) e
 omega
theorem bf7{m:Ad}(hm:Bh m=true){X:List (List Int × Int)}{D:List ((Int × Int) × List Nat)}{i j:Nat}(B:BF (fun v i=>Ww m v (gS X i)) X.length (m.bgn,0) D i j):D.length≤m.states.toNat*11:=by
 have:=agL (bjD B) (k:=aAF m) fun v hv=>by
  obtain⟨x,hx,rfl⟩:=acZ.1 hv
  exact auI (ahW hm B hx)
 rw[awT]at this
 simpa using this
theorem La{m:Ad}(hm:Bh m=true){X:List (List Int × Int)}{D:List ((Int × Int) × List Nat)}{i j:Nat}(B:BF (fun v i=>Ww m v (gS X i)) X.length (m.bgn,0) D i j):D.length≤88:=by
 have h1:=bf7 hm B
 have h2:=Ie hm
 omega
def cmC(m:Ad)(X:List (List Int × Int))(x:(Int × Int) × List Nat):AV:=match x.2.getLast? with
 |none=>.agg [.int .i64 x.1.1,.int .i64 x.1.2,.int .i64 (-1)]
 |some a=>let u:=run (fun v i=>Ww m v (gS X i)) (m.bgn,0) x.2.dropLast
  .agg [.int .i64 u.1,.int .i64 u.2,.int .i64 a]
def mkI(P:Program)(ty:TypeId)(x:Option AV):OE:=x.bind fun a=>match P.underlying ty with
 |some (.interface _)=>none
 |some _=>some (.ret (.iface ty a),[])
 |none=>none
theorem akI{O:Hv}{P:Program}(t:List AV)(h:Ab)(ty:TypeId)(x:Operand):Hn O P t h (.makeInterface ty x)=mkI P ty (Ai t x):=by
 rw[En _ _ _ rfl]
 simp only[exec,mkI]
 cases Ai t x with
 |none=>rfl
 |some a=>
  simp only[apH]
  cases P.underlying ty with
  |none=>rfl
  |some u=>cases u<;>rfl
theorem ajM(a:AV):mkI Try.prog 133 (some a)=some (.ret (.iface 133 a),[]):=by
 have:Try.prog.underlying 133=some (.pointer 135):=Try.underlying133
 simp only[mkI,apH,this]
theorem jY:rU Try.prog 133 "saltdome/trip.put" =some 135:=by kernel_rfl
theorem eS:rU Try.prog 133 "saltdome/trip.take" =some 136:=by kernel_rfl
structure FdS(m:Ad)(X:List (List Int × Int))(H:Ab)(D:List ((Int × Int) × List Nat))(i j nb:Nat)(u:Int × Int)(q:List (Int × Int))(ov:AV)(O:List (Int × Int))(h:Ab):Prop where
 B:BF (fun v i=>Ww m v (gS X i)) X.length (m.bgn,0) D i j
 m0:∃x,h[H.length]?=some (.live 7 false x [m.cells])
 mp:∃y,h[H.length+2]?=some (Hr (lP kN y (D.map (·.1))))∧∀x∈D,y x.1=cmC m X x
 nd:∃x,h[nb]?=some (.live 2 true x [aP u])
 ln:∃x v,h[H.length+3]?=some (.live 1 false x [[v]])∧QN v q h (H.length+3)∧∀b∈Pl v,H.length+4≤b∧b≠nb∧b∉Pl ov
 or_:(ov=.nils∧O=[])∨∃b x,ov=.slr 2 b 0 O.length∧h[b]?=some (.live 2 true x (O.map aP))∧H.length+4≤b∧b≠nb
 nbl:H.length+4≤nb
 w:Ns H h
 q:Bc h=true
 k:∀c,c<H.length→Ge H h c
def FdR(m:Ad)(X:List (List Int × Int))(H:Ab)(o:Gp)(G:Ab):Prop:=∃D ob ox mb y,o=.ret (.tup [.slr 2 ob 0 D.length,.mapr mb])∧mT m X D∧G[ob]?=some (.live 2 true ox (D.map fun x=>aP x.1))∧H.length≤ob∧G[mb]?=some (Hr (lP kN y (D.map (·.1))))∧(∀x∈D,y x.1=cmC m X x)∧H.length≤mb∧Ns H G∧Bc G=true∧∀c,c<H.length→Ge H G c
theorem FdS.app{m:Ad}{X:List (List Int × Int)}{H:Ab}{D:List ((Int × Int) × List Nat)}{i j nb:Nat}{u:Int × Int}{q:List (Int × Int)}{ov:AV}{O:List (Int × Int)}{h:Ab}(F:FdS m X H D i j nb u q ov O h){l:Ab}(hl:Bc l=true):FdS m X H D i j nb u q ov O (h++l):=by
 obtain⟨B,⟨x0,m0⟩,⟨y,mp,my⟩,⟨x1,nd⟩,⟨x2,v,l1,l2,l3⟩,or_,nbl,w,q',k⟩:=F
 refine⟨B,⟨x0,Ac m0 l⟩,⟨y,Ac mp l,my⟩,⟨x1,Ac nd l⟩,⟨x2,v,Ac l1 l,l2.sm fun b hb=>(Ge.refl h b).app (l2.lt b hb).1 l,l3⟩,?_,nbl,w.app l,Bw q' hl,fun c hc=>(k c hc).app (atB hc w.1) l⟩
 rcases or_ with h1|⟨b,x,h1,h2,h3⟩
 ·exact .inl h1
 ·exact .inr ⟨b,x,h1,Ac h2 l,h3⟩
theorem FdS.own{m:Ad}{X:List (List Int × Int)}{H:Ab}{D:List ((Int × Int) × List Nat)}{i j nb:Nat}{u:Int × Int}{q:List (Int × Int)}{ov:AV}{O:List (Int × Int)}{h:Ab}(F:FdS m X H D i j nb u q ov O h):Wc 0 2 true (O.map aP) ov h:=by
 rcases F.or_ with⟨rfl,rfl⟩|⟨b,x,rfl,h2,_⟩
 ·exact Wc.nil _ _ _ _
 ·exact Wc.blk h2 rfl (by simp)
theorem FdS.ord{m:Ad}{X:List (List Int × Int)}{H:Ab}{D:List ((Int × Int) × List Nat)}{i j nb:Nat}{u:Int × Int}{q:List (Int × Int)}{ov:AV}{O:List (Int × Int)}{h:Ab}(F:FdS m X H D i j nb u q ov O h):FdS m X H D i j nb u q (.slr 2 (h.length+1) 0 (O.length+1)) (O++[u]) (kl 0 ov h++[.live 2 true false [aP u],.live 2 true false ((O++[u]).map aP)]):=by
 have hkl:(kl 0 ov h).length=h.length∧Bc (kl 0 ov h)=true∧Ns H (kl 0 ov h)∧∀c,c∉Pl ov→Ge h (kl 0 ov h) c:=by
  rcases F.or_ with⟨rfl,rfl⟩|⟨b,x,rfl,h2,_⟩
  ·exact⟨rfl,F.q,F.w,fun c _=>Ge.refl h c⟩
  ·exact⟨by simp[kl],Dj F.q b rfl,F.w.kill h2,fun c hc=>(Ge.refl h c).set (fun e=>hc (by simp[Pl];omega)) _⟩
 have hov:∀b∈Pl ov,H.length+4≤b∧b≠nb:=fun b hb=>by
  rcases F.or_ with⟨rfl,rfl⟩|⟨b',x,rfl,h2,h3,h4⟩
  ·simp[Pl]at hb
  ·simp[Pl]at hb;subst hb;exact⟨h3,h4⟩
 obtain⟨k1,k2,k3,k4⟩:=hkl
 have hlo:H.length≤h.length:=F.w.1
 obtain⟨B,m0,⟨y,mp,my⟩,nd,⟨x2,v,l1,l2,l3⟩,or_,nbl,w,q',k⟩:=F
 have hnb:nb<h.length:=by obtain⟨_,nd⟩:=nd;exact An nd
 have sm:∀c,c<h.length→c∉Pl ov→Ge h (kl 0 ov h++[.live 2 true false [aP u],.live 2 true false ((O++[u]).map aP)]) c:=fun c c1 c2=>(k4 c c2).app (by omega) _
 have l4:=An l1
 refine⟨B,(sm _ (by omega) fun hb=>by have:=(hov _ hb).1;omega).live m0,⟨y,(sm _ (by omega) fun hb=>by have:=(hov _ hb).1;omega).map mp,my⟩,(sm _ hnb fun hb=>(hov _ hb).2 rfl).live nd,?_,.inr ⟨h.length+1,false,by simp,?_,by omega,by omega⟩,nbl,k3.app _,Bw k2 rfl,fun c hc=>(k c hc).trans (sm c (by omega) fun hb=>by have:=(hov _ hb).1;omega)⟩
 ·obtain⟨z,g⟩:=(sm (H.length+3) l4 fun hb=>by have:=(hov _ hb).1;omega).live ⟨x2,l1⟩
  refine⟨z,v,g,l2.sm fun b hb=>sm b (l2.lt b hb).1 (l3 b hb).2.2,fun b hb=>⟨(l3 b hb).1,(l3 b hb).2.1,?_⟩⟩
  have:=(l2.lt b hb).1
  simp[Pl];omega
 ·rw[aiK (by omega),k1,apC];rfl
theorem FdS.next{m:Ad}{X:List (List Int × Int)}{H:Ab}{D:List ((Int × Int) × List Nat)}{i nb:Nat}{u:Int × Int}{q:List (Int × Int)}{ov:AV}{O:List (Int × Int)}{h':Ab}(F:FdS m X H D i X.length nb u q ov O h'){M:Ab}{q2:List (Int × Int)}(u2:Int × Int)(sm:∀c,c<h'.length→c≠H.length+3→Ge h' M c)(hl:∃x v,M[H.length+3]?=some (.live 1 false x [[v]])∧QN v q2 M (H.length+3)∧∀b∈Pl v,H.length+4≤b∧b≠h'.length∧b∉Pl ov)(hn:∃x r,M[h'.length]?=some (.live 2 true x r))(w:Ns h' M)(hq:Bc M=true):FdS m X H D (i+1) 0 h'.length u2 q2 ov O (M.set h'.length (.live 2 true true [aP u2])):=by
 have hlo:H.length≤h'.length:=F.w.1
 obtain⟨B,m0,⟨y,mp,my⟩,nd,⟨x2,v,l1,l2,l3⟩,or_,nbl,w0,q',k⟩:=F
 obtain⟨xn,r,hn⟩:=hn
 obtain⟨xl,v2,n1,n2,n3⟩:=hl
 have hp3:=An l1
 have sm2:∀c,c<h'.length→c≠H.length+3→Ge h' (M.set h'.length (.live 2 true true [aP u2])) c:=fun c c1 c2=>(sm c c1 c2).set (by omega) _
 have hm0:H.length<h'.length:=by obtain⟨_,g⟩:=m0;exact An g
 refine⟨B.next,(sm2 _ hm0 (by omega)).live m0,⟨y,(sm2 _ (An mp) (by omega)).map mp,my⟩,⟨true,al2 (An hn)⟩,⟨xl,v2,by rw[amP (by omega)];exact n1,n2.sm fun b hb=>(Ge.refl M b).set (fun e=>(n3 b hb).2.1 e.symm) _,n3⟩,?_,by omega,w0.trans (w.hi (Nat.le_refl _) _),Dj hq _ rfl,fun c hc=>(k c hc).trans (sm2 c (by omega) (by omega))⟩
 rcases or_ with h1|⟨b,z,h1,h2,h3,h4⟩
 ·exact .inl h1
 ·obtain⟨z',g⟩:=(sm2 b (An h2) (by omega)).live ⟨z,h2⟩
  exact .inr ⟨b,z',h1,g,h3,by have:=An h2;omega⟩
def fd4(m:Ad)(x:Bool):Ab:=[.live 7 false false [m.cells],.live 2 true x [[.int .i64 m.bgn,.int .i64 0]],Hr [.agg [.int .i64 m.bgn,.int .i64 0],.agg [.int .i64 m.bgn,.int .i64 0,.int .i64 (-1)]],.live 1 false false [[.nils]]]
theorem acC{α:Type}{l:List α}{k:Nat}{x:α}(h:l[k]?=some x)(l2:List α):(l++l2)[k]?=some x:=by
 rw[ahZ (atX.1 h).1];exact h
theorem aV7{m:Ad}(hs:m.small)(hm:Bh m=true){X:List (List Int × Int)}(hX:X.length≤2000){H:Ab}(hq:Bc H=true){sb:Nat}{x:Bool}(hsb:H[sb]?=some (.live 2 true x (X.map (sgC m)))):
 ShQ Dc 55 [.agg m.cells,.slr 2 sb 0 X.length] H (FdR m X H):=by
 obtain⟨p,hp⟩:∃p,H.length=p:=⟨_,rfl⟩
 have hms0:=fun(h:Ab) (b:Nat) (g:h[b]?=some (Hr [])) (c:AV)=>ayC.ms_new (ty:=100) (v:=fun _=>AV.nils) (L:=[]) Try.underlying100 g (fun _ h=>(by cases h)) (s:=(m.bgn,0)) trivial (by simp) c
 have hms:=hms0 (H++[.live 7 false false [m.cells],.live 2 true true [[.int .i64 m.bgn,.int .i64 0]],Hr []]) (H.length+2) (by simp) (.agg [.int .i64 m.bgn,.int .i64 0,.int .i64 (-1)])
 have hkv:lP kN (fun y=>if y=(m.bgn,(0:Int))then AV.agg [.int .i64 m.bgn,.int .i64 0,.int .i64 (-1)]else .nils) ([]++[(m.bgn,0)])=[.agg [.int .i64 m.bgn,.int .i64 0],.agg [.int .i64 m.bgn,.int .i64 0,.int .i64 (-1)]]:=by simp[lP,kN]
 rw[hkv]at hms
 simp only[kN,Hr]at hms
 refine mZ rfl Try.func55 rfl rfl ?_
 simp only[Try.f55]
 (have hb:=trivial;with_reducible repeat' (first|simp only[hb,Vc.down,seval,ac8.down,Ol.down,hms,akI,ajM,jY,eS,yK,yM,yD,yO,yA,yR,acG]|refine Aq ?_ ?_<;>intro hb|refine fd ?_|fail))
 have hcl:Hf (H++fd4 m true)=Hf H++fd4 m false:=by simp[Hf,fd4,CB.clean,Hr]
 have hqb:Bc (H++fd4 m true)=true:=Bw hq (by
  simp only[fd4,Bc,List.all_cons,List.all_nil,Bool.and_true,al3]
  refine⟨rfl,rfl,qX _ fun x hx=>?_,rfl⟩
  simp only[acE,anC,or_false]at hx
  rcases hx with rfl|rfl<;>simp[AV.sameKey,AV.same])
 have gb:∀k,(H++fd4 m true)[p+k]?=(fd4 m true)[k]?:=fun k=>by
  rw[aiK (by omega)];congr 1;omega
 obtain⟨o,G1,es1,M1,a1,a2,⟨rfl,⟨v1,a7,a8,a9⟩,a10⟩,a4,a5,a6⟩:=Ti (O:=Dc) (H:=H++fd4 m true) (f:=135) (args:=[.ptr (p+3) 0 0,.agg [.int .i64 m.bgn,.int .i64 0]]) hqb (a9Z (m.bgn,0) (Ha hqb) (Nx (gb 3)) (.inl ⟨rfl,rfl⟩) (by simp))
 have sm1:∀c,c<p+4→c≠p+3→Ge (H++fd4 m true) M1 c:=fun c c1 c2=>((((Ge.refl _ c).eqR (Gz _).symm).trans (a10 c (by rw[Cm];simp[fd4];omega) c2 (by simp[Pl])))).eqR a4.symm
 obtain⟨x1,k1⟩:=Ir a4.symm ⟨_,a7⟩
 have QN1:QN v1 ([]++[(m.bgn,0)]) M1 (p+3):=a8.sm fun b _=>(Ge.refl G1 b).eqR a4.symm
 obtain⟨o,G2,es2,M2,b1,b2,⟨rfl,⟨v2,b7,b8,b9⟩,b10⟩,b4,b5,b6⟩:=Ti (O:=Dc) (H:=M1) (f:=136) (args:=[.ptr (p+3) 0 0]) a6 (apD (q:=[]) (Ha a6) (Nx k1) (QN1.sm fun b _=>(Ge.refl M1 b).eqR (Gz M1).symm) (by simp))
 obtain⟨x2,k2⟩:=Ir b4.symm ⟨_,b7⟩
 have QN2:QN v2 [] M2 (p+3):=b8.sm fun b _=>(Ge.refl G2 b).eqR b4.symm
 have hM1:p+4≤M1.length:=by have:=a5.1;simp[fd4]at this;omega
 have sm2:∀c,c<p+4→c≠p+3→Ge (H++fd4 m true) M2 c:=fun c c1 c2=>(sm1 c c1 c2).trans ((((Ge.refl _ c).eqR (Gz _).symm).trans (b10 c (by rw[Cm];omega) c2)).eqR b4.symm)
 have hM2:M1.length≤M2.length:=b5.1
 have st0:FdS m X H [((m.bgn,0),[])] 0 0 M2.length (m.bgn,0) [] .nils [] (M2++[.live 2 true true [aP (m.bgn,0)]]):=by
  refine⟨BF.start _ _ _,?_,⟨fun _=>.agg [.int .i64 m.bgn,.int .i64 0,.int .i64 (-1)],?_,?_⟩,⟨true,by simp⟩,⟨x2,v2,?_,by rw[hp];exact QN2.sm fun b hb=>(Ge.refl M2 b).app (QN2.lt b hb).1 _,fun b hb=>?_⟩,.inl ⟨rfl,rfl⟩,by omega,?_,Bw b6 rfl,fun c hc=>?_⟩
  ·obtain⟨z,g⟩:=(sm2 p (by omega) (by omega)).live ⟨false,gb 0⟩
   exact⟨z,Ac (by rw[hp];exact g) _⟩
  ·rw[hp];exact Ac ((sm2 (p+2) (by omega) (by omega)).map (gb 2)) _
  ·intro x hx;simp at hx;subst hx;rfl
  ·rw[hp];exact Ac k2 _
  ·have h1:=b9▸hb
   have h2:=a9 b h1
   have h3:=(QN2.lt b hb).1
   rw[Cm]at h2
   simp[fd4]at h2
   exact⟨by omega,by omega,by simp[Pl]⟩
  ·exact((((Ns.refl H).app _).trans a5).trans b5).app _
  ·exact((((Ge.refl H c).app hc _).trans (sm2 c (by omega) (by omega)))).app (by omega) _
 rw[hcl]at a1
 simp only[fd4,Hr]at a1 a2
 rw[hp,a1]
 subst hp
 (have hb:=trivial;with_reducible repeat' (first|simp only[hb,Vc.down,seval,ac8.down,Ol.down,a2,b1,b2,akI,ajM,jY,eS,yK,yM,yD,yO,yA,yR,acG]|refine Aq ?_ ?_<;>intro hb|refine fd ?_|fail))
 refine Dl (cnt 77 (fun n (_:Unit) t h=>∃D i nb u ov,n+i=89∧i≤D.length∧t 1=.slr 2 sb 0 X.length∧t 2=.ptr H.length 0 0∧t 7=.mapr (H.length+2)∧t 8=ov∧t 9=.iface 133 (.ptr (H.length+3) 0 0)∧t 10=.ptr nb 0 0∧t 11=.bool (decide (i<D.length))∧FdS m X H D i 0 nb u ((D.drop (i+1)).map (·.1)) ov ((D.take i).map (·.1)) h∧∀x,D[i]?=some x→u=x.1) (fun _ _=>()) (fun _ e t h=>e=.exit 0∧∃D nb u ov,t 8=ov∧t 7=.mapr (H.length+2)∧FdS m X H D D.length 0 nb u [] ov (D.map (·.1)) h) ?_ ?_ 89 () _ _ ?_) (fun e t h hk=>?_)
 ·rintro _ t h Q' kQ ⟨D,i,nb,u,ov,hni,hiD,_,_,_,_,_,_,_,F,_⟩
  have:=La hm F.B
  omega
 ·rintro n _ t h J Q' kJ kQ ⟨D,i,nb,u,ov,hni,hiD,g1,g2,g7,g8,g9,g10,g11,F,hu⟩
  by_cases hlt:i<D.length
  ·obtain⟨⟨u',pth⟩,hDi⟩:∃z,D[i]?=some z:=⟨_,adD hlt⟩
   obtain rfl:u=u':=hu _ hDi
   rw[decide_eq_true hlt]at g11
   obtain⟨xn,hnd⟩:=F.nd
   have own':=F.own
   have hap:=fun(q:Ab) (r:List AV)=>fW own' (pre:=[]) rfl q r [] (by have:=La hm F.B;simp;omega)
   have hhp:=fun(q:Ab) (r:List (List AV)) (ba:Nat)=>jG own' (pre:=[]) rfl q 2 true r ba
   simp only[asS]at hap hhp
   (have hb:=trivial;with_reducible repeat' (first|simp only[hb,Vc.down,seval,ac8.down,Ol.down,g1,g2,g7,g8,g9,g10,g11,hnd,aP,hap,hhp,acG]|refine Aq ?_ ?_<;>intro hb|refine fd ?_|fail))
   have st1:=F.ord
   have hO:((D.take i).map (·.1)).length=i:=by simp;omega
   have hO1:(D.take i).map (·.1)++[u]=(D.take (i+1)).map (·.1):=by rw[List.take_add_one,hDi];simp
   rw[hO,hO1]at st1
   refine Dl (Ss 77 X (fun j (_:Unit) t h'=>∃D,i<D.length∧(∃pth,D[i]?=some (u,pth))∧t 1=.slr 2 sb 0 X.length∧t 2=.ptr H.length 0 0∧t 7=.mapr (H.length+2)∧t 8=.slr 2 (h.length+1) 0 (i+1)∧t 9=.iface 133 (.ptr (H.length+3) 0 0)∧t 10=.ptr nb 0 0∧t 46=.slr 2 sb 0 X.length∧t 47=.int .i64 X.length∧t 48=.int .i64 j∧FdS m X H D i j nb u ((D.drop (i+1)).map (·.1)) (.slr 2 (h.length+1) 0 (i+1)) ((D.take (i+1)).map (·.1)) h') (fun _ _=>()) (fun _ e t h'=>e=.exit 2∧∃D,i<D.length∧(∃pth,D[i]?=some (u,pth))∧t 1=.slr 2 sb 0 X.length∧t 2=.ptr H.length 0 0∧t 7=.mapr (H.length+2)∧t 8=.slr 2 (h.length+1) 0 (i+1)∧t 9=.iface 133 (.ptr (H.length+3) 0 0)∧t 10=.ptr nb 0 0∧FdS m X H D i X.length nb u ((D.drop (i+1)).map (·.1)) (.slr 2 (h.length+1) 0 (i+1)) ((D.take (i+1)).map (·.1)) h') ?_ ?_ () _ _ ?_) (fun e t h' hk=>?_)
   ·rintro _ t h' Q2 kQ2 ⟨D,c1,c2,c3,c4,c5,c6,c7,c8,c9,c10,c11,c12⟩
    (have hb:=trivial;with_reducible repeat' (first|simp only[hb,Vc.down,seval,ac8.down,Ol.down,c9,c10,c11,Int.lt_irrefl,decide_false]|refine Aq ?_ ?_<;>intro hb|refine fd ?_|fail))
    exact kQ2 _ _ _ ⟨rfl,D,c1,c2,by simp[up,c3],by simp[up,c4],by simp[up,c5],by simp[up,c6],by simp[up,c7],by simp[up,c8],c12⟩
   ·rintro sx rest j _ t h' J2 Q2 kJ2 kQ2 hx hj ⟨D,c1,⟨pth,c2⟩,c3,c4,c5,c6,c7,c8,c9,c10,c11,F2⟩
    obtain⟨xm,hm0⟩:=F2.m0
    obtain⟨y,mp,my⟩:=F2.mp
    obtain⟨xn2,nd⟩:=F2.nd
    obtain⟨xs,hsg⟩:=(F2.k sb (An hsb)).live ⟨x,hsb⟩
    obtain⟨xl,v,ln1,ln2,ln3⟩:=F2.ln
    have hpl3:=An ln1
    have hst:=amC m u.1 u.2 (Ji m sx.1) sx.2 hs (fun x hx w hw=>(aeR hm x hx w hw).1)
    obtain⟨v',hv'⟩:∃v',Ww m u sx=v':=⟨_,rfl⟩
    have hv2:Ox u.1 u.2 (Ji m sx.1) sx.2 m.moves=v':=hv'
    rw[hv2]at hst
    have hgj:Ww m u (gS X j)=v':=by rw[oZ hx];exact hv'
    have hw:=Av hj (show X.length≤maxLen by unfold maxLen;omega)
    have hd:((j:Int)<(X.length:Int))=True:=eq_true (by omega)
    have hd2:decide ((j:Int)<(X.length:Int))=true:=decide_eq_true (by omega)
    by_cases hin:v'∈D.map (·.1)
    ·obtain⟨z,hz,hz1⟩:=acZ.1 hin
     have hyz:=my z hz
     rw[hz1]at hyz
     obtain⟨c0,e1,e2,hcm⟩:∃c0 e1 e2,y v'=.agg [.int .i64 c0,.int .i64 e1,.int .i64 e2]:=by
      rw[hyz];unfold cmC;split<;>exact⟨_,_,_,rfl⟩
     have hlk:=fun l=>ayC.lk_yes (ty:=100) (z:=.agg [.int .i64 0,.int .i64 0,.int .i64 0]) Try.underlying100 (by kernel_rfl) (Ac mp l) (fun _ _=>trivial) hin true
     simp only[cond_true,hcm,kN]at hlk
     (have hb:=trivial;with_reducible repeat' (first|simp only[hb,Vc.down,seval,ac8.down,Ol.down,c3,c4,c5,c6,c7,c8,c9,c10,c11,hm0,Ac hm0,nd,Ac nd,hsg,Ac hsg,aP,sgC,hx,hst,hlk,hd,hd2,hw,acG]|refine Aq ?_ ?_<;>intro hb|refine fd ?_|fail))
     obtain⟨kz,hkz⟩:=acK hz
     refine Ax (kJ2 _ _ () ⟨D,c1,⟨pth,c2⟩,by simp[up,c3],by simp[up,c4],by simp[up,c5],by simp[up,c6],by simp[up,c7],by simp[up,c8],by simp[up,c9],by simp[up,c10],by simp[up]<;>omega,?_⟩ rfl)
     exact { F2.app (by rfl)with B:=F2.B.old c2 hkz (hz1.trans hgj.symm) }
    ·have hlk:=fun l=>ayC.lk_no (ty:=100) (z:=.agg [.int .i64 0,.int .i64 0,.int .i64 0]) Try.underlying100 (by kernel_rfl) (Ac mp l) (fun _ _=>trivial) trivial hin true
     have hms:=fun l=>ayC.ms_new (ty:=100) Try.underlying100 (Ac mp l) (fun _ _=>trivial) trivial hin (.agg [.int .i64 u.1,.int .i64 u.2,.int .i64 (j:Int)])
     obtain⟨mv,hmv⟩:∃mv,lP kN (fun w=>if w=v' then AV.agg [.int .i64 u.1,.int .i64 u.2,.int .i64 (j:Int)]else y w) (D.map (·.1)++[v'])=mv:=⟨_,rfl⟩
     rw[hmv]at hms
     simp only[cond_true,kN]at hlk hms
     have hsa:=Jt (An mp)
     have hmq:(Hr mv).quiet (Hr mv).clean=true:=qX _ fun a ha=>by
      rw[←hmv]at ha
      unfold lP at ha
      obtain⟨w,hw,ha⟩:=al6.1 ha
      simp only[acE,anC,or_false]at ha
      rcases ha with rfl|rfl
      ·simp[kN,AV.sameKey,AV.same]
      ·by_cases e:w=v'
       ·simp[e,AV.sameKey,AV.same]
       ·rw[if_neg e]
        rcases al5.1 hw with hw|hw
        ·obtain⟨z,hz,rfl⟩:=acZ.1 hw
         rw[my z hz];unfold cmC;split<;>simp[AV.sameKey,AV.same]
        ·simp at hw;exact absurd hw e
     obtain⟨l3,hl3⟩:∃l3:Ab,[CB.live 2 true true [[.int .i64 (Ji m sx.1),.int .i64 sx.2]],.live 2 true true [[.int .i64 v'.1,.int .i64 v'.2]],.live 3 true true [[.int .i64 0,.int .i64 0,.int .i64 0]]]=l3:=⟨_,rfl⟩
     have hcl:Hf (h'.set (H.length+2) (Hr mv)++l3)=Hf (h'.set (H.length+2) (Hr mv))++[.live 2 true false [[.int .i64 (Ji m sx.1),.int .i64 sx.2]],.live 2 true false [[.int .i64 v'.1,.int .i64 v'.2]],.live 3 true false [[.int .i64 0,.int .i64 0,.int .i64 0]]]:=by rw[←hl3];simp[Hf,CB.clean]
     have hqK:Bc (h'.set (H.length+2) (Hr mv)++l3)=true:=Bw (Dj F2.q _ hmq) (by rw[←hl3];rfl)
     have smK:∀c,c<h'.length→c≠H.length+2→Ge h' (h'.set (H.length+2) (Hr mv)++l3) c:=fun c hc hn=>((Ge.refl h' c).set (fun e=>hn e.symm) _).app (by simpa using hc) _
     obtain⟨xl2,hK3⟩:=(smK (H.length+3) hpl3 (by omega)).live ⟨xl,ln1⟩
     have QNK:=ln2.sm fun b hb=>smK b (ln2.lt b hb).1 (by have:=(ln3 b hb).1;omega)
     have h88:=La hm F2.B
     obtain⟨o,G,es,M,a1,a2,⟨rfl,⟨v2,a7,a8,a9⟩,a10⟩,a4,a5,a6⟩:=Ti (O:=Dc) (f:=135) (args:=[.ptr (H.length+3) 0 0,.agg [.int .i64 v'.1,.int .i64 v'.2]]) hqK (a9Z v' (Ha hqK) (Nx hK3) (QNK.sm fun b _=>(Ge.refl _ b).eqR (Gz _).symm) (by simp;omega))
     have sm:∀c,c<h'.length→c≠H.length+2→c≠H.length+3→c∉Pl v→Ge h' M c:=fun c c1 c2 c3 c4=>(smK c c1 c2).trans ((((Ge.refl _ c).eqR (Gz _).symm).trans (a10 c (by rw[Cm];simp;omega) c3 c4)).eqR a4.symm)
     obtain⟨xl3,k7⟩:=Ir a4.symm ⟨_,a7⟩
     have mM:M[H.length+2]?=some (Hr mv):=by
      have e:(h'.set (H.length+2) (Hr mv)++l3)[H.length+2]?=some (Hr mv):=by
       rw[ahZ (by simpa using An mp),al2 (An mp)]
      exact((((Ge.refl _ _).eqR (Gz _).symm).trans (a10 (H.length+2) (by rw[Cm];exact An e) (by omega) (fun hb=>by have:=(ln3 _ hb).1;omega))).eqR a4.symm).map e
     rw[hcl]at a1
     subst hl3
     (have hb:=trivial;with_reducible repeat' (first|simp only[hb,Vc.down,seval,ac8.down,Ol.down,c3,c4,c5,c6,c7,c8,c9,c10,c11,hm0,Ac hm0,nd,Ac nd,hsg,Ac hsg,aP,sgC,hx,hst,hlk,hms,hsa,hd,hd2,hw,Lm,Gj,a1,a2,akI,ajM,jY,eS,acG]|refine Aq ?_ ?_<;>intro hb|refine fd ?_|fail))
     have hdrop:(D++[(v',pth++[j])]).drop (i+1)=D.drop (i+1)++[(v',pth++[j])]:=List.drop_append_of_le_length (by omega)
     have htake:(D++[(v',pth++[j])]).take (i+1)=D.take (i+1):=List.take_append_of_le_length (by omega)
     have hmap:(D++[(v',pth++[j])]).map (·.1)=D.map (·.1)++[v']:=by simp
     have hovl:∀b∈Pl (.slr 2 (h.length+1) 0 (i+1)),H.length+4≤b∧b<h'.length:=fun b hb=>by
      rcases F2.or_ with⟨h1,_⟩|⟨b',z,h1,h2,h3,_⟩
      ·cases h1
      ·have eb:b'=h.length+1:=by simp only[AV.slr.injEq]at h1;omega
       simp[Pl]at hb;subst hb;rw[←eb];exact⟨h3,An h2⟩
     refine Ax (kJ2 _ _ () ⟨D++[(v',pth++[j])],by simp;omega,⟨pth,acC c2 _⟩,by simp[up,c3],by simp[up,c4],by simp[up,c5],by simp[up,c6],by simp[up,c7],by simp[up,c8],by simp[up,c9],by simp[up,c10],by simp[up]<;>omega,?_⟩ rfl)
     have hnbl:=F2.nbl
     rw[hdrop,htake,List.map_append]
     refine⟨?_,(sm _ (An hm0) (by omega) (by omega) fun hb=>by have:=(ln3 _ hb).1;omega).live ⟨xm,hm0⟩,⟨fun w=>if w=v' then AV.agg [.int .i64 u.1,.int .i64 u.2,.int .i64 (j:Int)]else y w,by rw[hmap,hmv];exact mM,fun z hz=>?_⟩,(sm nb (An nd) (by omega) (by omega) fun hb=>(ln3 _ hb).2.1 rfl).live ⟨xn2,nd⟩,⟨xl3,v2,k7,a8.sm fun b _=>(Ge.refl G b).eqR a4.symm,fun b hb=>?_⟩,?_,hnbl,(F2.w.trans (((Ns.refl h').map mp mv).app _)).trans a5,a6,fun c hc=>(F2.k c hc).trans (sm c (atB hc F2.w.1) (by omega) (by omega) fun hb=>by have:=(ln3 _ hb).1;omega)⟩
     ·have:=F2.B.new c2 hj (fun k z hz e=>hin (by rw[hgj]at e;exact acZ.2 ⟨z,ah3 hz,e⟩))
      rwa[hgj]at this
     ·rcases al5.1 hz with hz|hz
      ·have hne:z.1≠v':=fun e=>hin (acZ.2 ⟨z,hz,e⟩)
       simp only[if_neg hne];exact my z hz
      ·simp at hz;subst hz
       have hway:=(F2.B.way i _ c2).1
       simp only at hway
       simp[cmC,hway]
     ·have h1:=a9 b hb
      rw[Cm]at h1
      simp at h1
      refine⟨by omega,fun e=>by have:=An nd;omega,fun h2=>by have:=(hovl b h2).2;omega⟩
     ·rcases F2.or_ with⟨h1,_⟩|⟨b',z,h1,h2,h3,h4⟩
      ·cases h1
      ·obtain⟨z',g⟩:=(sm b' (An h2) (by omega) (by omega) fun hb=>(ln3 _ hb).2.2 (by rw[h1];simp[Pl])).live ⟨z,h2⟩
       exact .inr ⟨b',z',h1,g,h3,h4⟩
   ·exact⟨D,hlt,⟨pth,hDi⟩,by simp[up,g1],by simp[up,g2],by simp[up,g7],by simp[up];omega,by simp[up,g9],by simp[up,g10],by simp[up],by simp[up],by simp[up],by rw[show((D.take i).map (·.1)).map aP++[[.int .i64 u.1,.int .i64 u.2]]=((D.take (i+1)).map (·.1)).map aP from by rw[←hO1];simp[aP]];exact st1⟩
   obtain⟨rfl,D,c1,⟨pth,c2⟩,c3,c4,c5,c6,c7,c8,F2⟩:=hk
   obtain⟨xn3,nd⟩:=F2.nd
   obtain⟨xl,v,ln1,ln2,ln3⟩:=F2.ln
   obtain⟨K2,hK2⟩:∃K2,h'++[CB.live 2 true true [[.int .i64 u.1,.int .i64 u.2]]]=K2:=⟨_,rfl⟩
   have hcl:Hf (h'++[CB.live 2 true true [[.int .i64 u.1,.int .i64 u.2]]])=Hf h'++[CB.live 2 true false [[.int .i64 u.1,.int .i64 u.2]]]:=by simp[Hf,CB.clean]
   have hqK:Bc K2=true:=by rw[←hK2];exact Bw F2.q rfl
   have hp3:=An ln1
   have k3:K2[H.length+3]?=some (.live 1 false xl [[v]]):=by rw[←hK2];exact Ac ln1 _
   have QK:QN v ((D.drop (i+1)).map (·.1)) K2 (H.length+3):=by rw[←hK2];exact ln2.sm fun b hb=>(Ge.refl h' b).app (ln2.lt b hb).1 _
   have kn:K2[h'.length]?=some (.live 2 true true [[.int .i64 u.1,.int .i64 u.2]]):=by rw[←hK2];simp
   have smK:∀c,c<h'.length→Ge h' K2 c:=fun c hc=>by rw[←hK2];exact(Ge.refl h' c).app hc _
   have wK:Ns h' K2:=by rw[←hK2];exact(Ns.refl h').app _
   have hKl:K2.length=h'.length+1:=by rw[←hK2];simp
   have h88:=La hm F2.B
   by_cases hend:i+1<D.length
   ·obtain⟨z,hz⟩:∃z,D[i+1]?=some z:=⟨_,adD hend⟩
    have hdr:(D.drop (i+1)).map (·.1)=z.1::(D.drop (i+1+1)).map (·.1):=by
     obtain⟨q1,q2⟩:=atX.1 hz
     rw[List.drop_eq_getElem_cons q1,q2];rfl
    rw[hdr]at QK
    obtain⟨o,G,es,M,a1,a2,⟨rfl,⟨v2,a7,a8,a9⟩,a10⟩,a4,a5,a6⟩:=Ti (O:=Dc) (H:=K2) (f:=136) (args:=[.ptr (H.length+3) 0 0]) hqK (apD (Ha hqK) (Nx k3) (QK.sm fun b _=>(Ge.refl _ b).eqR (Gz _).symm) (by simp;omega))
    have sm:∀c,c<K2.length→c≠H.length+3→Ge K2 M c:=fun c c1 c2=>(((Ge.refl _ c).eqR (Gz _).symm).trans (a10 c (by rw[Cm];exact c1) c2)).eqR a4.symm
    obtain⟨xl3,k7⟩:=Ir a4.symm ⟨_,a7⟩
    obtain⟨xn4,kn2⟩:=(sm h'.length (by omega) (by omega)).live ⟨_,kn⟩
    have F3:=F2.next (q2:=(D.drop (i+1+1)).map (·.1)) z.1 (fun c c1 c2=>(smK c c1).trans (sm c (by omega) c2)) ⟨xl3,v2,k7,a8.sm fun b _=>(Ge.refl G b).eqR a4.symm,fun b hb=>by
     rw[a9]at hb
     have:=ln3 b hb
     have:=(ln2.lt b hb).1
     exact⟨by omega,by omega,(ln3 b hb).2.2⟩⟩ ⟨_,_,kn2⟩ (wK.trans a5) a6
    have hKe:=hK2
    rw[←hK2,hcl]at a1
    rw[←hK2]at a2
    (have hb:=trivial;with_reducible repeat' (first|simp only[hb,Vc.down,seval,ac8.down,Ol.down,c3,c4,c5,c6,c7,c8,nd,aP,a1,a2,kn2,akI,ajM,jY,eS,acG]|refine Aq ?_ ?_<;>intro hb|refine fd ?_|fail))
    exact Ax (kJ _ _ () ⟨D,i+1,h'.length,z.1,_,by omega,by omega,by simp[up,c3],by simp[up,c4],by simp[up,c5],rfl,by simp[up,c7],by simp[up],by simp[up,hend],by simpa [up,c6,aP]using F3,fun w hw=>by rw[hz]at hw;cases hw;rfl⟩ rfl)
   ·have hdr:(D.drop (i+1)).map (·.1)=[]:=by rw[apN (by omega)];rfl
    have hdr2:(D.drop (i+1+1)).map (·.1)=[]:=by rw[apN (by omega)];rfl
    rw[hdr]at QK
    obtain⟨o,G,es,M,a1,a2,⟨rfl,a10⟩,a4,a5,a6⟩:=Ti (O:=Dc) (H:=K2) (f:=136) (args:=[.ptr (H.length+3) 0 0]) hqK (aAL (Ha hqK) (Nx k3) (QK.sm fun b _=>(Ge.refl _ b).eqR (Gz _).symm))
    have sm:∀c,c<K2.length→Ge K2 M c:=fun c c1=>(((Ge.refl _ c).eqR (Gz _).symm).trans (a10 c (by rw[Cm];exact c1))).eqR a4.symm
    obtain⟨xl3,k7⟩:=(sm _ (An k3)).live ⟨_,k3⟩
    obtain⟨xn4,kn2⟩:=(sm h'.length (by omega)).live ⟨_,kn⟩
    have F3:=F2.next (q2:=(D.drop (i+1+1)).map (·.1)) (0,0) (fun c c1 c2=>(smK c c1).trans (sm c (by omega))) ⟨xl3,v,k7,by rw[hdr2];exact QK.sm fun b hb=>sm b (QK.lt b hb).1,fun b hb=>by
     have:=ln3 b hb
     have:=(ln2.lt b hb).1
     exact⟨by omega,by omega,(ln3 b hb).2.2⟩⟩ ⟨_,_,kn2⟩ (wK.trans a5) a6
    have hKe:=hK2
    rw[←hK2,hcl]at a1
    rw[←hK2]at a2
    (have hb:=trivial;with_reducible repeat' (first|simp only[hb,Vc.down,seval,ac8.down,Ol.down,c3,c4,c5,c6,c7,c8,nd,aP,a1,a2,kn2,akI,ajM,jY,eS,acG]|refine Aq ?_ ?_<;>intro hb|refine fd ?_|fail))
    exact Ax (kJ _ _ () ⟨D,i+1,h'.length,(0,0),_,by omega,by omega,by simp[up,c3],by simp[up,c4],by simp[up,c5],rfl,by simp[up,c7],by simp[up],by simp[up,hend],by simpa [up,c6,aP]using F3,fun w hw=>by rw[aoC (by omega)]at hw;cases hw⟩ rfl)
  ·have hDl:i=D.length:=by omega
   rw[decide_eq_false hlt]at g11
   subst hDl
   have hdr:D.drop (D.length+1)=[]:=apN (by omega)
   rw[hdr,List.take_length]at F
   (have hb:=trivial;with_reducible repeat' (first|simp only[hb,Vc.down,seval,ac8.down,Ol.down,g11]|refine Aq ?_ ?_<;>intro hb|refine fd ?_|fail))
   exact kQ _ _ _ ⟨rfl,D,nb,u,ov,by simp[up,g8],by simp[up,g7],F⟩
 ·exact⟨_,0,M2.length,(m.bgn,0),.nils,rfl,by simp,by simp[up,Eg],by simp[up],by simp[up],by simp[up],by simp[up],by simp[up],by simp[up],st0,fun x hx=>by simp at hx;rw[←hx]⟩
 ·obtain⟨rfl,D,nb,u,ov,g8,g7,F⟩:=hk
  have hne:D≠[]:=fun e=>by have:=F.B.hd;rw[e]at this;simp at this
  rcases F.or_ with⟨_,h2⟩|⟨b,x1,rfl,h2,h3,_⟩
  ·exact absurd (List.map_eq_nil_iff.1 h2) hne
  ·obtain⟨y,mp,my⟩:=F.mp
   (have hb:=trivial;with_reducible repeat' (first|simp only[hb,Vc.down,seval,ac8.down,Ol.down,g7,g8]|refine Aq ?_ ?_<;>intro hb|refine fd ?_|fail))
   exact⟨D,b,x1,H.length+2,y,by simp,F.B,by rw[List.map_map]at h2;exact h2,by omega,mp,my,by omega,F.w,F.q,F.k⟩
end Go.Proofs.Ytfkokgjfpojeoaa
