/- The functions of the layer, walked. -/
import Derived.Test.YtcncggaobhbomaaGreatDoorPartAD
import Derived.Test.YtcncggaobhbomaaGreatDoorPartAB
import Derived.Test.YtcncggaobhbomaaGreatDoorPartAC
open List renaming length_map→abT,length_set→adA,take_of_length_le→adM,take→adP,all_cons→ad8,all_nil→agF,length_append→aiF,mem_of_getElem?→ai3,map_eq_nil_iff→ai4,length_cons→ai5
open Nat renaming le_refl→abV
open Bool renaming not_true→acG,not_false→ac4,and_eq_true→adD,and_true→ahF,not_eq_true'→ahS
open Int renaming natCast_zero→ah9
set_option linter.unusedSimpArgs false
set_option linter.unusedVariables false
namespace Go.Proofs.YtcncggaobhbomaaGreatDoor
open Go.Ev Go Go.Ev.Net
set_option maxRecDepth 100000
set_option maxHeartbeats 16000000
def nY(L:List St)(f:St→Nat)(s:St):Qa:=[.live 1 false false [[.mapr 2]],.live 25 true false [Rr s],Sz (Uy L (bA f))]
theorem aw7{L:List St}{f:St→Nat}(hL:zI L)(hf:∀s∈L,f s≤Ue){o:Yt}(ho:COk L o){s:St}(hs:s∈L):
 Uu.call (.fn 43) [.agg o.cells,.ptr 0 0 0,.ptr 1 0 0] (nY L f s)=some (.ret (.bool (lQ f o==f s)),nY L f s):=by
 have h:=xT hL hf ho
 have hne:o.to.map Rr≠[]:=by simpa using ho.ne
 have hlk:=fun(q:Qa) (b:Nat) (hb:q[b]?=some (Sz (Uy L (bA f))))=>wH hb hL hs
 have hkv:bA f s=.int .i64 (f s:Int):=rfl
 have w1:=Xs (hL s hs)
 have w2:=Vx s
 have w3:=Wi s
 have w4:adP 25 (Rr s)=Rr s:=adM (by omega)
 have heq:((lQ f o:Int)==(f s:Int))=(lQ f o==f s):=by rw[Bool.eq_iff_iff];simp;omega
 simp only[Yt.cells,Yw hne]at h ⊢
 unfold nY
 refine ce Tryz.func43 ?_
 simp only[Tryz.f43]
 (have hb:=trivial;with_reducible repeat' (first|simp only[hb,Vc.down,seval,bcN.down,h,hlk,hkv,heq,w1,w2,w3,w4,Zs,bN,bR,eJ,Zy.down]|refine Qs ?_ ?_<;>intro hb|refine fd ?_|fail))
theorem alI{L:List St}{f:St→Nat}(hL:zI L)(hf:∀s∈L,f s≤Ue){l:List Yt}(hl:∀o∈l,COk L o)(hlen:l.length≤maxLen)(nn:Bool){s:St}(hs:s∈L):
 Uu.call (.fn 42) [Rw 4 false nn (l.map Yt.cells),.func (.func 43) [] [.ptr 0 0 0,.ptr 1 0 0]] (nY L f s)=some (.ret (.int .i64 (vT (fun o=>lQ f o==f s) l 0)),nY L f s):=by
 unfold nY
 have w1:=Xs (hL s hs)
 have w2:=Vx s
 have w3:=Wi s
 have w4:adP 25 (Rr s)=Rr s:=adM (by omega)
 refine ce Tryz.func42 ?_
 simp only[Tryz.f42]
 (have hb:=trivial;with_reducible repeat' (first|simp only[hb,Vc.down,seval,ag7.down,abT]|refine Qs ?_ ?_<;>intro hb|refine fd ?_|fail))
 refine Xz (lst 19 l (fun j (m:Int) t h=>m=j∧t 0=Rw 4 false nn (l.map Yt.cells)∧t 1=.func (.func 43) [] [.ptr 0 0 0,.ptr 1 0 0]∧t 7=.int .i64 (l.length:Nat)∧t 8=.int .i64 (j:Int)∧h=nY L f s) (fun rest m=>vT (fun o=>lQ f o==f s) rest m)
  (fun r e t h=>h=nY L f s∧((e=.exit 0∧r= -1)∨(e=.ret∧t 4=.int .i64 r))) ?_ ?_ 0 _ _ ?_) (fun e t h hk=>?_)
 ·rintro m t h Q' kQ ⟨rfl,g0,g1,g7,g8,rfl⟩
  (have hb:=trivial;with_reducible repeat' (first|simp only[hb,Vc.down,seval,ag7.down,g7,g8,Int.lt_irrefl,decide_false]|refine Qs ?_ ?_<;>intro hb|refine fd ?_|fail))
  exact kQ _ _ _ ⟨rfl,.inl ⟨rfl,rfl⟩⟩
 ·rintro o rest j m t h J Q' kJ kQ hx hj ⟨rfl,g0,g1,g7,g8,rfl⟩
  have hdd:decide ((j:Int)<(l.length:Int))=true:=decide_eq_true (by omega)
  have hww:=To hj (by unfold maxLen at hlen;unfold maxLen;omega)
  have ho:=hl o (ai3 hx)
  have hc:=aw7 hL hf ho hs
  have hne:o.to.map Rr≠[]:=by simpa using ho.ne
  simp only[Yt.cells,Yw hne]at hc
  have hcs:o.cells=[.int .i64 o.k,.int .i64 (o.i:Int),.int .i64 o.c,.imm 25 true (o.to.map Rr)]:=by simp only[Yt.cells,Yw hne]
  unfold nY at hc ⊢
  cases hb:(lQ f o==f s)with
  |true=>
   rw[hb]at hc
   have hi1:vT (fun o=>lQ f o==f s) (o::rest) (j:Int)=j:=if_pos hb
   (have hb:=trivial;with_reducible repeat' (first|simp only[hb,Vc.down,seval,ag7.down,g0,g1,g7,g8,hdd,hww,hx,hcs,hc,w1,w2,w3,w4,Zs,bN,bR,eJ,Zy.down,abT]|refine Qs ?_ ?_<;>intro hb|refine fd ?_|fail))
   exact kQ _ _ _ ⟨rfl,.inr ⟨rfl,by rw[hi1];simp[up]⟩⟩
  |false=>
   rw[hb]at hc
   have hi2:vT (fun o=>lQ f o==f s) rest ((j:Int)+1)=vT (fun o=>lQ f o==f s) (o::rest) (j:Int):=by
    have h2:¬((fun o=>lQ f o==f s) o=true):=by show ¬((lQ f o==f s)=true);rw[hb];simp
    exact(if_neg h2).symm
   (have hb:=trivial;with_reducible repeat' (first|simp only[hb,Vc.down,seval,ag7.down,g0,g1,g7,g8,hdd,hww,hx,hcs,hc,w1,w2,w3,w4,Zs,bN,bR,eJ,Zy.down,abT]|refine Qs ?_ ?_<;>intro hb|refine fd ?_|fail))
   exact Ru (kJ _ _ (j+1) ⟨by simp,by simp[up,g0],by simp[up,g1],by simp[up,g7],by simp[up],rfl⟩ hi2)
 ·exact⟨rfl,by simp[up,dU],by simp[up,dU],by simp[up],by simp[up],rfl⟩
 obtain⟨rfl,⟨rfl,hi⟩|⟨rfl,hi⟩⟩:=hk
 ·unfold nY
  (have hb:=trivial;with_reducible repeat' (first|simp only[hb,Vc.down,seval,ag7.down,Zs,bN,bR,eJ,w1,w2,w3,w4,Zy.down]|refine Qs ?_ ?_<;>intro hb|refine fd ?_|fail))
  rw[hi]
 ·unfold nY
  (have hb:=trivial;with_reducible repeat' (first|simp only[hb,Vc.down,seval,ag7.down,hi,Zs,bN,bR,eJ,w1,w2,w3,w4,Zy.down]|refine Qs ?_ ?_<;>intro hb|refine fd ?_|fail))
theorem yN{α:Type}{p:α→Bool}:∀{l:List α} {o:α} (i:Nat),l.find? p=some o→∃j,vT p l i=((i+j:Nat):Int)∧l[j]?=some o
 | [],o,i,h=>by cases h
 |a::l,o,i,h=>by
  cases hp:p a with
  |true=>
   rw[List.find?_cons_of_pos hp]at h
   cases h
   exact⟨0,by simp[vT,hp],rfl⟩
  |false=>
   rw[List.find?_cons_of_neg (by simp[hp])]at h
   obtain⟨j,h1,h2⟩:=yN (i+1) h
   refine⟨j+1,?_,h2⟩
   simp only[vT,hp,Bool.false_eq_true,if_false]
   rw[show((i:Nat):Int)+1=((i+1:Nat):Int) by omega,h1]
   omega
theorem alN{w:Qj}{N:Nat}(hw:xP w N)(hs:w.small)(d:Int)(l:List Up)(nn:Bool)(hl:l.length≤maxLen)(f:Nat)(h:dT w d l f=0)(out:List AV)(c0:bs w N l (Qh w d,f)=0→out=[.agg [.int .i64 0,.int .i64 0],.int .i64 0,.int .i64 0])(c1:bs w N l (Qh w d,f)=Ue→out=[.agg [.int .i64 0,.int .i64 0],.int .i64 0,.int .i64 5])
 (c2:bs w N l (Qh w d,f)≠0→bs w N l (Qh w d,f)≠Ue→∃o,(Tn w N (Qh w d,f)).find? (fun o=>lQ (bs w N l) o==bs w N l (Qh w d,f))=some o∧out=[.agg [.int .i64 o.k,.int .i64 (o.i:Int)],.int .i64 (bs w N l (Qh w d,f):Nat),.int .i64 0]):
 Uu.call (.fn 15) [.agg [.int .i64 w.rooms,.int .i64 w.need,Rw 9 true w.nn (w.parts.map Qd.cells)],.int .i64 d,Rw 3 true nn (l.map Up.cells),.int .i64 (f:Int)] []=some (.ret (.tup out),[]):=by
 obtain⟨h6,hwb,hdb,hgb,hf0,hf3'⟩:=lI h
 have h1:=aeY w hs d
 have h2:=avY w l nn hl
 have h3:=oG (f:Int) 0 3
 rw[hwb,hdb,Bool.and_self]at h1
 rw[hgb]at h2
 rw[show Xw (f:Int) 0 3=true by simp[Xw];omega]at h3
 have d0:decide ((w.parts.length:Int)>6)=false:=decide_eq_false (by omega)
 have hlp:=vG (by omega) hgb
 have hlp':∀x∈l,0≤x.part∧x.part<12:=fun x hx=>by have:=hlp x hx;omega
 have hpc:=abB w d false (by omega)
 have hL:=jD (w:=w) (d:=d) (by omega)
 have hdg:=aa1 w d
 obtain⟨s0,hs0⟩:∃s0:St,(Qh w d,f)=s0:=⟨_,rfl⟩
 have hst1:Sm (Qh w d)++[AV.int .i64 (f:Int)]=Rr s0:=by rw[←hs0];rfl
 have hu:InU w.parts.length s0 s0:=by rw[←hs0];exact⟨hL,hdg,rfl,abV _⟩
 have hf3:s0.2≤3:=by rw[←hs0];show f≤3;omega
 rw[hs0]at c0 c1 c2
 have f0:=Vy (Qh w d)
 have k0:=Vw (Qh w d)
 have v0:=jH (Qh w d)
 have l0:=iW (Qh w d)
 have r0:=bJ (Qh w d)
 have p0:=eV (Qh w d)
 have n0:=lX (Qh w d)
 have i0:=mM (Qh w d)
 have hpl:(Sm (Qh w d)).length=24:=by rw[Rh];omega
 have htk24:=adM (l:=Sm (Qh w d)) (i:=24) (by omega)
 have b1:adP 25 (Sm (Qh w d))=Sm (Qh w d):=adM (by omega)
 have b2:∀z,adP 24 (Sm (Qh w d)++[z])=Sm (Qh w d):=fun z=>by rw[List.take_append_of_le_length (by omega),adM (by omega)]
 have b3:∀z,List.drop 25 (Sm (Qh w d)++[z])=[]:=fun z=>List.drop_eq_nil_of_le (by simp;omega)
 have w1:=Xs hu.l12
 have w2:=Vx s0
 have w3:=Wi s0
 have w4:adP 25 (Rr s0)=Rr s0:=adM (by omega)
 obtain⟨qC,hqC⟩:∃q,Fn.func 41=q:=⟨_,rfl⟩
 refine ce Tryz.func15 ?_
 simp only[Tryz.f15]
 (have hb:=trivial;with_reducible repeat' (first|simp only[hb,Vc.down,seval,amZ.down,d0,h1,h2,h3,hpc,f0,k0,v0,l0,r0,p0,n0,i0,hpl,htk24,b1,b2,b3,hst1,w1,w2,w3,w4,hqC,kN,kV,jZ,ad8,agF,ahF,abT]|refine Qs ?_ ?_<;>intro hb|refine fd ?_|fail))
 obtain⟨Hc,hHc⟩:∃Hc:Qa,[CB.live 3 false false [[AV.int IntKind.i64 w.rooms,AV.int IntKind.i64 w.need,Rw 9 true w.nn (List.map Qd.cells w.parts)]],CB.live 2 true false [[AV.int IntKind.i64 0,AV.int IntKind.i64 0]],CB.live 4 false false [[AV.int IntKind.i64 w.rooms,AV.int IntKind.i64 w.need,Rw 9 true w.nn (List.map Qd.cells w.parts),AV.int IntKind.i64 d]],CB.live 25 true true [Rr s0]]=Hc:=⟨_,rfl⟩
 rw[hHc]
 generalize hE:cl Uu Hc (some (.func qC [] [])) (some [.ptr 2 0 0,.agg (Rr s0),Rw 3 true nn (l.map Up.cells)])=E
 rw[←hqC]at hE
 have hl4:Hc.length=4:=by rw[←hHc];rfl
 have hcl2:(Wm Hc).length=4:=by rw[Rx,hl4]
 have hlb2:(Wm Hc)[2]?=some (rP w d false):=by rw[←hHc];rfl
 obtain⟨o,G,es,M,e1,e2,⟨L,av,b,rfl,K,hm,hF,hcl⟩,e4,e5,e6,e7,e8⟩:=ajV (O:=Uu) (f:=41) (H:=Hc) (args:=[.ptr 2 0 0,.agg (Rr s0),Rw 3 true nn (l.map Up.cells)]) rfl rfl (yM hw hwb h6 d hlb2 hu hf3 l nn hl hlp')
 have e9:=hE.symm.trans e1
 subst e9
 have hkn:M[7]?=some (Sz (Uy L (bA (bs w N l)))):=(e7 7 (by omega)).trans (by have:=K.kn;rwa[hcl2]at this)
 have hall:M[5]?=some (Sz (Uy L av)):=(e7 5 (by omega)).trans (by have:=K.all;rwa[hcl2]at this)
 have hb3:M[3]?=some (.live 25 true true [Rr s0]):=(e6 3 (by omega)).trans (by rw[←hHc];rfl)
 have hb1:M[1]?=some (.live 2 true false [[AV.int IntKind.i64 0,AV.int IntKind.i64 0]]):=(e6 1 (by omega)).trans (by rw[←hHc];rfl)
 have hkn2:=Qi hkn
 have hall2:=Qi hall
 have hb32:=Qi hb3
 have hb12:=Qi hb1
 have hlk:=fun q=>wH (hkn2 q) K.tw hm
 have hlkA:=fun q=>adY (hall2 q) K.tw hm
 have hset1:∀(q:Qa) (c:CB),((M++q).set 1 c)[1]?=some c:=fun q c=>List.getElem?_set_self (by have:=Uo hb1;simp;omega)
 have hkv:bA (bs w N l) s0=.int .i64 (bs w N l s0:Int):=rfl
 cases q0:((bs w N l s0:Int)==0)with
 |true=>
  rw[c0 (by simp at q0;omega)]
  (have hb:=trivial;with_reducible repeat' (first|simp only[hb,Vc.down,seval,amZ.down,e2,hl4,hkn2,hb32,hb12,hb1,hset1,hlk,hkv,q0,w1,w2,w3,w4,Zy.down,kN,kV,jZ,ad8,agF,ahF]|refine Qs ?_ ?_<;>intro hb|refine fd ?_|fail))
 |false=>
 cases q1:((bs w N l s0:Int)==1099511627776)with
 |true=>
  rw[c1 (by simp at q1;unfold Ue;omega)]
  (have hb:=trivial;with_reducible repeat' (first|simp only[hb,Vc.down,seval,amZ.down,e2,hl4,hkn2,hb32,hb12,hb1,hset1,hlk,hkv,q0,q1,w1,w2,w3,w4,Zy.down,kN,kV,jZ,ad8,agF,ahF]|refine Qs ?_ ?_<;>intro hb|refine fd ?_|fail))
 |false=>
 obtain⟨o,ho,rfl⟩:=c2 (fun e=>by rw[e]at q0;simp at q0) (fun e=>by rw[e]at q1;simp[Ue]at q1)
 obtain⟨R,hrd0,hR⟩:=K.ch s0 hm
 rw[hcl2]at hR
 have hrd:rd 6 (hf M) (av s0)=some (Rw 4 false false ((Tn w N s0).map Yt.cells),R):=by
  have:=dI (g':=hf M) (Vf hrd0 cA) fun j hj z hz=>by
   have hj2:j∈R:=by simpa using hj
   show(M[j]?).bind Rl=_
   rw[e7 j (by have:=(hR j hj2).1;omega)];exact hz
  obtain⟨a,l',R1,R2,e1,h1,h2,h3⟩:=Xm this
  cases e1
  obtain⟨_,rfl⟩:=cX h2
  simp at h3
  rw[h1,←h3]
 have hrv:=fun q=>oU (e:=12) (by omega) (gG (l:=q) hrd)
 obtain⟨v,hav⟩:∃v,av s0=v:=⟨_,rfl⟩
 rw[hav]at hlkA hrd hrv
 change ∀q,uT (M++q) v=_ at hrv
 rcases fK hrd with⟨rfl,h0⟩|⟨vb,vr,rfl,hvb,_,_,hvr⟩
 ·rw[ai4.1 h0]at ho
  cases ho
 ·simp only[adF,abT]at hrv
  have hM8:=Uo hkn
  have hM3:(M.length=3)=False:=eq_false (by omega)
  have hM7:(7=M.length)=False:=eq_false (by omega)
  have hM7':(M.length=7)=False:=eq_false (by omega)
  obtain⟨lv,hlv⟩:∃lv,Qn 12 (hf (M++[CB.live 1 false true [[AV.mapr 7]]])) (.slr 4 vb 0 (Tn w N s0).length)=lv:=⟨_,rfl⟩
  have hlv2:=hlv
  rw[ab6]at hlv2
  obtain⟨j,hj,hjo⟩:=yN 0 ho
  have hjl0:=afR hjo
  have hjl:((j:Int)<((Tn w N s0).length:Int))=True:=eq_true (by omega)
  obtain⟨vb',bt,ev,hrow0,_,_⟩:=afL hrd hjo (acJ hwb hu (ai3 hjo)).2.2.1
  injection ev with _ ev1 _ _
  subst ev1
  have hrow:∀q,Yr ((M++q)[vb]?) j=some [.int .i64 o.k,.int .i64 (o.i:Int),.int .i64 o.c,.slr 25 bt 0 o.to.length]:=fun q=>by
   rw[List.getElem?_append_left (gK hvb)];exact hrow0
  have hI:=alI (f:=bs w N l) (l:=Tn w N s0) K.tw (fun s hs=>atW w N l s (hF s hs)) (fun o ho=>by
   obtain⟨u0,u1,u2,u3,u4⟩:=acJ hwb hu ho
   exact⟨by omega,u1,fun z hz=>hcl s0 hm o ho z hz,u2,u3⟩) (by have:=sE w N s0 (by omega);unfold maxLen;omega) false hm
  unfold nY at hI
  rw[Nat.zero_add]at hj
  rw[show((0:Nat):Int)=0 from rfl]at hj
  rw[hj]at hI
  have hlvR:∀j∈lv,9≤j∧j<M.length:=fun j hj=>by
   have hj2:=jM (e:=12) (gG (l:=[CB.live 1 false true [[AV.mapr 7]]]) hrd) j (by rw[abT,hlv];exact hj)
   exact⟨(hR j hj2).1,qX (by omega) (Vf hrd cA) j (by simpa using hj2)⟩
  have hany:(lv.any fun x=>x==M.length||(x==3||x==7))=false:=by
   rw[List.any_eq_false]
   intro z hz
   have:=hlvR z hz
   simp
   omega
  (have hb:=trivial;with_reducible repeat' (first|simp only[hb,Vc.down,seval,amZ.down,e2,hl4,hkn2,hb32,hb12,hb1,hset1,hlk,hkv,q0,q1,hlkA,hrv,hlv2,hI,hany,hjl,hrow,hM3,hM7,hM7',Zs,bN,bR,eJ,w1,w2,w3,w4,Zy.down,kN,kV,jZ,ad8,agF,ahF]|refine Qs ?_ ?_<;>intro hb|refine fdq ?_|fail))
  have hvb9:9≤vb:=by
   obtain⟨q,_,rfl,_⟩:=rX hrd hvb
   exact(hR vb (by simp)).1
  have n1:vb≠1:=by omega
  have n2:M.length≠1:=by omega
  refine xM (fun b=>if b=1 then 1 else 0) [([],[]),([],[.cells 0 0 25]),([],[.blk 0]),([],[]),([],[]),([],[]),([],[.cells 0 0 2]),([],[.cells 0 0 1]),([],[.cells 0 0 25]),([],[.blk 0]),([.cells 1 0 2],[.cells 1 0 2]),([],[]),([],[])] (by kernel_rfl) ?_ (fun _=>?_)
  ·simp only[gJ,lB]
   simp[bV,Qb.foot,n1,n2]
  ·(have hb:=trivial;with_reducible repeat' (first|simp only[hb,Vc.down,seval,amZ.down,hset1,hkv,Zy.down,hb1,hb12]|refine Qs ?_ ?_<;>intro hb|refine fd ?_|fail))
noncomputable def acY(b:Nat):Int:=if b<Ue then(b:Int)else 0
noncomputable def ac3(b:Nat):Int:=if b<Ue then 0 else 5
theorem ak6{w:Qj}{N:Nat}(hw:xP w N){d:Int}{l:List Up}(hl:l.length≤maxLen){f:Nat}(h:dT w d l f=0):(Yq w N l).Fine Ue (Qh w d,f):=by
 obtain⟨h6,hwb,_,hgb,_,hf3⟩:=lI h
 exact akQ hw hwb h6 (jD (by omega)) (aa1 w d) (by show f≤3;omega) l hl (fun x hx=>by have:=vG (by omega) hgb x hx;omega)
theorem aqV{w:Qj}{N:Nat}(hb:Wj w=true){l:List Up}{s:St}:∀o∈(Yq w N l).ops s,1≤o.1:=by
 intro o ho
 obtain⟨c,hc,rfl⟩:=fW.1 ho
 obtain⟨p,x,I⟩:=kP.1 hc
 have:=tO hb I.hp c.k
 rw[←I.c]at this
 show 1≤c.c.toNat
 omega
theorem ak7{w:Qj}{N:Nat}(hw:xP w N)(hs:w.small)(d:Int)(l:List Up)(nn:Bool)(hl:l.length≤maxLen)(f:Nat)(h:dT w d l f=0):
 ∃k i:Int,Uu.call (.fn 15) [.agg [.int .i64 w.rooms,.int .i64 w.need,Rw 9 true w.nn (w.parts.map Qd.cells)],.int .i64 d,Rw 3 true nn (l.map Up.cells),.int .i64 (f:Int)] []=some (.ret (.tup [.agg [.int .i64 k,.int .i64 i],.int .i64 (acY (bs w N l (Qh w d,f))),.int .i64 (ac3 (bs w N l (Qh w d,f)))]),[])∧
  (bs w N l (Qh w d,f)≠0→bs w N l (Qh w d,f)<Ue→∃o,(Tn w N (Qh w d,f)).find? (fun o=>lQ (bs w N l) o==bs w N l (Qh w d,f))=some o∧k=o.k∧i=o.i)∧(bs w N l (Qh w d,f)=0∨Ue≤bs w N l (Qh w d,f)→k=0∧i=0):=by
 have hF:=ak6 hw hl h
 have hle:=atW w N l _ hF
 obtain⟨_,hwb,_,hgb,_,_⟩:=lI h
 have hA:=fun out=>alN hw hs d l nn hl f h out
 have hop:=pY.bst_op hF
 change bs w N l (Qh w d,f)<Ue→_ at hop
 have hgo:bs w N l (Qh w d,f)≠0→(Yq w N l).goal (Qh w d,f)=false:=fun hn=>by
  cases hg:(Yq w N l).goal (Qh w d,f)with
  |false=>rfl
  |true=>exact absurd (pY.bst_goal hg) hn
 have hfind:bs w N l (Qh w d,f)≠0→bs w N l (Qh w d,f)<Ue→∃o,(Tn w N (Qh w d,f)).find? (fun o=>lQ (bs w N l) o==bs w N l (Qh w d,f))=some o:=fun h0 h1=>by
  obtain⟨o,ho,e,_⟩:=hop h1 (hgo h0) (aqV hwb)
  obtain⟨c,hc,rfl⟩:=fW.1 ho
  refine Option.isSome_iff_exists.1 (List.find?_isSome.2 ⟨c,hc,?_⟩)
  rw[beq_iff_eq]
  exact e.symm
 by_cases h0:bs w N l (Qh w d,f)=0
 ·refine⟨0,0,?_,fun h=>absurd h0 h,fun _=>⟨rfl,rfl⟩⟩
  have:=hA [.agg [.int .i64 0,.int .i64 0],.int .i64 0,.int .i64 0] (fun _=>rfl) (fun e=>by rw[h0]at e;cases e) (fun h=>absurd h0 h)
  rw[h0]
  exact this
 ·by_cases h1:bs w N l (Qh w d,f)<Ue
  ·obtain⟨o,ho⟩:=hfind h0 h1
   refine⟨o.k,o.i,?_,fun _ _=>⟨o,ho,rfl,rfl⟩,fun h=>by omega⟩
   have:=hA [.agg [.int .i64 o.k,.int .i64 (o.i:Int)],.int .i64 (bs w N l (Qh w d,f):Nat),.int .i64 0] (fun h=>absurd h h0) (fun h=>by omega) (fun _ _=>⟨o,ho,rfl⟩)
   unfold acY ac3
   rw[if_pos h1,if_pos h1]
   exact this
  ·refine⟨0,0,?_,fun _ h=>absurd h h1,fun _=>⟨rfl,rfl⟩⟩
   have:=hA [.agg [.int .i64 0,.int .i64 0],.int .i64 0,.int .i64 5] (fun h=>absurd h h0) (fun _=>rfl) (fun _ h=>absurd (by omega) h)
   unfold acY ac3
   rw[if_neg h1,if_neg h1]
   exact this
theorem aaF{w:Qj}{d:Int}{l:List Up}{f:Int}(h:dT w d l f=0){l':List Up}(hg:dS w l'=true){g:Int}(hg0:0≤g)(hg3:g≤3):dT w d l' g=0:=by
 obtain⟨h6,hwb,hdb,_,_,_⟩:=lI h
 unfold dT
 rw[if_neg (by simp;omega),if_neg (by simp[hwb,hdb,hg];omega)]
theorem avX{n:Nat}{r:List AV}(h:Ty Tryz.prog (n+4) 75 r):∃x:Up,r=x.cells:=by
 unfold Ty at h
 simp only[Tryz.underlying75,ahY]at h
 obtain⟨a1,b1,rfl,h1,a2,b2,rfl,h2,a3,b3,rfl,h3,rfl⟩:=h
 obtain⟨i,rfl,_⟩:=bT h1
 obtain⟨b,rfl⟩:=kE h2
 obtain⟨c,rfl⟩:=kE h3
 exact⟨⟨i,b,c⟩,rfl⟩
theorem apG{av:AV}(h:TyV Tryz.prog 7 25 av):∃(nn:Bool) (l:List Up),av=Rw 3 true nn (l.map Up.cells)∧l.length≤maxLen:=by
 unfold TyV at h
 simp only[Tryz.underlying25]at h
 unfold Ty at h
 simp only[Tryz.underlying25]at h
 obtain⟨nn,rows,hx,hl,hrows⟩:=h
 obtain⟨l,rfl,hm⟩:=wY (q:=fun _=>True) (fun r hr=>by obtain⟨x,hx⟩:=avX (n:=2) hr;exact⟨x,hx,trivial⟩) hrows
 have e1:Tryz.prog.cellsOf 75=3:=by kernel_rfl
 have e2:yO Tryz.prog 6 75=true:=by kernel_rfl
 rw[e1,e2]at hx
 simp only[List.cons.injEq,and_true]at hx
 exact⟨nn,l,hx,by simpa using hl⟩
theorem vH{n:Int}{a:Up}:∀{l:List Up} {b:Option Up},Su n (some a) l=true→(∀z,b=some z→z.part≤a.part)→Su n b l=true
 | [],b,_,_=>by cases b<;>rfl
 |x::l,b,h,hb=>by
  simp only[Su,adD,ahS,decide_eq_false_iff_not]at h
  cases b with
  |none=>simp only[Su,adD];exact⟨h.1.1,h.2⟩
  |some z=>
   have:=hb z rfl
   simp only[Su,adD,ahS,decide_eq_false_iff_not]
   exact⟨⟨h.1.1,by omega⟩,h.2⟩
theorem lU{n:Int}:∀{l:List Up} {b:Option Up} (z:Nat),Su n b l=true→Su n b (l.take z++l.drop (z+1))=true
 | [],b,z,h=>by simpa using h
 |x::l,b,0,h=>by
  show Su n b l=true
  cases b with
  |none=>
   simp only[Su,adD]at h
   exact vH h.2 fun z e=>by cases e
  |some a=>
   simp only[Su,adD,ahS,decide_eq_false_iff_not]at h
   exact vH h.2 fun z e=>by cases e;omega
 |x::l,b,z+1,h=>by
  show Su n b (x::(l.take z++l.drop (z+1)))=true
  cases b with
  |none=>
   simp only[Su,adD]at h ⊢
   exact⟨h.1,lU z h.2⟩
  |some a=>
   simp only[Su,adD]at h ⊢
   exact⟨h.1,lU z h.2⟩
theorem atL:SlT Tryz.prog 25 3:=⟨75,Tryz.underlying25,by kernel_rfl⟩
theorem auP{l:List Up}{z:Nat}(hz:z<l.length)(nn:Bool):slx Tryz.prog 25 (some (Rw 3 true nn (l.map Up.cells))) (some none) (some (some (.int .i64 (z:Int))))=some (.ret (.imm 3 true ((l.take z).map Up.cells)),[]):=by
 rw[List.map_take]
 exact auK atL true nn (by simpa using hz)
theorem au8{l:List Up}{z:Nat}(hz:z<l.length)(nn:Bool):slx Tryz.prog 25 (some (Rw 3 true nn (l.map Up.cells))) (some (some (.int .i64 ((z+1:Nat):Int)))) (some none)=some (.ret (.imm 3 true ((l.drop (z+1)).map Up.cells)),[]):=by
 have hne:l.map Up.cells≠[]:=fun e=>by rw[ai4.1 e]at hz;simp at hz
 rw[List.map_drop,Yw hne]
 exact auQ atL true _ (z+1) (by rw[abT];omega)
theorem ac8{p:Qd}{d v:Int}(hb:0≤p.tested∧p.tested≤5000)(hv:0≤p.valid∧p.valid≤v∧v≤5000):yS (Xq p d,p.opn)=true→yS (Xq { p with valid:=v } d,p.opn)=true:=by
 intro h
 simp only[yS,adD,beq_iff_eq,ahS]at h ⊢
 refine⟨?_,h.2⟩
 have h1:=h.1
 unfold Xq at h1 ⊢
 simp only at h1 ⊢
 split at h1
 ·cases h1
 ·rename_i hbad
  rw[if_neg hbad]
  rw[Uf (by omega) (by omega)]at h1
  rw[Uf (by omega) (by omega)]
  split at h1
  ·cases h1
  ·rw[if_neg (by omega)]
theorem aaZ{w:Qj}{N:Nat}(hw:xP w N)(h12:w.parts.length≤12)(hs:w.small)(d:Int)(hb:Wj w=true)(hd:dA d=true){i:Nat}{p q:Qd}(hp:w.parts[i]?=some p)(h1:q.one=p.one)(h2:q.other=p.other)(hq:Xp w.rooms q=true)(hqs:q.fits):Uu.call (.fn 20) [.agg [.int .i64 w.rooms,.int .i64 w.need,.imm 9 true ((w.parts.set i q).map Qd.cells)],.int .i64 d] []=some (.ret (.tup [.int .i64 (nZ (dY w i q) N d:Nat),.int .i64 0]),[]):=by
 have h:=tZ (aqO hw hp h1 h2) (by rw[aH];exact h12) (acW hs hqs) d (by rw[ag9 hb hq,hd];rfl)
 have e5:(dY w i q).cells=[.int .i64 w.rooms,.int .i64 w.need,.imm 9 true ((w.parts.set i q).map Qd.cells)]:=by
  show [_,_,Rw 9 true true _]=_
  rw[aoB];rfl
 change Uu.call _ [AV.agg (dY w i q).cells,.int .i64 d] []=_ at h
 rw[e5]at h
 exact h
theorem ad3(kn:Uu.call (.fn 10) [] []=some (.ret (.bool true),[]))(w:Qj)(hs:w.small)(d part longer:Int)(l:List Up)(nn:Bool)(hl:l.length≤maxLen)(f which:Int):Uu.call (.fn 5) [.agg [.int .i64 w.rooms,.int .i64 w.need,Rw 9 true w.nn (w.parts.map Qd.cells)],.int .i64 d,.int .i64 part,.int .i64 longer,Rw 3 true nn (l.map Up.cells),.int .i64 f,.int .i64 which] []=some (.ret (.bool true),[]):=by
 have h1:=asL w
 have h3:=amX w hs
 have h4:=afB d
 have h5:=amG w part
 have hpl:=afV w hs d l nn hl f
 cases c1:adN w with
 |false=>
  rw[c1]at h1
  (refine ce Tryz.func5 ?_;simp only[Tryz.f5];(have hb:=trivial;with_reducible repeat' (first|simp only[hb,Vc.down,seval,nF.down,h1,h3,h4,h5,kn,abT]|refine Qs ?_ ?_<;>intro hb|refine fd ?_|fail)))
 |true=>
 rw[c1]at h1
 cases c2:Wj w with
 |false=>
  rw[c2]at h3
  (refine ce Tryz.func5 ?_;simp only[Tryz.f5];(have hb:=trivial;with_reducible repeat' (first|simp only[hb,Vc.down,seval,nF.down,h1,h3,h4,h5,kn,abT]|refine Qs ?_ ?_<;>intro hb|refine fd ?_|fail)))
 |true=>
 rw[c2]at h3
 cases c3:dA d with
 |false=>
  rw[c3]at h4
  (refine ce Tryz.func5 ?_;simp only[Tryz.f5];(have hb:=trivial;with_reducible repeat' (first|simp only[hb,Vc.down,seval,nF.down,h1,h3,h4,h5,kn,abT]|refine Qs ?_ ?_<;>intro hb|refine fd ?_|fail)))
 |true=>
 rw[c3]at h4
 cases c4:Xw part 0 (IntKind.i64.wrap ((w.parts.length:Int)-1))with
 |false=>
  rw[c4]at h5
  (refine ce Tryz.func5 ?_;simp only[Tryz.f5];(have hb:=trivial;with_reducible repeat' (first|simp only[hb,Vc.down,seval,nF.down,h1,h3,h4,h5,kn,abT]|refine Qs ?_ ?_<;>intro hb|refine fd ?_|fail)))
 |true=>
 rw[c4]at h5
 cases c5:decide (longer<0)with
 |true=>
  (refine ce Tryz.func5 ?_;simp only[Tryz.f5];(have hb:=trivial;with_reducible repeat' (first|simp only[hb,Vc.down,seval,nF.down,h1,h3,h4,h5,kn,abT,c5]|refine Qs ?_ ?_<;>intro hb|refine fd ?_|fail)))
 |false=>
 cases c6:decide ((l.length:Int)>10)with
 |true=>
  (refine ce Tryz.func5 ?_;simp only[Tryz.f5];(have hb:=trivial;with_reducible repeat' (first|simp only[hb,Vc.down,seval,nF.down,h1,h3,h4,h5,kn,abT,c5,c6]|refine Qs ?_ ?_<;>intro hb|refine fd ?_|fail)))
 |false=>
 obtain⟨N,hw,h12⟩:=ae9 c2
 have hlz:=hw.len
 have hnz:0<w.parts.length:=List.length_pos_iff.2 hw.ne
 have hj:0≤part∧part<(w.parts.length:Int):=by
  rw[Uf (by omega) (by omega)]at c4
  simp[Xw]at c4
  omega
 obtain⟨j,rfl⟩:∃j:Nat,part=(j:Int):=⟨part.toNat,by omega⟩
 have hjl:j<w.parts.length:=by omega
 obtain⟨p,hp⟩:∃p,w.parts[j]?=some p:=⟨_,List.getElem?_eq_getElem hjl⟩
 have hpv:=ajY (wU c2 hp)
 have hpart:=wU c2 hp
 have hN0:=tZ hw h12 hs d (by rw[c2,c3];rfl)
 have hl0:0≤longer:=by have:=of_decide_eq_false c5;omega
 obtain⟨v,hv⟩:∃v:Int,p.valid+(if 5000-p.valid<longer then 5000-p.valid else longer)=v:=⟨_,rfl⟩
 have hv1:p.valid≤v∧v≤5000:=by rw[←hv];split<;>omega
 have hw1:IntKind.i64.wrap (5000-p.valid)=5000-p.valid:=Uf (by omega) (by omega)
 have hw2:IntKind.i64.wrap (p.valid+(if 5000-p.valid<longer then 5000-p.valid else longer))=v:=by rw[hv];exact Uf (by omega) (by omega)
 have hq1:Xp w.rooms { p with valid:=v }=true:=by
  simp only[Xp,dA,Xw,adD,decide_eq_true_eq]at hpart ⊢
  refine⟨⟨⟨hpart.1.1.1,?_⟩,hpart.1.2⟩,hpart.2⟩
  omega
 have hq2:Xp w.rooms { p with valid:=v,opn:=false }=true:=by
  simp only[Xp,dA,Xw,adD,decide_eq_true_eq]at hq1 ⊢
  refine⟨⟨⟨⟨⟨hq1.1.1.1.1.1,by simp⟩,hq1.1.1.1.2⟩,hq1.1.1.2⟩,hq1.1.2⟩,hq1.2⟩
 have hf0:=hs.fits p (ai3 hp)
 have hf1:({ p with valid:=v }:Qd).fits:=⟨hf0.1,hf0.2.1,hf0.2.2.1,by have:=hpv.2.2.2.1;show i64 v;exact⟨by omega,by omega⟩,hf0.2.2.2.2⟩
 have hf2:({ p with valid:=v,opn:=false }:Qd).fits:=⟨hf0.1,hf0.2.1,hf0.2.2.1,by have:=hpv.2.2.2.1;show i64 v;exact⟨by omega,by omega⟩,hf0.2.2.2.2⟩
 have hN1:=aaZ hw h12 hs d c2 c3 hp (q:={ p with valid:=v }) rfl rfl hq1 hf1
 have hN2:=aaZ hw h12 hs d c2 c3 hp (q:={ p with valid:=v,opn:=false }) rfl rfl hq2 hf2
 obtain⟨wf1,hW1⟩:=akD hw.ne hlz hjl { p with valid:=v }
 obtain⟨wf2,hW2⟩:=akD hw.ne hlz hjl { p with valid:=v,opn:=false }
 have e0:=iY (w:=w) (N:=N) (d:=d)
 have hx:=aiD (d:=d) hp
 have hil:j<(Qh w d).length:=(List.getElem?_eq_some_iff.1 hx).1
 have l1:nZ w N d≤nZ (dY w j { p with valid:=v }) N d:=by
  rw[mO (q:={ p with valid:=v }) hp rfl rfl,←e0]
  have:=afD (x:=(Xq p d,p.opn)) (y:=(Xq { p with valid:=v } d,p.opn)) hw hil (ac8 ⟨hpv.2.1,hpv.2.2.1⟩ ⟨hpv.2.2.2.1,hv1⟩)
  rwa[ajJ hx]at this
 have l2:nZ (dY w j { p with valid:=v }) N d≤nZ (dY w j { p with valid:=v,opn:=false }) N d:=by
  rw[mO (q:={ p with valid:=v }) hp rfl rfl,mO (q:={ p with valid:=v,opn:=false }) hp rfl rfl]
  exact afD hw hil (fun h=>by simp only[yS,adD]at h ⊢;exact⟨h.1,rfl⟩)
 generalize nZ w N d=n0 at *
 generalize nZ (dY w j { p with valid:=v }) N d=n1 at *
 generalize nZ (dY w j { p with valid:=v,opn:=false }) N d=n2 at *
 have d1:decide ((n1:Int)<(n0:Int))=false:=decide_eq_false (by omega)
 have d2:decide ((n2:Int)<(n1:Int))=false:=decide_eq_false (by omega)
 have htR2:∀q,adP w.parts.length ((w.parts.set j q).map Qd.cells)=(w.parts.set j q).map Qd.cells:=fun q=>adM (by simp)
 have hsl:Rw 9 true w.nn (w.parts.map Qd.cells)=.imm 9 true (w.parts.map Qd.cells):=Yw (by simpa using hw.ne)
 have iln:((j:Int)<(w.parts.length:Int))=True:=eq_true (by omega)
 clear hv hq1 hq2 hf0 hf1 hf2 hpart hpv hx e0 l1 l2 hv1
 rw[hsl]at h1 h3 h5 hN0 hW1 hW2 hpl ⊢
 obtain⟨p1,p2,p3,p4,p5,p6,p7,p8,p9⟩:=p
 simp only[Qd.cells]at hW1 hW2
 simp only at hw1 hw2
 cases c7:decide ((4:Int)<(w.parts.length:Int))with
 |true=>
  (refine ce Tryz.func5 ?_;simp only[Tryz.f5];(have hb:=trivial;with_reducible repeat' (first|simp only[hb,Vc.down,seval,nF.down,h1,h3,h4,h5,kn,c5,c6,hN0,hp,iln,hw1,hw2,hW1,hW2,hN1,hN2,htR2,d1,d2,bne,beq_self_eq_true,acG,ac4,ge_iff_le,gt_iff_lt,Qd.cells,adA,abV,c7,abT]|refine Qs ?_ ?_<;>intro hb|refine fd ?_|fail)))
 |false=>
 by_cases c8:dT w d l f=0
 rotate_left
 ·have c8':(dT w d l f==0)=false:=by simpa using c8
  (refine ce Tryz.func5 ?_;simp only[Tryz.f5];(have hb:=trivial;with_reducible repeat' (first|simp only[hb,Vc.down,seval,nF.down,h1,h3,h4,h5,kn,c5,c6,hN0,hp,iln,hw1,hw2,hW1,hW2,hN1,hN2,htR2,d1,d2,bne,beq_self_eq_true,acG,ac4,ge_iff_le,gt_iff_lt,Qd.cells,adA,abV,c7,hpl,c8',abT]|refine Qs ?_ ?_<;>intro hb|refine fd ?_|fail)))
 rw[c8]at hpl
 cases c9:decide (which<0)with
 |true=>
  (refine ce Tryz.func5 ?_;simp only[Tryz.f5];(have hb:=trivial;with_reducible repeat' (first|simp only[hb,Vc.down,seval,nF.down,h1,h3,h4,h5,kn,c5,c6,hN0,hp,iln,hw1,hw2,hW1,hW2,hN1,hN2,htR2,d1,d2,bne,beq_self_eq_true,acG,ac4,ge_iff_le,gt_iff_lt,Qd.cells,adA,abV,c7,hpl,c9,abT]|refine Qs ?_ ?_<;>intro hb|refine fd ?_|fail)))
 |false=>
 cases c10:decide ((l.length:Int)≤which)with
 |true=>
  (refine ce Tryz.func5 ?_;simp only[Tryz.f5];(have hb:=trivial;with_reducible repeat' (first|simp only[hb,Vc.down,seval,nF.down,h1,h3,h4,h5,kn,c5,c6,hN0,hp,iln,hw1,hw2,hW1,hW2,hN1,hN2,htR2,d1,d2,bne,beq_self_eq_true,acG,ac4,ge_iff_le,gt_iff_lt,Qd.cells,adA,abV,c7,hpl,c9,c10,abT]|refine Qs ?_ ?_<;>intro hb|refine fd ?_|fail)))
 |false=>
 have hz0:=of_decide_eq_false c9
 have hz1:=of_decide_eq_false c10
 obtain⟨z,rfl⟩:∃z:Nat,which=(z:Int):=⟨which.toNat,by omega⟩
 have hzl:z<l.length:=by omega
 obtain⟨h6,hwb,hdb,hgb,hf0,hf3⟩:=lI c8
 obtain⟨fN,rfl⟩:∃n:Nat,f=(n:Int):=⟨f.toNat,by omega⟩
 have hg':dS w (l.take z++l.drop (z+1))=true:=lU z hgb
 have hpl':=aaF c8 hg' hf0 hf3
 have hl':(l.take z++l.drop (z+1)).length≤maxLen:=by simp;omega
 obtain⟨k1,i1,hA1,_⟩:=ak7 hw hs d l nn hl fN c8
 obtain⟨k2,i2,hA2,_⟩:=ak7 hw hs d (l.take z++l.drop (z+1)) false hl' fN hpl'
 have hF:=ak6 hw hl c8
 have hb1:=afC (s':=(Qh w d,fN)) (l':=l.take z++l.drop (z+1)) hF fun k hk=>anB (fun x hx=>by
  rcases List.mem_append.1 hx with h|h
  ·exact List.mem_of_mem_take h
  ·exact List.mem_of_mem_drop h) hk
 have s2:=auP hzl nn
 have s3:=au8 hzl nn
 have hwz:IntKind.i64.wrap ((z:Int)+1)=((z+1:Nat):Int):=by rw[Uf (by unfold maxLen at hl;omega) (by unfold maxLen at hl;omega)];omega
 rw[hsl]at hA1 hA2
 have hadv:∃e1 c1 e2 c2:Int,ac3 (bs w N l (Qh w d,fN))=e1∧acY (bs w N l (Qh w d,fN))=c1∧ac3 (bs w N (l.take z++l.drop (z+1)) (Qh w d,fN))=e2∧acY (bs w N (l.take z++l.drop (z+1)) (Qh w d,fN))=c2∧((e1=0∧e2=0∧c2≤c1∧(fN=0∨∃(g:Nat) (k3 i3 c3:Int),fN=g+1∧c3≤c1∧Uu.call (.fn 15) [.agg [.int .i64 w.rooms,.int .i64 w.need,.imm 9 true (w.parts.map Qd.cells)],.int .i64 d,Rw 3 true nn (l.map Up.cells),.int .i64 (g:Int)] []=some (.ret (.tup [.agg [.int .i64 k3,.int .i64 i3],.int .i64 c3,.int .i64 0]),[])))∨(e1=5∧(e2=0∨e2=5))):=by
  refine⟨_,_,_,_,rfl,rfl,rfl,rfl,?_⟩
  by_cases hfin:bs w N l (Qh w d,fN)<Ue
  ·have hle:=hb1 hfin
   refine .inl ⟨if_pos hfin,if_pos (by omega),?_,?_⟩
   ·unfold acY
    rw[if_pos hfin,if_pos (by omega)]
    omega
   ·cases fN with
    |zero=>exact .inl rfl
    |succ g=>
     have hpg:=aaF c8 hgb (g:=(g:Int)) (by omega) (by omega)
     obtain⟨k3,i3,hA3,_⟩:=ak7 hw hs d l nn hl g hpg
     rw[hsl]at hA3
     have hb3:=afC (s':=(Qh w d,g)) (l':=l) (w':=w) hF (fun k hk=>af2 (Nat.le_succ g) hk) hfin
     rw[show ac3 (bs w N l (Qh w d,g))=0 from if_pos (by omega)]at hA3
     refine .inr ⟨g,k3,i3,_,rfl,?_,hA3⟩
     unfold acY
     rw[if_pos hfin,if_pos (by omega)]
     omega
  ·refine .inr ⟨if_neg hfin,?_⟩
   unfold ac3
   split
   ·exact .inl rfl
   ·exact .inr rfl
 obtain⟨e1,v1,e2,v2,q1,q2,q3,q4,hq⟩:=hadv
 rw[q1,q2]at hA1
 rw[q3,q4]at hA2
 clear q1 q2 q3 q4 hb1 hF
 rw[List.map_append]at hA2
 have hAl:((l.take z).map Up.cells).length+((l.drop (z+1)).map Up.cells).length≤549755813888:=by have:=of_decide_eq_false c6;simp;omega
 generalize(l.take z).map Up.cells=A at *
 generalize(l.drop (z+1)).map Up.cells=B at *
 by_cases hAn:A=[]
 ·subst hAn
  by_cases hBn:B=[]
  ·subst hBn
   rw[show Rw 3 true false ([]++[])=AV.nils from rfl]at hA2
   rcases hq with⟨rfl,rfl,hle,rfl|⟨g,k3,i3,c3,rfl,hle3,hA3⟩⟩|⟨rfl,rfl|rfl⟩
   ·have m1:decide (v1<v2)=false:=decide_eq_false (by omega)
    simp only[ah9]at hpl hA1 hA2 ⊢
    (refine ce Tryz.func5 ?_;simp only[Tryz.f5];(have hb:=trivial;with_reducible repeat' (first|simp only[hb,Vc.down,seval,nF.down,h1,h3,h4,h5,kn,c5,c6,hN0,hp,iln,hw1,hw2,hW1,hW2,hN1,hN2,htR2,d1,d2,bne,beq_self_eq_true,acG,ac4,ge_iff_le,gt_iff_lt,Qd.cells,adA,abV,c7,hpl,c9,c10,s2,s3,hwz,hA1,hA2,m1,abT]|refine Qs ?_ ?_<;>intro hb|refine fd ?_|fail)))
   ·have m1:decide (v1<v2)=false:=decide_eq_false (by omega)
    have m2:decide (c3≤v1)=true:=decide_eq_true hle3
    have m3:IntKind.i64.wrap (((g+1:Nat):Int)-1)=(g:Int):=by rw[Uf (by omega) (by omega)];omega
    have m4:(((g+1:Nat):Int)==0)=false:=beq_eq_false_iff_ne.2 (by omega)
    (refine ce Tryz.func5 ?_;simp only[Tryz.f5];(have hb:=trivial;with_reducible repeat' (first|simp only[hb,Vc.down,seval,nF.down,h1,h3,h4,h5,kn,c5,c6,hN0,hp,iln,hw1,hw2,hW1,hW2,hN1,hN2,htR2,d1,d2,bne,beq_self_eq_true,acG,ac4,ge_iff_le,gt_iff_lt,Qd.cells,adA,abV,c7,hpl,c9,c10,s2,s3,hwz,hA1,hA2,hA3,m1,m2,m3,m4,abT]|refine Qs ?_ ?_<;>intro hb|refine fd ?_|fail)))
   ·(refine ce Tryz.func5 ?_;simp only[Tryz.f5];(have hb:=trivial;with_reducible repeat' (first|simp only[hb,Vc.down,seval,nF.down,h1,h3,h4,h5,kn,c5,c6,hN0,hp,iln,hw1,hw2,hW1,hW2,hN1,hN2,htR2,d1,d2,bne,beq_self_eq_true,acG,ac4,ge_iff_le,gt_iff_lt,Qd.cells,adA,abV,c7,hpl,c9,c10,s2,s3,hwz,hA1,hA2,abT]|refine Qs ?_ ?_<;>intro hb|refine fd ?_|fail)))
   ·(refine ce Tryz.func5 ?_;simp only[Tryz.f5];(have hb:=trivial;with_reducible repeat' (first|simp only[hb,Vc.down,seval,nF.down,h1,h3,h4,h5,kn,c5,c6,hN0,hp,iln,hw1,hw2,hW1,hW2,hN1,hN2,htR2,d1,d2,bne,beq_self_eq_true,acG,ac4,ge_iff_le,gt_iff_lt,Qd.cells,adA,abV,c7,hpl,c9,c10,s2,s3,hwz,hA1,hA2,abT]|refine Qs ?_ ?_<;>intro hb|refine fd ?_|fail)))
  ·have hap1:=fun(h:Qa)=>ad2 (n:=3) (h:=h) (nfl:=true) hBn (by simp at hAl;omega)
   rw[List.nil_append,Yw hBn]at hA2
   have htk:adP B.length B=B:=adM (abV _)
   rcases hq with⟨rfl,rfl,hle,rfl|⟨g,k3,i3,c3,rfl,hle3,hA3⟩⟩|⟨rfl,rfl|rfl⟩
   ·have m1:decide (v1<v2)=false:=decide_eq_false (by omega)
    simp only[ah9]at hpl hA1 hA2 ⊢
    (refine ce Tryz.func5 ?_;simp only[Tryz.f5];(have hb:=trivial;with_reducible repeat' (first|simp only[hb,Vc.down,seval,nF.down,h1,h3,h4,h5,kn,c5,c6,hN0,hp,iln,hw1,hw2,hW1,hW2,hN1,hN2,htR2,d1,d2,bne,beq_self_eq_true,acG,ac4,ge_iff_le,gt_iff_lt,Qd.cells,adA,abV,c7,hpl,c9,c10,s2,s3,hwz,hap1,htk,hA1,hA2,m1,abT]|refine Qs ?_ ?_<;>intro hb|refine fd ?_|fail)))
   ·have m1:decide (v1<v2)=false:=decide_eq_false (by omega)
    have m2:decide (c3≤v1)=true:=decide_eq_true hle3
    have m3:IntKind.i64.wrap (((g+1:Nat):Int)-1)=(g:Int):=by rw[Uf (by omega) (by omega)];omega
    have m4:(((g+1:Nat):Int)==0)=false:=beq_eq_false_iff_ne.2 (by omega)
    (refine ce Tryz.func5 ?_;simp only[Tryz.f5];(have hb:=trivial;with_reducible repeat' (first|simp only[hb,Vc.down,seval,nF.down,h1,h3,h4,h5,kn,c5,c6,hN0,hp,iln,hw1,hw2,hW1,hW2,hN1,hN2,htR2,d1,d2,bne,beq_self_eq_true,acG,ac4,ge_iff_le,gt_iff_lt,Qd.cells,adA,abV,c7,hpl,c9,c10,s2,s3,hwz,hap1,htk,hA1,hA2,hA3,m1,m2,m3,m4,abT]|refine Qs ?_ ?_<;>intro hb|refine fd ?_|fail)))
   ·(refine ce Tryz.func5 ?_;simp only[Tryz.f5];(have hb:=trivial;with_reducible repeat' (first|simp only[hb,Vc.down,seval,nF.down,h1,h3,h4,h5,kn,c5,c6,hN0,hp,iln,hw1,hw2,hW1,hW2,hN1,hN2,htR2,d1,d2,bne,beq_self_eq_true,acG,ac4,ge_iff_le,gt_iff_lt,Qd.cells,adA,abV,c7,hpl,c9,c10,s2,s3,hwz,hap1,htk,hA1,hA2,abT]|refine Qs ?_ ?_<;>intro hb|refine fd ?_|fail)))
   ·(refine ce Tryz.func5 ?_;simp only[Tryz.f5];(have hb:=trivial;with_reducible repeat' (first|simp only[hb,Vc.down,seval,nF.down,h1,h3,h4,h5,kn,c5,c6,hN0,hp,iln,hw1,hw2,hW1,hW2,hN1,hN2,htR2,d1,d2,bne,beq_self_eq_true,acG,ac4,ge_iff_le,gt_iff_lt,Qd.cells,adA,abV,c7,hpl,c9,c10,s2,s3,hwz,hap1,htk,hA1,hA2,abT]|refine Qs ?_ ?_<;>intro hb|refine fd ?_|fail)))
 ·have hap1:=fun(h:Qa)=>ad2 (n:=3) (h:=h) (nfl:=true) hAn (by omega)
  by_cases hBn:B=[]
  ·subst hBn
   rw[List.append_nil,Yw hAn]at hA2
   have htk:adP A.length A=A:=adM (abV _)
   rcases hq with⟨rfl,rfl,hle,rfl|⟨g,k3,i3,c3,rfl,hle3,hA3⟩⟩|⟨rfl,rfl|rfl⟩
   ·have m1:decide (v1<v2)=false:=decide_eq_false (by omega)
    simp only[ah9]at hpl hA1 hA2 ⊢
    (refine ce Tryz.func5 ?_;simp only[Tryz.f5];(have hb:=trivial;with_reducible repeat' (first|simp only[hb,Vc.down,seval,nF.down,h1,h3,h4,h5,kn,c5,c6,hN0,hp,iln,hw1,hw2,hW1,hW2,hN1,hN2,htR2,d1,d2,bne,beq_self_eq_true,acG,ac4,ge_iff_le,gt_iff_lt,Qd.cells,adA,abV,c7,hpl,c9,c10,s2,s3,hwz,hap1,htk,hA1,hA2,m1,abT]|refine Qs ?_ ?_<;>intro hb|refine fd ?_|fail)))
   ·have m1:decide (v1<v2)=false:=decide_eq_false (by omega)
    have m2:decide (c3≤v1)=true:=decide_eq_true hle3
    have m3:IntKind.i64.wrap (((g+1:Nat):Int)-1)=(g:Int):=by rw[Uf (by omega) (by omega)];omega
    have m4:(((g+1:Nat):Int)==0)=false:=beq_eq_false_iff_ne.2 (by omega)
    (refine ce Tryz.func5 ?_;simp only[Tryz.f5];(have hb:=trivial;with_reducible repeat' (first|simp only[hb,Vc.down,seval,nF.down,h1,h3,h4,h5,kn,c5,c6,hN0,hp,iln,hw1,hw2,hW1,hW2,hN1,hN2,htR2,d1,d2,bne,beq_self_eq_true,acG,ac4,ge_iff_le,gt_iff_lt,Qd.cells,adA,abV,c7,hpl,c9,c10,s2,s3,hwz,hap1,htk,hA1,hA2,hA3,m1,m2,m3,m4,abT]|refine Qs ?_ ?_<;>intro hb|refine fd ?_|fail)))
   ·(refine ce Tryz.func5 ?_;simp only[Tryz.f5];(have hb:=trivial;with_reducible repeat' (first|simp only[hb,Vc.down,seval,nF.down,h1,h3,h4,h5,kn,c5,c6,hN0,hp,iln,hw1,hw2,hW1,hW2,hN1,hN2,htR2,d1,d2,bne,beq_self_eq_true,acG,ac4,ge_iff_le,gt_iff_lt,Qd.cells,adA,abV,c7,hpl,c9,c10,s2,s3,hwz,hap1,htk,hA1,hA2,abT]|refine Qs ?_ ?_<;>intro hb|refine fd ?_|fail)))
   ·(refine ce Tryz.func5 ?_;simp only[Tryz.f5];(have hb:=trivial;with_reducible repeat' (first|simp only[hb,Vc.down,seval,nF.down,h1,h3,h4,h5,kn,c5,c6,hN0,hp,iln,hw1,hw2,hW1,hW2,hN1,hN2,htR2,d1,d2,bne,beq_self_eq_true,acG,ac4,ge_iff_le,gt_iff_lt,Qd.cells,adA,abV,c7,hpl,c9,c10,s2,s3,hwz,hap1,htk,hA1,hA2,abT]|refine Qs ?_ ?_<;>intro hb|refine fd ?_|fail)))
  ·have hap2:∀z0 z1 z2 z3 z4:CB,apK 3 [z0,z1,z2,z3,z4,.live 3 true false A] (some (.slr 3 5 0 A.length)) (some (true,B))=some (.ret (.slr 3 6 0 (A.length+B.length)),[.put 5 .dead,.new 6 (.live 3 true false (A++B))]):=fun z0 z1 z2 z3 z4=>by
    obtain⟨b,B',rfl⟩:=List.exists_cons_of_ne_nil hBn
    rw[xF]
    simp only[ai5]at hAl
    simp only[List.getElem?_cons_succ,List.getElem?_cons_zero,ai5,List.length_nil,rW]
    rw[if_pos ⟨by trivial,by simp,by simp;omega⟩]
    rfl
   have htk:adP (A.length+B.length) (A++B)=A++B:=adM (by simp)
   rw[Yw (by simp[hAn])]at hA2
   rcases hq with⟨rfl,rfl,hle,rfl|⟨g,k3,i3,c3,rfl,hle3,hA3⟩⟩|⟨rfl,rfl|rfl⟩
   ·have m1:decide (v1<v2)=false:=decide_eq_false (by omega)
    simp only[ah9]at hpl hA1 hA2 ⊢
    (refine ce Tryz.func5 ?_;simp only[Tryz.f5];(have hb:=trivial;with_reducible repeat' (first|simp only[hb,Vc.down,seval,nF.down,h1,h3,h4,h5,kn,c5,c6,hN0,hp,iln,hw1,hw2,hW1,hW2,hN1,hN2,htR2,d1,d2,bne,beq_self_eq_true,acG,ac4,ge_iff_le,gt_iff_lt,Qd.cells,adA,abV,c7,hpl,c9,c10,s2,s3,hwz,hap1,hap2,htk,aiF,hA1,hA2,m1,abT]|refine Qs ?_ ?_<;>intro hb|refine fd ?_|fail)))
   ·have m1:decide (v1<v2)=false:=decide_eq_false (by omega)
    have m2:decide (c3≤v1)=true:=decide_eq_true hle3
    have m3:IntKind.i64.wrap (((g+1:Nat):Int)-1)=(g:Int):=by rw[Uf (by omega) (by omega)];omega
    have m4:(((g+1:Nat):Int)==0)=false:=beq_eq_false_iff_ne.2 (by omega)
    (refine ce Tryz.func5 ?_;simp only[Tryz.f5];(have hb:=trivial;with_reducible repeat' (first|simp only[hb,Vc.down,seval,nF.down,h1,h3,h4,h5,kn,c5,c6,hN0,hp,iln,hw1,hw2,hW1,hW2,hN1,hN2,htR2,d1,d2,bne,beq_self_eq_true,acG,ac4,ge_iff_le,gt_iff_lt,Qd.cells,adA,abV,c7,hpl,c9,c10,s2,s3,hwz,hap1,hap2,htk,aiF,hA1,hA2,hA3,m1,m2,m3,m4,abT]|refine Qs ?_ ?_<;>intro hb|refine fd ?_|fail)))
   ·(refine ce Tryz.func5 ?_;simp only[Tryz.f5];(have hb:=trivial;with_reducible repeat' (first|simp only[hb,Vc.down,seval,nF.down,h1,h3,h4,h5,kn,c5,c6,hN0,hp,iln,hw1,hw2,hW1,hW2,hN1,hN2,htR2,d1,d2,bne,beq_self_eq_true,acG,ac4,ge_iff_le,gt_iff_lt,Qd.cells,adA,abV,c7,hpl,c9,c10,s2,s3,hwz,hap1,hap2,htk,aiF,hA1,hA2,abT]|refine Qs ?_ ?_<;>intro hb|refine fd ?_|fail)))
   ·(refine ce Tryz.func5 ?_;simp only[Tryz.f5];(have hb:=trivial;with_reducible repeat' (first|simp only[hb,Vc.down,seval,nF.down,h1,h3,h4,h5,kn,c5,c6,hN0,hp,iln,hw1,hw2,hW1,hW2,hN1,hN2,htR2,d1,d2,bne,beq_self_eq_true,acG,ac4,ge_iff_le,gt_iff_lt,Qd.cells,adA,abV,c7,hpl,c9,c10,s2,s3,hwz,hap1,hap2,htk,aiF,hA1,hA2,abT]|refine Qs ?_ ?_<;>intro hb|refine fd ?_|fail)))
theorem ad5(hk:Uu.call (.fn 10) [] []=some (.ret (.bool true),[])):∀avs,adX Tryz.prog 7 Tryz.f5.params.toList avs→Uu.call (.fn 5) avs []=some (.ret (.bool true),[]):=by
 intro avs h
 rw[show Tryz.f5.params.toList=[24,3,3,3,25,3,3]from rfl]at h
 match avs,h with
 | [a,b,c,e,g,i,j],h=>
   obtain⟨w,rfl,hs⟩:=ap4 h.1
   obtain⟨d,rfl,_⟩:=qJ h.2.1
   obtain⟨x,rfl,_⟩:=qJ h.2.2.1
   obtain⟨y,rfl,_⟩:=qJ h.2.2.2.1
   obtain⟨nn,l,rfl,hl⟩:=apG h.2.2.2.2.1
   obtain⟨f,rfl,_⟩:=qJ h.2.2.2.2.2.1
   obtain⟨z,rfl,_⟩:=qJ h.2.2.2.2.2.2.1
   exact ad3 hk w hs d x y l nn hl f z
 | [],h=>exact h.elim
 | [_],h=>exact h.2.elim
 | [_,_],h=>exact h.2.2.elim
 | [_,_,_],h=>exact h.2.2.2.elim
 | [_,_,_,_],h=>exact h.2.2.2.2.elim
 | [_,_,_,_,_],h=>exact h.2.2.2.2.2.elim
 | [_,_,_,_,_,_],h=>exact h.2.2.2.2.2.2.elim
 |_::_::_::_::_::_::_::_::_,h=>exact h.2.2.2.2.2.2.2.elim
end Go.Proofs.YtcncggaobhbomaaGreatDoor
