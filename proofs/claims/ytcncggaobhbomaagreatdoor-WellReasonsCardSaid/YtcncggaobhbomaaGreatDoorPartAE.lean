/- The functions of the layer, walked. -/
import Derived.Test.YtcncggaobhbomaaGreatDoorPartAD
import Derived.Test.YtcncggaobhbomaaGreatDoorPartAB
open List renaming length_map→agX,take→ao8,take_of_length_le→aqM,mem_of_getElem?→awX,all_cons→aAR,all_nil→aC4,map_cons→aC7,map_nil→aC8,length_cons→aEY,length_nil→aE6,map_eq_nil_iff→aFD
open Bool renaming not_false→aqT,and_true→aC5,not_true→aC6
set_option linter.unusedSimpArgs false
set_option linter.unusedVariables false
namespace Go.Proofs.YtcncggaobhbomaaGreatDoor
open Go.Ev Go Go.Ev.Net
set_option maxRecDepth 100000
set_option maxHeartbeats 16000000
def aEU(L:List St)(f:St→Nat)(s:St):Aa:=[.live 1 false false [[.mapr 2]],.live 25 true false [Bm s],Da (En L (Ni f))]
theorem a6J{L:List St}{f:St→Nat}(hL:Twl L)(hf:∀s∈L,f s≤Cd){o:Je}(ho:COk L o){s:St}(hs:s∈L):
 Ei.call (.fn 43) [.agg o.cells,.ptr 0 0 0,.ptr 1 0 0] (aEU L f s)=some (.ret (.bool (wst f o==f s)),aEU L f s):=by
 have h:=aK0 hL hf ho
 have hne:o.to.map Bm≠[]:=by simpa using ho.ne
 have hlk:=fun(q:Aa) (b:Nat) (hb:q[b]?=some (Da (En L (Ni f))))=>aG6 hb hL hs
 have hkv:Ni f s=.int .i64 (f s:Int):=rfl
 have w1:=Hh (hL s hs)
 have w2:=Ff s
 have w3:=Gf s
 have w4:ao8 25 (Bm s)=Bm s:=aqM (by omega)
 have heq:((wst f o:Int)==(f s:Int))=(wst f o==f s):=by rw[Bool.eq_iff_iff];simp;omega
 simp only[Je.cells,av0 hne]at h ⊢
 unfold aEU
 refine ce Tryz.func43 ?_
 simp only[Tryz.f43]
 (have hb:=trivial;with_reducible repeat' (first|simp only[hb,Vc.down,seval,bcW.down,h,hlk,hkv,heq,w1,w2,w3,w4,Ku,Oi,Om,ayI,Kt.down]|refine Av ?_ ?_<;>intro hb|refine fd ?_|fail))
theorem aVJ{L:List St}{f:St→Nat}(hL:Twl L)(hf:∀s∈L,f s≤Cd){l:List Je}(hl:∀o∈l,COk L o)(hlen:l.length≤maxLen)(nn:Bool){s:St}(hs:s∈L):
 Ei.call (.fn 42) [Bo 4 false nn (l.map Je.cells),.func (.func 43) [] [.ptr 0 0 0,.ptr 1 0 0]] (aEU L f s)=some (.ret (.int .i64 (idx (fun o=>wst f o==f s) l 0)),aEU L f s):=by
 unfold aEU
 have w1:=Hh (hL s hs)
 have w2:=Ff s
 have w3:=Gf s
 have w4:ao8 25 (Bm s)=Bm s:=aqM (by omega)
 refine ce Tryz.func42 ?_
 simp only[Tryz.f42]
 (have hb:=trivial;with_reducible repeat' (first|simp only[hb,Vc.down,seval,aT0.down,agX]|refine Av ?_ ?_<;>intro hb|refine fd ?_|fail))
 refine Hn (lst 19 l (fun j (m:Int) t h=>m=j∧t 0=Bo 4 false nn (l.map Je.cells)∧t 1=.func (.func 43) [] [.ptr 0 0 0,.ptr 1 0 0]∧t 7=.int .i64 (l.length:Nat)∧t 8=.int .i64 (j:Int)∧h=aEU L f s) (fun rest m=>idx (fun o=>wst f o==f s) rest m)
  (fun r e t h=>h=aEU L f s∧((e=.exit 0∧r= -1)∨(e=.ret∧t 4=.int .i64 r))) ?_ ?_ 0 _ _ ?_) (fun e t h hk=>?_)
 ·rintro m t h Q' kQ ⟨rfl,g0,g1,g7,g8,rfl⟩
  (have hb:=trivial;with_reducible repeat' (first|simp only[hb,Vc.down,seval,aT0.down,g7,g8,Int.lt_irrefl,decide_false]|refine Av ?_ ?_<;>intro hb|refine fd ?_|fail))
  exact kQ _ _ _ ⟨rfl,.inl ⟨rfl,rfl⟩⟩
 ·rintro o rest j m t h J Q' kJ kQ hx hj ⟨rfl,g0,g1,g7,g8,rfl⟩
  have hdd:decide ((j:Int)<(l.length:Int))=true:=decide_eq_true (by omega)
  have hww:=Ci hj (by unfold maxLen at hlen;unfold maxLen;omega)
  have ho:=hl o (awX hx)
  have hc:=a6J hL hf ho hs
  have hne:o.to.map Bm≠[]:=by simpa using ho.ne
  simp only[Je.cells,av0 hne]at hc
  have hcs:o.cells=[.int .i64 o.k,.int .i64 (o.i:Int),.int .i64 o.c,.imm 25 true (o.to.map Bm)]:=by simp only[Je.cells,av0 hne]
  unfold aEU at hc ⊢
  cases hb:(wst f o==f s)with
  |true=>
   rw[hb]at hc
   have hi1:idx (fun o=>wst f o==f s) (o::rest) (j:Int)=j:=if_pos hb
   (have hb:=trivial;with_reducible repeat' (first|simp only[hb,Vc.down,seval,aT0.down,g0,g1,g7,g8,hdd,hww,hx,hcs,hc,w1,w2,w3,w4,Ku,Oi,Om,ayI,Kt.down,agX]|refine Av ?_ ?_<;>intro hb|refine fd ?_|fail))
   exact kQ _ _ _ ⟨rfl,.inr ⟨rfl,by rw[hi1];simp[up]⟩⟩
  |false=>
   rw[hb]at hc
   have hi2:idx (fun o=>wst f o==f s) rest ((j:Int)+1)=idx (fun o=>wst f o==f s) (o::rest) (j:Int):=by
    have h2:¬((fun o=>wst f o==f s) o=true):=by show ¬((wst f o==f s)=true);rw[hb];simp
    exact(if_neg h2).symm
   (have hb:=trivial;with_reducible repeat' (first|simp only[hb,Vc.down,seval,aT0.down,g0,g1,g7,g8,hdd,hww,hx,hcs,hc,w1,w2,w3,w4,Ku,Oi,Om,ayI,Kt.down,agX]|refine Av ?_ ?_<;>intro hb|refine fd ?_|fail))
   exact Bh (kJ _ _ (j+1) ⟨by simp,by simp[up,g0],by simp[up,g1],by simp[up,g7],by simp[up],rfl⟩ hi2)
 ·exact⟨rfl,by simp[up,Oc],by simp[up,Oc],by simp[up],by simp[up],rfl⟩
 obtain⟨rfl,⟨rfl,hi⟩|⟨rfl,hi⟩⟩:=hk
 ·unfold aEU
  (have hb:=trivial;with_reducible repeat' (first|simp only[hb,Vc.down,seval,aT0.down,Ku,Oi,Om,ayI,w1,w2,w3,w4,Kt.down]|refine Av ?_ ?_<;>intro hb|refine fd ?_|fail))
  rw[hi]
 ·unfold aEU
  (have hb:=trivial;with_reducible repeat' (first|simp only[hb,Vc.down,seval,aT0.down,hi,Ku,Oi,Om,ayI,w1,w2,w3,w4,Kt.down]|refine Av ?_ ?_<;>intro hb|refine fd ?_|fail))
theorem aLB{α:Type}{p:α→Bool}:∀{l:List α} {o:α} (i:Nat),l.find? p=some o→∃j,idx p l i=((i+j:Nat):Int)∧l[j]?=some o
 | [],o,i,h=>by cases h
 |a::l,o,i,h=>by
  cases hp:p a with
  |true=>
   rw[List.find?_cons_of_pos hp]at h
   cases h
   exact⟨0,by simp[idx,hp],rfl⟩
  |false=>
   rw[List.find?_cons_of_neg (by simp[hp])]at h
   obtain⟨j,h1,h2⟩:=aLB (i+1) h
   refine⟨j+1,?_,h2⟩
   simp only[idx,hp,Bool.false_eq_true,if_false]
   rw[show((i:Nat):Int)+1=((i+1:Nat):Int) by omega,h1]
   omega
theorem aWJ{w:Am}{N:Nat}(hw:WOk w N)(hs:w.small)(d:Int)(l:List Dq)(nn:Bool)(hl:l.length≤maxLen)(f:Nat)(h:Ky w d l f=0)(out:List AV)(c0:bs w N l (Af w d,f)=0→out=[.agg [.int .i64 0,.int .i64 0],.int .i64 0,.int .i64 0])(c1:bs w N l (Af w d,f)=Cd→out=[.agg [.int .i64 0,.int .i64 0],.int .i64 0,.int .i64 5])
 (c2:bs w N l (Af w d,f)≠0→bs w N l (Af w d,f)≠Cd→∃o,(Dj w N (Af w d,f)).find? (fun o=>wst (bs w N l) o==bs w N l (Af w d,f))=some o∧out=[.agg [.int .i64 o.k,.int .i64 (o.i:Int)],.int .i64 (bs w N l (Af w d,f):Nat),.int .i64 0]):
 Ei.call (.fn 15) [.agg [.int .i64 w.rooms,.int .i64 w.need,Bo 9 true w.nn (w.parts.map Ai.cells)],.int .i64 d,Bo 3 true nn (l.map Dq.cells),.int .i64 (f:Int)] []=some (.ret (.tup out),[]):=by
 obtain⟨h6,hwb,hdb,hgb,hf0,hf3'⟩:=abJ h
 have h1:=aQK w hs d
 have h2:=aYV w l nn hl
 have h3:=aET (f:Int) 0 3
 rw[hwb,hdb,Bool.and_self]at h1
 rw[hgb]at h2
 rw[show Jd (f:Int) 0 3=true by simp[Jd];omega]at h3
 have d0:decide ((w.parts.length:Int)>6)=false:=decide_eq_false (by omega)
 have hlp:=aDG (by omega) hgb
 have hlp':∀x∈l,0≤x.part∧x.part<12:=fun x hx=>by have:=hlp x hx;omega
 have hpc:=aL5 w d false (by omega)
 have hL:=aBF (w:=w) (d:=d) (by omega)
 have hdg:=aHF w d
 obtain⟨s0,hs0⟩:∃s0:St,(Af w d,f)=s0:=⟨_,rfl⟩
 have hst1:Cf (Af w d)++[AV.int .i64 (f:Int)]=Bm s0:=by rw[←hs0];rfl
 have hu:InU w.parts.length s0 s0:=by rw[←hs0];exact⟨hL,hdg,rfl,Nat.le_refl _⟩
 have hf3:s0.2≤3:=by rw[←hs0];show f≤3;omega
 rw[hs0]at c0 c1 c2
 have f0:=Gh (Af w d)
 have k0:=Gi (Af w d)
 have v0:=aAW (Af w d)
 have l0:=aA9 (Af w d)
 have r0:=Ou (Af w d)
 have p0:=am1 (Af w d)
 have n0:=aDT (Af w d)
 have i0:=aDI (Af w d)
 have hpl:(Cf (Af w d)).length=24:=by rw[Bd];omega
 have htk24:=aqM (l:=Cf (Af w d)) (i:=24) (by omega)
 have b1:ao8 25 (Cf (Af w d))=Cf (Af w d):=aqM (by omega)
 have b2:∀z,ao8 24 (Cf (Af w d)++[z])=Cf (Af w d):=fun z=>by rw[List.take_append_of_le_length (by omega),aqM (by omega)]
 have b3:∀z,List.drop 25 (Cf (Af w d)++[z])=[]:=fun z=>List.drop_eq_nil_of_le (by simp;omega)
 have w1:=Hh hu.l12
 have w2:=Ff s0
 have w3:=Gf s0
 have w4:ao8 25 (Bm s0)=Bm s0:=aqM (by omega)
 obtain⟨qC,hqC⟩:∃q,Fn.func 41=q:=⟨_,rfl⟩
 refine ce Tryz.func15 ?_
 simp only[Tryz.f15]
 (have hb:=trivial;with_reducible repeat' (first|simp only[hb,Vc.down,seval,aXE.down,d0,h1,h2,h3,hpc,f0,k0,v0,l0,r0,p0,n0,i0,hpl,htk24,b1,b2,b3,hst1,w1,w2,w3,w4,hqC,aC0,aBX,aCC,aAR,aC4,aC5,agX]|refine Av ?_ ?_<;>intro hb|refine fd ?_|fail))
 obtain⟨Hc,hHc⟩:∃Hc:Aa,[CB.live 3 false false [[AV.int IntKind.i64 w.rooms,AV.int IntKind.i64 w.need,Bo 9 true w.nn (List.map Ai.cells w.parts)]],CB.live 2 true false [[AV.int IntKind.i64 0,AV.int IntKind.i64 0]],CB.live 4 false false [[AV.int IntKind.i64 w.rooms,AV.int IntKind.i64 w.need,Bo 9 true w.nn (List.map Ai.cells w.parts),AV.int IntKind.i64 d]],CB.live 25 true true [Bm s0]]=Hc:=⟨_,rfl⟩
 rw[hHc]
 generalize hE:cl Ei Hc (some (.func qC [] [])) (some [.ptr 2 0 0,.agg (Bm s0),Bo 3 true nn (l.map Dq.cells)])=E
 rw[←hqC]at hE
 have hl4:Hc.length=4:=by rw[←hHc];rfl
 have hcl2:(Gt Hc).length=4:=by rw[Bv,hl4]
 have hlb2:(Gt Hc)[2]?=some (aoN w d false):=by rw[←hHc];rfl
 obtain⟨o,G,es,M,e1,e2,⟨L,av,b,rfl,K,hm,hF,hcl⟩,e4,e5,e6,e7,e8⟩:=aN6 (O:=Ei) (f:=41) (H:=Hc) (args:=[.ptr 2 0 0,.agg (Bm s0),Bo 3 true nn (l.map Dq.cells)]) rfl rfl (aGE hw hwb h6 d hlb2 hu hf3 l nn hl hlp')
 have e9:=hE.symm.trans e1
 subst e9
 have hkn:M[7]?=some (Da (En L (Ni (bs w N l)))):=(e7 7 (by omega)).trans (by have:=K.kn;rwa[hcl2]at this)
 have hall:M[5]?=some (Da (En L av)):=(e7 5 (by omega)).trans (by have:=K.all;rwa[hcl2]at this)
 have hb3:M[3]?=some (.live 25 true true [Bm s0]):=(e6 3 (by omega)).trans (by rw[←hHc];rfl)
 have hb1:M[1]?=some (.live 2 true false [[AV.int IntKind.i64 0,AV.int IntKind.i64 0]]):=(e6 1 (by omega)).trans (by rw[←hHc];rfl)
 have hkn2:=Ah hkn
 have hall2:=Ah hall
 have hb32:=Ah hb3
 have hb12:=Ah hb1
 have hlk:=fun q=>aG6 (hkn2 q) K.tw hm
 have hlkA:=fun q=>aOA (hall2 q) K.tw hm
 have hset1:∀(q:Aa) (c:CB),((M++q).set 1 c)[1]?=some c:=fun q c=>List.getElem?_set_self (by have:=Eg hb1;simp;omega)
 have hkv:Ni (bs w N l) s0=.int .i64 (bs w N l s0:Int):=rfl
 cases q0:((bs w N l s0:Int)==0)with
 |true=>
  rw[c0 (by simp at q0;omega)]
  (have hb:=trivial;with_reducible repeat' (first|simp only[hb,Vc.down,seval,aXE.down,e2,hl4,hkn2,hb32,hb12,hb1,hset1,hlk,hkv,q0,w1,w2,w3,w4,Kt.down,aC0,aBX,aCC,aAR,aC4,aC5]|refine Av ?_ ?_<;>intro hb|refine fd ?_|fail))
 |false=>
 cases q1:((bs w N l s0:Int)==1099511627776)with
 |true=>
  rw[c1 (by simp at q1;unfold Cd;omega)]
  (have hb:=trivial;with_reducible repeat' (first|simp only[hb,Vc.down,seval,aXE.down,e2,hl4,hkn2,hb32,hb12,hb1,hset1,hlk,hkv,q0,q1,w1,w2,w3,w4,Kt.down,aC0,aBX,aCC,aAR,aC4,aC5]|refine Av ?_ ?_<;>intro hb|refine fd ?_|fail))
 |false=>
 obtain⟨o,ho,rfl⟩:=c2 (fun e=>by rw[e]at q0;simp at q0) (fun e=>by rw[e]at q1;simp[Cd]at q1)
 obtain⟨R,hrd0,hR⟩:=K.ch s0 hm
 rw[hcl2]at hR
 have hrd:rd 6 (hf M) (av s0)=some (Bo 4 false false ((Dj w N s0).map Je.cells),R):=by
  have:=agI (g':=hf M) (Ey hrd0 Px) fun j hj z hz=>by
   have hj2:j∈R:=by simpa using hj
   show(M[j]?).bind Bq=_
   rw[e7 j (by have:=(hR j hj2).1;omega)];exact hz
  obtain⟨a,l',R1,R2,e1,h1,h2,h3⟩:=Ia this
  cases e1
  obtain⟨_,rfl⟩:=ac6 h2
  simp at h3
  rw[h1,←h3]
 have hrv:=fun q=>aE9 (e:=12) (by omega) (az2 (l:=q) hrd)
 obtain⟨v,hav⟩:∃v,av s0=v:=⟨_,rfl⟩
 rw[hav]at hlkA hrd hrv
 change ∀q,rdV (M++q) v=_ at hrv
 rcases awK hrd with⟨rfl,h0⟩|⟨vb,vr,rfl,hvb,_,_,hvr⟩
 ·rw[aFD.1 h0]at ho
  cases ho
 ·simp only[aO7,agX]at hrv
  have hM8:=Eg hkn
  have hM3:(M.length=3)=False:=eq_false (by omega)
  have hM7:(7=M.length)=False:=eq_false (by omega)
  have hM7':(M.length=7)=False:=eq_false (by omega)
  obtain⟨lv,hlv⟩:∃lv,Ao 12 (hf (M++[CB.live 1 false true [[AV.mapr 7]]])) (.slr 4 vb 0 (Dj w N s0).length)=lv:=⟨_,rfl⟩
  have hlv2:=hlv
  rw[aNX]at hlv2
  obtain⟨j,hj,hjo⟩:=aLB 0 ho
  have hjl0:=aFF hjo
  have hjl:((j:Int)<((Dj w N s0).length:Int))=True:=eq_true (by omega)
  obtain⟨vb',bt,ev,hrow0,_,_⟩:=aQU hrd hjo (aPI hwb hu (awX hjo)).2.2.1
  injection ev with _ ev1 _ _
  subst ev1
  have hrow:∀q,Iu ((M++q)[vb]?) j=some [.int .i64 o.k,.int .i64 (o.i:Int),.int .i64 o.c,.slr 25 bt 0 o.to.length]:=fun q=>by
   rw[List.getElem?_append_left (azU hvb)];exact hrow0
  have hI:=aVJ (f:=bs w N l) (l:=Dj w N s0) K.tw (fun s hs=>a3U w N l s (hF s hs)) (fun o ho=>by
   obtain⟨u0,u1,u2,u3,u4⟩:=aPI hwb hu ho
   exact⟨by omega,u1,fun z hz=>hcl s0 hm o ho z hz,u2,u3⟩) (by have:=aFJ w N s0 (by omega);unfold maxLen;omega) false hm
  unfold aEU at hI
  rw[Nat.zero_add]at hj
  rw[show((0:Nat):Int)=0 from rfl]at hj
  rw[hj]at hI
  have hlvR:∀j∈lv,9≤j∧j<M.length:=fun j hj=>by
   have hj2:=aCO (e:=12) (az2 (l:=[CB.live 1 false true [[AV.mapr 7]]]) hrd) j (by rw[agX,hlv];exact hj)
   exact⟨(hR j hj2).1,aGL (by omega) (Ey hrd Px) j (by simpa using hj2)⟩
  have hany:(lv.any fun x=>x==M.length||(x==3||x==7))=false:=by
   rw[List.any_eq_false]
   intro z hz
   have:=hlvR z hz
   simp
   omega
  (have hb:=trivial;with_reducible repeat' (first|simp only[hb,Vc.down,seval,aXE.down,e2,hl4,hkn2,hb32,hb12,hb1,hset1,hlk,hkv,q0,q1,hlkA,hrv,hlv2,hI,hany,hjl,hrow,hM3,hM7,hM7',Ku,Oi,Om,ayI,w1,w2,w3,w4,Kt.down,aC0,aBX,aCC,aAR,aC4,aC5]|refine Av ?_ ?_<;>intro hb|refine fdq ?_|fail))
  have hvb9:9≤vb:=by
   obtain⟨q,_,rfl,_⟩:=aFO hrd hvb
   exact(hR vb (by simp)).1
  have n1:vb≠1:=by omega
  have n2:M.length≠1:=by omega
  refine aKT (fun b=>if b=1 then 1 else 0) [([],[]),([],[.cells 0 0 25]),([],[.blk 0]),([],[]),([],[]),([],[]),([],[.cells 0 0 2]),([],[.cells 0 0 1]),([],[.cells 0 0 25]),([],[.blk 0]),([.cells 1 0 2],[.cells 1 0 2]),([],[]),([],[])] (by kernel_rfl) ?_ (fun _=>?_)
  ·simp only[az0,aCB]
   simp[Ox,Ab.foot,n1,n2]
  ·(have hb:=trivial;with_reducible repeat' (first|simp only[hb,Vc.down,seval,aXE.down,hset1,hkv,Kt.down,hb1,hb12]|refine Av ?_ ?_<;>intro hb|refine fd ?_|fail))
noncomputable def a7M(b:Nat):Int:=if b<Cd then(b:Int)else 0
noncomputable def aOI(b:Nat):Int:=if b<Cd then 0 else 5
theorem aPA{w:Am}{N:Nat}(hw:WOk w N){d:Int}{l:List Dq}(hl:l.length≤maxLen){f:Nat}(h:Ky w d l f=0):(Jv w N l).Fine Cd (Af w d,f):=by
 obtain⟨h6,hwb,_,hgb,_,hf3⟩:=abJ h
 exact aX6 hw hwb h6 (aBF (by omega)) (aHF w d) (by show f≤3;omega) l hl (fun x hx=>by have:=aDG (by omega) hgb x hx;omega)
theorem aZG{w:Am}{N:Nat}(hb:Hz w=true){l:List Dq}{s:St}:∀o∈(Jv w N l).ops s,1≤o.1:=by
 intro o ho
 obtain⟨c,hc,rfl⟩:=Lc.1 ho
 obtain⟨p,x,I⟩:=awQ.1 hc
 have:=aI1 hb I.hp c.k
 rw[←I.c]at this
 show 1≤c.c.toNat
 omega
theorem a3T{w:Am}{N:Nat}(hw:WOk w N)(hs:w.small)(d:Int)(l:List Dq)(nn:Bool)(hl:l.length≤maxLen)(f:Nat)(h:Ky w d l f=0):
 ∃k i:Int,Ei.call (.fn 15) [.agg [.int .i64 w.rooms,.int .i64 w.need,Bo 9 true w.nn (w.parts.map Ai.cells)],.int .i64 d,Bo 3 true nn (l.map Dq.cells),.int .i64 (f:Int)] []=some (.ret (.tup [.agg [.int .i64 k,.int .i64 i],.int .i64 (a7M (bs w N l (Af w d,f))),.int .i64 (aOI (bs w N l (Af w d,f)))]),[])∧
  (bs w N l (Af w d,f)≠0→bs w N l (Af w d,f)<Cd→∃o,(Dj w N (Af w d,f)).find? (fun o=>wst (bs w N l) o==bs w N l (Af w d,f))=some o∧k=o.k∧i=o.i)∧(bs w N l (Af w d,f)=0∨Cd≤bs w N l (Af w d,f)→k=0∧i=0):=by
 have hF:=aPA hw hl h
 have hle:=a3U w N l _ hF
 obtain⟨_,hwb,_,hgb,_,_⟩:=abJ h
 have hA:=fun out=>aWJ hw hs d l nn hl f h out
 have hop:=Sys.bst_op hF
 change bs w N l (Af w d,f)<Cd→_ at hop
 have hgo:bs w N l (Af w d,f)≠0→(Jv w N l).goal (Af w d,f)=false:=fun hn=>by
  cases hg:(Jv w N l).goal (Af w d,f)with
  |false=>rfl
  |true=>exact absurd (Sys.bst_goal hg) hn
 have hfind:bs w N l (Af w d,f)≠0→bs w N l (Af w d,f)<Cd→∃o,(Dj w N (Af w d,f)).find? (fun o=>wst (bs w N l) o==bs w N l (Af w d,f))=some o:=fun h0 h1=>by
  obtain⟨o,ho,e,_⟩:=hop h1 (hgo h0) (aZG hwb)
  obtain⟨c,hc,rfl⟩:=Lc.1 ho
  refine Option.isSome_iff_exists.1 (List.find?_isSome.2 ⟨c,hc,?_⟩)
  rw[beq_iff_eq]
  exact e.symm
 by_cases h0:bs w N l (Af w d,f)=0
 ·refine⟨0,0,?_,fun h=>absurd h0 h,fun _=>⟨rfl,rfl⟩⟩
  have:=hA [.agg [.int .i64 0,.int .i64 0],.int .i64 0,.int .i64 0] (fun _=>rfl) (fun e=>by rw[h0]at e;cases e) (fun h=>absurd h0 h)
  rw[h0]
  exact this
 ·by_cases h1:bs w N l (Af w d,f)<Cd
  ·obtain⟨o,ho⟩:=hfind h0 h1
   refine⟨o.k,o.i,?_,fun _ _=>⟨o,ho,rfl,rfl⟩,fun h=>by omega⟩
   have:=hA [.agg [.int .i64 o.k,.int .i64 (o.i:Int)],.int .i64 (bs w N l (Af w d,f):Nat),.int .i64 0] (fun h=>absurd h h0) (fun h=>by omega) (fun _ _=>⟨o,ho,rfl⟩)
   unfold a7M aOI
   rw[if_pos h1,if_pos h1]
   exact this
  ·refine⟨0,0,?_,fun _ h=>absurd h h1,fun _=>⟨rfl,rfl⟩⟩
   have:=hA [.agg [.int .i64 0,.int .i64 0],.int .i64 0,.int .i64 5] (fun h=>absurd h h0) (fun _=>rfl) (fun _ h=>absurd (by omega) h)
   unfold a7M aOI
   rw[if_neg h1,if_neg h1]
   exact this
theorem aF0{w:Am}{d:Int}{l:List Dq}{f:Int}(h:Ky w d l f=0){l':List Dq}(hg:Ny w l'=true){g:Int}(hg0:0≤g)(hg3:g≤3):Ky w d l' g=0:=by
 obtain⟨h6,hwb,hdb,_,_,_⟩:=abJ h
 unfold Ky
 rw[if_neg (by simp;omega),if_neg (by simp[hwb,hdb,hg];omega)]
theorem aVP{w:Am}{l:List Dq}(h:Ny w l=true){x:Dq}(hx:x∈l):Ny w [x]=true:=by
 have:=aG2 h x hx
 unfold Ny
 simp[Eu,this]
theorem aXM{w:Am}{N:Nat}(hw:WOk w N){d:Int}{l:List Dq}(hl:l.length≤maxLen){f:Nat}(h:Ky w d l f=0):bs w N l (Af w d,f)<Cd↔bs w N l (Af w d,0)<Cd:=by
 have h0:Ky w d l ((0:Nat):Int)=0:=aF0 h (abJ h).2.2.2.1 (by simp) (by simp)
 rw[aQC (aPA hw hl h),aQC (aPA hw hl h0)]
 constructor
 ·rintro⟨k,hk⟩;exact⟨k,aR0 (Nat.zero_le _) hk⟩
 ·rintro⟨k,hk⟩;exact aQ6 hw f _ k hk rfl
theorem aLI{α:Type}(p:α→Bool):∀(l:List α) (i:Nat),(idx p l i= -1∧∀x∈l,p x=false)∨∃j x,idx p l i=((i+j:Nat):Int)∧l[j]?=some x∧p x=true∧∀z y,z<j→l[z]?=some y→p y=false
 | [],i=>.inl ⟨rfl,by simp⟩
 |a::l,i=>by
  cases hp:p a with
  |true=>exact .inr ⟨0,a,if_pos hp,rfl,hp,fun z y h=>by omega⟩
  |false=>
   have e:idx p (a::l) i=idx p l ((i+1:Nat):Int):=if_neg (by simp[hp])
   rcases aLI p l (i+1)with⟨h1,h2⟩|⟨j,x,h1,h2,h3,h4⟩
   ·exact .inl ⟨e.trans h1,by simpa [hp]using h2⟩
   ·refine .inr ⟨j+1,x,by rw[e,h1];omega,h2,h3,fun z y hz hy=>?_⟩
    cases z with
    |zero=>simp at hy;subst hy;exact hp
    |succ z=>exact h4 z y (by omega) (by simpa using hy)
theorem a4J{l:List Dq}{i:Nat}{x:Dq}(hx:l[i]?=some x)(nn:Bool):slx Tryz.prog 25 (some (Bo 3 true nn (l.map Dq.cells))) (some (some (.int .i64 (i:Int)))) (some (some (.int .i64 ((i+1:Nat):Int))))=some (.ret (.imm 3 true [x.cells]),[]):=by
 have hi:=aFF hx
 have hne:l.map Dq.cells≠[]:=fun e=>by rw[aFD.1 e]at hi;simp at hi
 have hz:Ji Tryz.prog 75=some 3:=by kernel_rfl
 have hd:ao8 1 (List.drop i (l.map Dq.cells))=[x.cells]:=by
  rw[←List.map_drop,←List.map_take,List.drop_eq_getElem_cons hi,List.take_succ_cons,List.take_zero]
  rw[List.getElem?_eq_getElem hi]at hx
  cases hx;rfl
 have a1:Gs (l.map Dq.cells).length (some (.int .i64 ((i+1:Nat):Int))) (l.map Dq.cells).length=some (i+1):=by
  show(if(0:Int)≤((i+1:Nat):Int)∧((i+1:Nat):Int)≤((l.map Dq.cells).length:Int)then some ((i+1:Nat):Int).toNat else none)=_
  rw[if_pos ⟨by omega,by rw[agX];omega⟩];rfl
 have a2:Gs (i+1) (some (.int .i64 (i:Int))) 0=some i:=by
  show(if(0:Int)≤(i:Int)∧(i:Int)≤((i+1:Nat):Int)then some (i:Int).toNat else none)=_
  rw[if_pos ⟨by omega,by omega⟩];rfl
 rw[av0 hne]
 simp only[slx,Option.bind_some,aDK,Tryz.underlying25,hz,if_true,a1,a2,Option.map_some,Nat.add_sub_cancel_left,hd]
 rfl
theorem aHW(kn:Ei.call (.fn 10) [] []=some (.ret (.bool true),[]))(w:Am)(hs:w.small)(d:Int)(l:List Dq)(nn:Bool)(hl:l.length≤maxLen)(f:Int):Ei.call (.fn 6) [.agg [.int .i64 w.rooms,.int .i64 w.need,Bo 9 true w.nn (w.parts.map Ai.cells)],.int .i64 d,Bo 3 true nn (l.map Dq.cells),.int .i64 f] []=some (.ret (.bool true),[]):=by
 have h1:=a0C w
 have hpl:=aRZ w hs d l nn hl f
 cases c1:aOH w with
 |false=>
  rw[c1]at h1
  (refine ce Tryz.func6 ?_;simp only[Tryz.f6];(have hb:=trivial;with_reducible repeat' (first|simp only[hb,Vc.down,seval,TY6.down,h1,kn,agX]|refine Av ?_ ?_<;>intro hb|refine fd ?_|fail)))
 |true=>
 rw[c1]at h1
 cases c2:decide ((l.length:Int)>10)with
 |true=>
  (refine ce Tryz.func6 ?_;simp only[Tryz.f6];(have hb:=trivial;with_reducible repeat' (first|simp only[hb,Vc.down,seval,TY6.down,h1,kn,agX,c2]|refine Av ?_ ?_<;>intro hb|refine fd ?_|fail)))
 |false=>
 by_cases c3:Ky w d l f=0
 ·rw[c3]at hpl
  cases c4:decide ((w.parts.length:Int)>5)with
  |true=>
   (refine ce Tryz.func6 ?_;simp only[Tryz.f6];(have hb:=trivial;with_reducible repeat' (first|simp only[hb,Vc.down,seval,TY6.down,h1,kn,c2,hpl,c4,agX]|refine Av ?_ ?_<;>intro hb|refine fd ?_|fail)))
  |false=>
  obtain⟨h6,hwb,hdb,hgb,hf0,hf3⟩:=abJ c3
  obtain⟨fN,rfl⟩:∃n:Nat,f=(n:Int):=⟨f.toNat,by omega⟩
  obtain⟨N,hw,h12⟩:=aQ0 hwb
  have h0:Ky w d l ((0:Nat):Int)=0:=aF0 c3 hgb (by simp) (by simp)
  have hW:=ba3 hw hs d l nn hl h0
  obtain⟨k,i,hA,_⟩:=a3T hw hs d l nn hl fN c3
  have hall:=aXM hw hl c3
  by_cases c5:bs w N l (Af w d,0)<Cd
  ·rw[if_pos c5]at hW
   have e1:aOI (bs w N l (Af w d,fN))=0:=if_pos (hall.2 c5)
   rw[e1]at hA
   (refine ce Tryz.func6 ?_;simp only[Tryz.f6];(have hb:=trivial;with_reducible repeat' (first|simp only[hb,Vc.down,seval,TY6.down,h1,kn,c2,hpl,c4,hW,hA,agX]|refine Av ?_ ?_<;>intro hb|refine fd ?_|fail)))
  ·rw[if_neg c5]at hW
   have e1:aOI (bs w N l (Af w d,fN))=5:=if_neg (fun h=>c5 (hall.1 h))
   rw[e1]at hA
   have hone:∀x∈l,∃k i c:Int,Ei.call (.fn 15) [.agg [.int .i64 w.rooms,.int .i64 w.need,Bo 9 true w.nn (w.parts.map Ai.cells)],.int .i64 d,.imm 3 true [x.cells],.int .i64 (fN:Int)] []=some (.ret (.tup [.agg [.int .i64 k,.int .i64 i],.int .i64 c,.int .i64 (if bs w N [x] (Af w d,0)<Cd then 0 else 5)]),[]):=fun x hx=>by
    have hp:=aF0 c3 (aVP hgb hx) hf0 hf3
    obtain⟨k,i,hA,_⟩:=a3T hw hs d [x] true (by unfold maxLen;simp) fN hp
    have:=aXM hw (l:=[x]) (by unfold maxLen;simp) hp
    have e2:aOI (bs w N [x] (Af w d,fN))=if bs w N [x] (Af w d,0)<Cd then 0 else 5:=by unfold aOI;simp only[this]
    rw[e2,show Bo 3 true true ([x].map Dq.cells)=.imm 3 true [x.cells]from rfl]at hA
    exact⟨k,i,_,hA⟩
   have hspec:=aLI (fun x:Dq=> !decide (bs w N [x] (Af w d,0)<Cd)) l 0
   change (aXB w N d l= -1∧_)∨_ at hspec
   obtain⟨n,hn⟩:∃n,aXB w N d l=n:=⟨_,rfl⟩
   rw[hn]at hW
   have hspec2:(n= -1∧∀x∈l,bs w N [x] (Af w d,0)<Cd)∨∃j x,n=((j:Nat):Int)∧l[j]?=some x∧¬bs w N [x] (Af w d,0)<Cd∧∀z y,z<j→l[z]?=some y→bs w N [y] (Af w d,0)<Cd:=by
    rcases hspec with⟨e,h⟩|⟨j,x,e,e2,e3,e4⟩
    ·exact .inl ⟨hn.symm.trans e,fun x hx=>by simpa using h x hx⟩
    ·refine .inr ⟨j,x,by rw[←hn];exact e.trans (by rw[Nat.zero_add]),e2,by simpa using e3,fun z y hz hy=>by simpa using e4 z y hz hy⟩
   have n1:decide (n < -1)=false:=decide_eq_false (by rcases hspec2 with⟨e,_⟩|⟨j,x,e,_⟩<;>omega)
   have n2:decide (n≥(l.length:Int))=false:=decide_eq_false (by
    rcases hspec2 with⟨e,_⟩|⟨j,x,e,e2,_⟩
    ·omega
    ·have:=aFF e2;omega)
   (refine ce Tryz.func6 ?_;simp only[Tryz.f6];(have hb:=trivial;with_reducible repeat' (first|simp only[hb,Vc.down,seval,TY6.down,h1,kn,c2,hpl,c4,hW,hA,n1,n2,ge_iff_le,gt_iff_lt,agX]|refine Av ?_ ?_<;>intro hb|refine fd ?_|fail)))
   have hlt:(l.length:Int)<1000:=by have:=of_decide_eq_false c2;omega
   refine Hn (lst 125 l (fun i (_:Unit) t h=>t 1=.int .i64 d∧t 2=Bo 3 true nn (l.map Dq.cells)∧t 3=.int .i64 (fN:Int)∧t 4=.ptr 0 0 0∧t 9=.int .i64 n∧t 14=.int .i64 (i:Int)∧(∃fl x,h[0]?=some (.live 3 fl x [[.int .i64 w.rooms,.int .i64 w.need,Bo 9 true w.nn (w.parts.map Ai.cells)]]))∧(n<0∨(i:Int)≤n+1)) (fun _ _=>())
    (fun _ e t h=>e=.exit 0) ?_ ?_ () _ _ ?_) (fun e t h hk=>?_)
   ·rintro _ t h Q' kQ ⟨g1,g2,g3,g4,g9,g14,hB,hin⟩
    (have hb:=trivial;with_reducible repeat' (first|simp only[hb,Vc.down,seval,TY6.down,g2,g9,g14,Int.lt_irrefl,decide_false,agX]|refine Av ?_ ?_<;>intro hb|refine fd ?_|fail))
    exact kQ _ _ _ rfl
   ·rintro x rest i _ t h J Q' kJ kQ hx hi ⟨g1,g2,g3,g4,g9,g14,⟨fl,xx,hB⟩,hin⟩
    have hdd:decide ((i:Int)<(l.length:Int))=true:=decide_eq_true (by omega)
    have hii:((i:Int)<(l.length:Int))=True:=eq_true (by omega)
    have hww:=Ci hi hl
    have hB2:=Ah hB
    have hl0:=Ap hB
    have hs0:aOO (h.length-1) 1 h.length=1001:=by unfold aOO;rw[if_neg (by omega)];omega
    have hsf:∀k,aOO (h.length-1) 1 (h.length+k)=k+1001:=fun k=>by unfold aOO;rw[if_neg (by omega)];omega
    obtain⟨k1,i1,cc,hA1⟩:=hone x (awX hx)
    have hslx:=a4J hx nn
    have hnj:∀j:Nat,n=(j:Int)→i<j→bs w N [x] (Af w d,0)<Cd:=fun j e hj=>by
     rcases hspec2 with⟨e',_⟩|⟨j',x',e',e2,e3,e4⟩
     ·omega
     ·exact e4 i x (by omega) hx
    by_cases c6:n<0
    ·have m1:decide (n<0)=true:=decide_eq_true c6
     have m2:((i:Int)==n)=false:=beq_eq_false_iff_ne.2 (by omega)
     rw[if_pos (by
      rcases hspec2 with⟨_,e⟩|⟨j',x',e',_⟩
      ·exact e x (awX hx)
      ·omega)]at hA1
     (have hb:=trivial;with_reducible repeat' (first|simp only[hb,Vc.down,seval,TY6.down,g1,g2,g3,g4,g9,g14,hB,hB2,hdd,hii,hww,hx,hslx,hA1,bne,aC6,aqT,m1,m2,agX]|refine Av ?_ ?_<;>intro hb|((refine aKR (h.length-1) 1 ?_ ?_);(simp (discharger:=decide) only[aA0,am3,aC7,aC8,Nc,aA5,aA3,aBI,Lq,aeG,aEY,aE6,hs0,hsf];kernel_rfl);intro _)|refine fdq ?_|fail))
     exact Bh (kJ _ _ () ⟨by simp[up,g1],by simp[up,g2],by simp[up,g3],by simp[up,g4],by simp[up,g9],by simp[up],⟨fl,xx,hB2 _⟩,by omega⟩ rfl)
    ·have m1:decide (n<0)=false:=decide_eq_false c6
     by_cases c7:(i:Int)≤n
     ·have m3:decide ((i:Int)≤n)=true:=decide_eq_true c7
      by_cases c8:(i:Int)=n
      ·have m2:((i:Int)==n)=true:=beq_iff_eq.2 c8
       rw[if_neg (by
        rcases hspec2 with⟨e',_⟩|⟨j',x',e',e2,e3,e4⟩
        ·omega
        ·obtain rfl:i=j':=by omega
         rw[hx]at e2;cases e2;exact e3)]at hA1
       (have hb:=trivial;with_reducible repeat' (first|simp only[hb,Vc.down,seval,TY6.down,g1,g2,g3,g4,g9,g14,hB,hB2,hdd,hii,hww,hx,hslx,hA1,bne,aC6,aqT,m1,m2,m3,agX]|refine Av ?_ ?_<;>intro hb|((refine aKR (h.length-1) 1 ?_ ?_);(simp (discharger:=decide) only[aA0,am3,aC7,aC8,Nc,aA5,aA3,aBI,Lq,aeG,aEY,aE6,hs0,hsf];kernel_rfl);intro _)|refine fdq ?_|fail))
       exact Bh (kJ _ _ () ⟨by simp[up,g1],by simp[up,g2],by simp[up,g3],by simp[up,g4],by simp[up,g9],by simp[up],⟨fl,xx,hB2 _⟩,by omega⟩ rfl)
      ·have m2:((i:Int)==n)=false:=beq_eq_false_iff_ne.2 c8
       rw[if_pos (hnj n.toNat (by omega) (by omega))]at hA1
       (have hb:=trivial;with_reducible repeat' (first|simp only[hb,Vc.down,seval,TY6.down,g1,g2,g3,g4,g9,g14,hB,hB2,hdd,hii,hww,hx,hslx,hA1,bne,aC6,aqT,m1,m2,m3,agX]|refine Av ?_ ?_<;>intro hb|((refine aKR (h.length-1) 1 ?_ ?_);(simp (discharger:=decide) only[aA0,am3,aC7,aC8,Nc,aA5,aA3,aBI,Lq,aeG,aEY,aE6,hs0,hsf];kernel_rfl);intro _)|refine fdq ?_|fail))
       exact Bh (kJ _ _ () ⟨by simp[up,g1],by simp[up,g2],by simp[up,g3],by simp[up,g4],by simp[up,g9],by simp[up],⟨fl,xx,hB2 _⟩,by omega⟩ rfl)
     ·have m3:decide ((i:Int)≤n)=false:=decide_eq_false c7
      (have hb:=trivial;with_reducible repeat' (first|simp only[hb,Vc.down,seval,TY6.down,g1,g2,g3,g4,g9,g14,hB,hB2,hdd,hii,hww,hx,hslx,hA1,bne,aC6,aqT,m1,m3,agX]|refine Av ?_ ?_<;>intro hb|((refine aKR (h.length-1) 1 ?_ ?_);(simp (discharger:=decide) only[aA0,am3,aC7,aC8,Nc,aA5,aA3,aBI,Lq,aeG,aEY,aE6,hs0,hsf];kernel_rfl);intro _)|refine fdq ?_|fail))
      exact kQ _ _ _ rfl
   ·exact⟨by simp[up,Oc],by simp[up,Oc],by simp[up,Oc],by simp[up],by simp[up],by simp[up],⟨_,_,rfl⟩,by rcases hspec2 with⟨e,_⟩|⟨j,x,e,_⟩<;>omega⟩
   subst hk
   (have hb:=trivial;with_reducible repeat' (first|simp only[hb,Vc.down,seval,TY6.down,kn]|refine Av ?_ ?_<;>intro hb|refine fd ?_|fail))
 ·have c3':(Ky w d l f==0)=false:=by simpa using c3
  (refine ce Tryz.func6 ?_;simp only[Tryz.f6];(have hb:=trivial;with_reducible repeat' (first|simp only[hb,Vc.down,seval,TY6.down,h1,kn,c2,hpl,c3',bne,aqT,agX]|refine Av ?_ ?_<;>intro hb|refine fd ?_|fail)))
theorem a67{n:Nat}{r:List AV}(h:Ty Tryz.prog (n+4) 75 r):∃x:Dq,r=x.cells:=by
 unfold Ty at h
 simp only[Tryz.underlying75,aS5]at h
 obtain⟨a1,b1,rfl,h1,a2,b2,rfl,h2,a3,b3,rfl,h3,rfl⟩:=h
 obtain⟨i,rfl,_⟩:=Og h1
 obtain⟨b,rfl⟩:=aB2 h2
 obtain⟨c,rfl⟩:=aB2 h3
 exact⟨⟨i,b,c⟩,rfl⟩
theorem a0V{av:AV}(h:TyV Tryz.prog 7 25 av):∃(nn:Bool) (l:List Dq),av=Bo 3 true nn (l.map Dq.cells)∧l.length≤maxLen:=by
 unfold TyV at h
 simp only[Tryz.underlying25]at h
 unfold Ty at h
 simp only[Tryz.underlying25]at h
 obtain⟨nn,rows,hx,hl,hrows⟩:=h
 obtain⟨l,rfl,hm⟩:=aJ0 (q:=fun _=>True) (fun r hr=>by obtain⟨x,hx⟩:=a67 (n:=2) hr;exact⟨x,hx,trivial⟩) hrows
 have e1:Tryz.prog.cellsOf 75=3:=by kernel_rfl
 have e2:flT Tryz.prog 6 75=true:=by kernel_rfl
 rw[e1,e2]at hx
 simp only[List.cons.injEq,and_true]at hx
 exact⟨nn,l,hx,by simpa using hl⟩
theorem aIA(hk:Ei.call (.fn 10) [] []=some (.ret (.bool true),[])):∀avs,aPP Tryz.prog 7 Tryz.f6.params.toList avs→Ei.call (.fn 6) avs []=some (.ret (.bool true),[]):=by
 intro avs h
 rw[show Tryz.f6.params.toList=[24,3,25,3]from rfl]at h
 match avs,h with
 | [a,b,c,e],h=>
   obtain⟨w,rfl,hs⟩:=a1X h.1
   obtain⟨d,rfl,_⟩:=aWT h.2.1
   obtain⟨nn,l,rfl,hl⟩:=a0V h.2.2.1
   obtain⟨f,rfl,_⟩:=aWT h.2.2.2.1
   exact aHW hk w hs d l nn hl f
 | [],h=>exact h.elim
 | [_],h=>exact h.2.elim
 | [_,_],h=>exact h.2.2.elim
 | [_,_,_],h=>exact h.2.2.2.elim
 |_::_::_::_::_::_,h=>exact h.2.2.2.2.elim
end Go.Proofs.YtcncggaobhbomaaGreatDoor
