/- The functions of the layer, walked. -/
import Derived.Test.YtcncggaobhbomaaGreatDoorPartAA
import Derived.Test.YtcncggaobhbomaaGreatDoorLibE
open List renaming getElem?_set_ne→aaB,length_map→aaM,getElem?_append_left→abV,getElem?_set_self→abZ,mem_cons_self→ab9,replicate→acH,take→aeN,getElem?_eq_getElem→aeQ,take_of_length_le→ae5,mem_cons→afC,getElem?_append_right→afO,drop→ag0,flatMap_cons→ag1,cons_append→ag2,nil_append→ag5,length_set→aiJ,mem_cons_of_mem→ai9,take_succ_cons→amE,drop_succ_cons→amX,set_cons_succ→amZ,length_take→apH,getElem?_eq_some_iff→apI,all_eq_true→apJ,mem_of_getElem?→apM,length_nil→apN
open Int renaming lt_irrefl→afU
open Option renaming bind_some→akD
open Bool renaming and_eq_true→apL
set_option linter.unusedSimpArgs false
set_option linter.unusedVariables false
namespace Go.Proofs.YtcncggaobhbomaaGreatDoor
open Go.Ev Go Go.Ev.Net
set_option maxRecDepth 100000
set_option maxHeartbeats 16000000
theorem bhC(b:Bool):Ub.call (.fn 78) [.bool b] []=some (.ret (.int .i64 (if b=true then 1 else 0)),[]):=by
 cases b<;>(refine ce Tryz.func78 ?_;simp only[Tryz.f78];(have hb:=trivial;with_reducible repeat' (first|simp only[hb,Va.down,seval]|refine Qm ?_ ?_<;>intro hb|refine fd ?_|fail)))
theorem aE1(c:Int)(o:Bool):Ub.call (.fn 53) [.agg [.int .i64 c,.bool o]] []=some (.ret (.bool (c==0&& !o)),[]):=by
 cases hc:(c==0)<;>(refine ce Tryz.func53 ?_;simp only[Tryz.f53];(have hb:=trivial;with_reducible repeat' (first|simp only[hb,Va.down,seval,bnI.down,hc]|refine Qm ?_ ?_<;>intro hb|refine fd ?_|fail)))
theorem Wn(b r o:Nat)(i:Int):ia Tryz.prog 82 (some (.ptr b r o)) (some (.int .i64 i))=if 0≤i∧i<12 then some (.ret (.ptr b r (o+i.toNat*2)),[])else none:=by
 have h:Wu Tryz.prog 82 (.ptr b r o) (.int .i64 i)=if 0≤i∧i<12 then some (.ptr b r (o+i.toNat*2))else none:=by
  unfold Wu
  simp only[Tryz.underlying82]
  have hz:aL Tryz.prog 80=some 2:=by kernel_rfl
  rw[hz]
  simp
 simp only[ia,akD,h]
 split<;>rfl
def Qc(w:Qf)(d:Int):List (Int × Bool):=w.parts.map (fun p=>(Qs p d,p.opn))++acH (12-w.parts.length) (0,false)
def To(l:List (Int × Bool)):List AV:=l.flatMap fun x=>[.int .i64 x.1,.bool x.2]
theorem Rz(l:List (Int × Bool)):(To l).length=2*l.length:=by
 induction l with
 |nil=>rfl
 |cons x l ih=>simp[To]at ih ⊢;omega
theorem acR:∀(L:List (Int × Bool)) (i:Nat) (a:Int) (b b':Bool),L[i]?=some (a,b)→aeN (i*2+1) (To L)++([.bool b']++ag0 (i*2+2) (To L))=To (L.set i (a,b'))
 | [],i,a,b,b',h=>by simp at h
 |x::L,0,a,b,b',h=>by simp at h;subst h;simp[To]
 |x::L,i+1,a,b,b',h=>by
  have ih:=acR L i a b b' (by simpa using h)
  rw[show(i+1)*2+1=(i*2+1)+1+1 by omega,show(i+1)*2+2=(i*2+2)+1+1 by omega]
  simp only[To,ag1,ag2,ag5,amE,amX,amZ]at ih ⊢
  rw[←ih]
theorem vN:∀(L:List (Int × Bool)) (i:Nat) (a a':Int) (b:Bool),L[i]?=some (a,b)→aeN (i*2) (To L)++([.int .i64 a']++ag0 (i*2+1) (To L))=To (L.set i (a',b))
 | [],i,a,a',b,h=>by simp at h
 |x::L,0,a,a',b,h=>by simp at h;subst h;simp[To]
 |x::L,i+1,a,a',b,h=>by
  have ih:=vN L i a a' b (by simpa using h)
  rw[show(i+1)*2=(i*2)+1+1 by omega,show(i*2)+1+1+1=(i*2+1)+1+1 by omega]
  simp only[To,ag1,ag2,ag5,amE,amX,amZ]at ih ⊢
  rw[←ih]
def pcI(w:Qf)(d:Int)(i:Nat):List (Int × Bool):=(w.parts.take i).map (fun p=>(Qs p d,p.opn))++acH (12-i) (0,false)
theorem bbR{w:Qf}{d:Int}{i:Nat}(hi:i<w.parts.length)(h12:w.parts.length≤12):(pcI w d i)[i]?=some (0,false):=by
 have hl:((w.parts.take i).map fun p=>(Qs p d,p.opn)).length=i:=by rw[aaM,apH];omega
 unfold pcI
 rw[afO (by omega),hl,Nat.sub_self,List.getElem?_replicate,if_pos (by omega)]
theorem ap0{w:Qf}{d:Int}{i:Nat}{p:Qb}(hx:w.parts[i]?=some p)(h12:w.parts.length≤12):(pcI w d i).set i (Qs p d,p.opn)=pcI w d (i+1):=by
 have hi:i<w.parts.length:=(apI.1 hx).1
 have hl:((w.parts.take i).map fun p=>(Qs p d,p.opn)).length=i:=by rw[aaM,apH];omega
 unfold pcI
 rw[List.set_append_right _ _ (by omega),hl,Nat.sub_self,List.take_add_one,hx]
 have e:12-i=(12-(i+1))+1:=by omega
 rw[e,List.replicate_succ]
 simp
theorem aqR(w:Qf)(d:Int)(wf:Bool)(h12:w.parts.length≤12):Ub.call (.fn 40) [.ptr 0 0 0] [.live 4 false wf [[.int .i64 w.rooms,.int .i64 w.need,Rh 9 true w.nn (w.parts.map Qb.cells),.int .i64 d]]]=some (.ret (.agg (To (Qc w d))),[.live 4 false wf [[.int .i64 w.rooms,.int .i64 w.need,Rh 9 true w.nn (w.parts.map Qb.cells),.int .i64 d]]]):=by
 refine ce Tryz.func40 ?_
 simp only[Tryz.f40]
 (have hb:=trivial;with_reducible repeat' (first|simp only[hb,Va.down,seval,aM0.down,aaM]|refine Qm ?_ ?_<;>intro hb|refine fd ?_|fail))
 refine Uj (lst 44 w.parts (fun i (_:Unit) t h=>t 0=.ptr 0 0 0∧t 2=.ptr 1 0 0∧t 3=.ptr 2 0 0∧t 10=Rh 9 true w.nn (w.parts.map Qb.cells)∧t 11=.int .i64 (w.parts.length:Nat)∧t 12=.int .i64 (i:Int)∧h[0]?=some (.live 4 false wf [[.int .i64 w.rooms,.int .i64 w.need,Rh 9 true w.nn (w.parts.map Qb.cells),.int .i64 d]])∧h[1]?=some (.live 24 true false [To (acH 12 (0,false))])∧∃f,h[2]?=some (.live 24 true f [To (pcI w d i)])) (fun _ _=>())
  (fun _ e t h=>e=.exit 0∧t 2=.ptr 1 0 0∧t 3=.ptr 2 0 0∧h[0]?=some (.live 4 false wf [[.int .i64 w.rooms,.int .i64 w.need,Rh 9 true w.nn (w.parts.map Qb.cells),.int .i64 d]])∧h[1]?=some (.live 24 true false [To (acH 12 (0,false))])∧∃f,h[2]?=some (.live 24 true f [To (pcI w d w.parts.length)])) ?_ ?_ () _ _ ?_) (fun e t h hk=>?_)
 ·rintro _ t h Q' kQ ⟨h0,h2,h3,h10,h11,h12',hA,hB,f,hC⟩
  (have hb:=trivial;with_reducible repeat' (first|simp only[hb,Va.down,seval,aM0.down,h11,h12',afU,decide_false]|refine Qm ?_ ?_<;>intro hb|refine fd ?_|fail))
  exact kQ _ _ _ ⟨rfl,by simp[up,h2],by simp[up,h3],hA,hB,f,hC⟩
 ·rintro p rest i _ t h J Q' kJ kQ hx hi ⟨h0,h2,h3,h10,h11,h12',hA,hB,f,hC⟩
  have hdd:decide ((i:Int)<(w.parts.length:Int))=true:=decide_eq_true (by omega)
  have hww:=Sl hi (by unfold maxLen;omega)
  have hA1:=Qh hA
  have hC1:=Qh hC
  have hl2:=Qr hC
  have i1:((i:Int)<12)=True:=eq_true (by omega)
  have hpl:(To (pcI w d i)).length=24:=by rw[Rz];simp[pcI];omega
  have hS:=Ya hl2
  have i2:(i*2≤22)=True:=eq_true (by omega)
  have i3:(i*2≤23)=True:=eq_true (by omega)
  have hat:=bbR (d:=d) hi h12
  have hnx:=ap0 (d:=d) hx h12
  generalize hL:pcI w d i=L at *
  have s1:=acR L i 0 false p.opn hat
  have tk1:aeN (23-i*2) [AV.bool p.opn]=[AV.bool p.opn]:=ae5 (by simp;omega)
  have hat2:(L.set i (0,p.opn))[i]?=some (0,p.opn):=abZ (by have:=(apI.1 hat).1;exact this)
  have s2:=fun v=>vN (L.set i (0,p.opn)) i 0 v p.opn hat2
  have tk2:∀v,aeN (24-i*2) [AV.int .i64 v]=[AV.int .i64 v]:=fun v=>ae5 (by simp;omega)
  simp only[ag2,ag5]at s1 s2
  have hpl2:(To (L.set i (0,p.opn))).length=24:=by rw[Rz]at hpl ⊢;simpa using hpl
  have hg2:∀c l,(h.set 2 c++l)[2]?=some c:=fun c l=>by rw[abV (by simpa using hl2),abZ hl2]
  have hg0:∀c l,(h.set 2 c++l)[0]?=h[0]?:=fun c l=>by rw[abV (by simp;omega),aaB (by omega)]
  have hg1:∀c l,(h.set 2 c++l)[1]?=h[1]?:=fun c l=>by rw[abV (by simp;omega),aaB (by omega)]
  have hgs:∀c l c',(h.set 2 c++l).set 2 c'=h.set 2 c'++l:=fun c l c'=>by rw[Ya (by simpa using hl2),List.set_set]
  have ss2:∀v:Int,(L.set i (0,p.opn)).set i (v,p.opn)=L.set i (v,p.opn):=fun v=>List.set_set ..
  have nx:∀(v:Int) (t':Tm) (l':Qa),Qs p d=v→t' 0=.ptr 0 0 0∧t' 2=.ptr 1 0 0∧t' 3=.ptr 2 0 0∧t' 10=Rh 9 true w.nn (w.parts.map Qb.cells)∧t' 11=.int .i64 (w.parts.length:Nat)∧t' 12=.int .i64 ((i+1:Nat):Int)→J t' (h.set 2 (.live 24 true true [To (L.set i (v,p.opn))])++l'):=fun v t' l' hv ht=>by
   rw[←hv,hnx]
   exact kJ _ _ () ⟨ht.1,ht.2.1,ht.2.2.1,ht.2.2.2.1,ht.2.2.2.2.1,ht.2.2.2.2.2,by rw[hg0];exact hA,by rw[hg1];exact hB,true,hg2 _ _⟩ rfl
  (have hb:=trivial;with_reducible repeat' (first|simp only[hb,Va.down,seval,aM0.down,h0,h2,h3,h10,h11,h12',hdd,hww,hx,hA,hA1,hC,hC1,hS,Wn,i1,i2,i3,hpl,hpl2,s1,s2,tk1,tk2,ss2,hg2,hg0,hg1,hgs,Xg,Vz,aiJ,Qb.cells]|refine Qm ?_ ?_<;>intro hb|refine fd ?_|fail))
  ·refine Qq (nx 2 _ _ (by simp[Qs, *]) ⟨by simp[up,h0],by simp[up,h2],by simp[up,h3],by simp[up,h10],by simp[up,h11],by simp[up]⟩)
  ·refine Qq (nx 1 _ _ (by simp[Qs];simp_all) ⟨by simp[up,h0],by simp[up,h2],by simp[up,h3],by simp[up,h10],by simp[up,h11],by simp[up]⟩)
  ·refine Qq (nx 0 _ _ (by simp[Qs];simp_all) ⟨by simp[up,h0],by simp[up,h2],by simp[up,h3],by simp[up,h10],by simp[up,h11],by simp[up]⟩)
 ·exact⟨by simp[up,bF],by simp[up],by simp[up],by simp[up],by simp[up],by simp[up],rfl,rfl,false,rfl⟩
 obtain⟨rfl,h2,h3,hA,hB,f,hC⟩:=hk
 have hL:pcI w d w.parts.length=Qc w d:=by unfold pcI Qc;rw[ae5 (Nat.le_refl _)]
 rw[hL]at hC
 have hpl:(To (Qc w d)).length=24:=by rw[Rz];simp[Qc];omega
 have hpz:(To (acH 12 (0,false))).length=24:=by rw[Rz];simp
 have htk:aeN 24 (To (Qc w d))=To (Qc w d):=ae5 (by omega)
 have hl1:=Qr hB
 generalize To (acH 12 (0,false))=zs at *
 have hdz:ag0 24 zs=[]:=List.drop_eq_nil_iff.2 (by omega)
 have hcell:(To (Qc w d)).all AV.isCell=true:=by
  have:∀l:List (Int × Bool),(To l).all AV.isCell=true:=fun l=>by
   induction l with
   |nil=>rfl
   |cons x l ih=>simp only[To,ag1,List.all_append]at ih ⊢;rw[ih];rfl
  exact this _
 have hform:∀x∈To (Qc w d),(∃n,x=.int .i64 n)∨∃b,x=.bool b:=fun x hx=>by
  simp only[To,List.mem_flatMap,afC,List.not_mem_nil,or_false]at hx
  obtain⟨y,_,rfl|rfl⟩:=hx
  ·exact .inl ⟨_,rfl⟩
  ·exact .inr ⟨_,rfl⟩
 have hflat:(To (Qc w d)).all AV.flat=true:=apJ.2 fun x hx=>by rcases hform x hx with⟨n,rfl⟩|⟨b,rfl⟩<;>rfl
 have hrf:Rk.refL (Rk 7) [0] (To (Qc w d))=some (To (Qc w d),[0]):=Vt fun x hx=>by rcases hform x hx with⟨n,rfl⟩|⟨b,rfl⟩<;>rfl
 have hg1:∀c,(h.set 1 c)[1]?=some c:=fun c=>abZ hl1
 have hg0:∀c,(h.set 1 c)[0]?=h[0]?:=fun c=>aaB (by omega)
 generalize To (Qc w d)=ps at *
 (have hb:=trivial;with_reducible repeat' (first|simp only[hb,Va.down,seval,aM0.down,h2,h3,hA,hB,hC,hpl,hpz,htk,hdz,hcell,hflat,hrf,hg1,hg0]|refine Qm ?_ ?_<;>intro hb|refine fd ?_|fail))
def cR(N:Int)(p:Qb):Bool:=Yw p.one 0 (IntKind.i64.wrap (N-1))&&Yw p.other 0 (IntKind.i64.wrap (N-1))&& !(p.one==p.other)&& !(p.opn&& !p.valve)&&lF p.tested&&lF p.valid&&Yw p.test 1 1000&&Yw p.change 1 1000
def akU(w:Qf):Bool:=Yw w.rooms 2 8&&Yw w.need 0 12&&Yw (w.parts.length:Int) 1 12
def Wb(w:Qf):Bool:=akU w&&w.parts.all (cR w.rooms)
theorem a41(w:Qf)(hs:w.small):Ub.call (.fn 17) [.agg [.int .i64 w.rooms,.int .i64 w.need,Rh 9 true w.nn (w.parts.map Qb.cells)]] []=some (.ret (.bool (Wb w)),[]):=by
 have k1:=aaS w.rooms 2 8
 have k2:=aaS w.need 0 12
 have k3:=aaS (w.parts.length:Int) 1 12
 have hh:akU w=(Yw w.rooms 2 8&&Yw w.need 0 12&&Yw (w.parts.length:Int) 1 12):=rfl
 unfold Wb
 generalize Yw w.rooms 2 8=c1 at *
 generalize Yw w.need 0 12=c2 at *
 generalize Yw (w.parts.length:Int) 1 12=c3 at *
 cases c1
 ·rw[hh]
  (refine ce Tryz.func17 ?_;simp only[Tryz.f17];(have hb:=trivial;with_reducible repeat' (first|simp only[hb,Va.down,seval,afZ.down,k1,k2,k3,aaM]|refine Qm ?_ ?_<;>intro hb|refine fd ?_|fail)))
 cases c2
 ·rw[hh]
  (refine ce Tryz.func17 ?_;simp only[Tryz.f17];(have hb:=trivial;with_reducible repeat' (first|simp only[hb,Va.down,seval,afZ.down,k1,k2,k3,aaM]|refine Qm ?_ ?_<;>intro hb|refine fd ?_|fail)))
 cases c3
 ·rw[hh]
  (refine ce Tryz.func17 ?_;simp only[Tryz.f17];(have hb:=trivial;with_reducible repeat' (first|simp only[hb,Va.down,seval,afZ.down,k1,k2,k3,aaM]|refine Qm ?_ ?_<;>intro hb|refine fd ?_|fail)))
 rw[hh]
 simp only[Bool.and_self,Bool.true_and]
 (refine ce Tryz.func17 ?_;simp only[Tryz.f17];(have hb:=trivial;with_reducible repeat' (first|simp only[hb,Va.down,seval,afZ.down,k1,k2,k3,aaM]|refine Qm ?_ ?_<;>intro hb|refine fd ?_|fail)))
 refine Uj (lst 90 w.parts (fun i (zz:Unit) t h=>t 1=.ptr 0 0 0∧t 3=.int .i64 i∧(h[0]?=some (.live 3 false false [[.int .i64 w.rooms,.int .i64 w.need,Rh 9 true w.nn (w.parts.map Qb.cells)]]))) (fun rest zz=>rest.all (cR w.rooms)) (fun r e t h=>(e=.exit 0∧r=true)∨(e=.ret∧t 2=.bool false∧r=false)) ?_ ?_ () _ _ ?_) (fun e t h hk=>?_)
 ·rintro _ t h Q' kQ ⟨h1,h3,hA⟩
  (have hb:=trivial;with_reducible repeat' (first|simp only[hb,Va.down,seval,afZ.down,h1,h3,afU,decide_false,hA,aaM]|refine Qm ?_ ?_<;>intro hb|refine fd ?_|fail))
  exact kQ _ _ _ (.inl ⟨rfl,rfl⟩)
 ·rintro x rest i _ t h J Q' kJ kQ hx hi ⟨h1,h3,hA⟩
  have hd:decide ((i:Int)<(w.parts.length:Int))=true:=decide_eq_true (by omega)
  have hw:=Sl hi hs.parts
  have q1:=aaS x.one 0 (IntKind.i64.wrap (w.rooms-1))
  have q2:=aaS x.other 0 (IntKind.i64.wrap (w.rooms-1))
  have q4:=aq9 x.tested
  have q5:=aq9 x.valid
  have q6:=aaS x.test 1 1000
  have q7:=aaS x.change 1 1000
  have hp:cR w.rooms x=(Yw x.one 0 (IntKind.i64.wrap (w.rooms-1))&&Yw x.other 0 (IntKind.i64.wrap (w.rooms-1))&& !(x.one==x.other)&& !(x.opn&& !x.valve)&&lF x.tested&&lF x.valid&&Yw x.test 1 1000&&Yw x.change 1 1000):=rfl
  have hA1:=Qh hA
  generalize Yw x.one 0 (IntKind.i64.wrap (w.rooms-1))=d1 at *
  generalize Yw x.other 0 (IntKind.i64.wrap (w.rooms-1))=d2 at *
  cases hq3:(x.one==x.other)
  all_goals rw[hq3]at hp
  all_goals generalize lF x.tested=d4 at *
  all_goals generalize lF x.valid=d5 at *
  all_goals generalize Yw x.test 1 1000=d6 at *
  all_goals generalize Yw x.change 1 1000=d7 at *
  all_goals (have hb:=trivial;with_reducible repeat' (first|simp only[hb,Va.down,seval,afZ.down,h1,h3,hd,hx,hw,hA,hA1,q1,q2,hq3,q4,q5,q6,q7,Qb.cells,aaM]|refine Qm ?_ ?_<;>intro hb|refine fd ?_|fail))
  all_goals first|(refine kQ _ _ _ (.inr ⟨rfl,by simp[up],?_⟩);simp_all;done)|(refine Qq (kJ _ _ () ⟨?_,?_,hA1 _⟩ ?_);(simp[up,h1]);(simp[up]);(simp_all))
 ·exact⟨by simp[up,bF],by simp[up],rfl⟩
 rcases hk with⟨rfl,hr⟩|⟨rfl,h2,hr⟩
 ·rw[hr]
  (have hb:=trivial;with_reducible repeat' (first|simp only[hb,Va.down,seval,afZ.down]|refine Qm ?_ ?_<;>intro hb|refine fd ?_|fail))
 ·rw[hr]
  (have hb:=trivial;with_reducible repeat' (first|simp only[hb,Va.down,seval,afZ.down,h2]|refine Qm ?_ ?_<;>intro hb|refine fd ?_|fail))
theorem akR{w:Qf}(h:Wb w=true):∃N,mX w N∧w.parts.length≤12:=by
 simp only[Wb,akU,Yw,apL,decide_eq_true_eq,apJ]at h
 obtain⟨⟨⟨⟨h1,h2⟩,h3,h4⟩,h5,h6⟩,h7⟩:=h
 refine⟨w.rooms.toNat,⟨by omega,by omega,by omega,by omega,fun e=>by rw[e]at h5;simp at h5,fun p hp=>?_⟩,by omega⟩
 have:=h7 p hp
 simp only[cR,Yw,apL,decide_eq_true_eq,Bool.not_eq_true',beq_eq_false_iff_ne]at this
 obtain⟨⟨⟨⟨⟨⟨⟨a1,a2⟩,a3⟩,_⟩,_⟩,_⟩,_⟩,_⟩:=this
 rw[Re (by omega) (by omega)]at a1 a2
 refine⟨by omega,by omega,a3⟩
def idx{α:Type}(p:α→Bool):List α→Int→Int
 | [],_=> -1
 |x::l,i=>if p x=true then i else idx p l (i+1)
theorem abA{α:Type}(p:α→Bool):∀(l:List α) (i:Int),0≤i→decide (0≤idx p l i)=l.any p
 | [],i,_=>rfl
 |x::l,i,h=>by
  unfold idx
  split
  ·rename_i hp;simp[h,hp]
  ·rename_i hp;rw[abA p l (i+1) (by omega)];simp[hp]
theorem baM(p:Qb)(N:Int):Ub.call (.fn 85) [.agg [.int .i64 p.one,.int .i64 p.other,.bool p.valve,.bool p.opn,.int .i64 p.tested,.int .i64 p.valid,.bool p.bad,.int .i64 p.test,.int .i64 p.change],.int .i64 N] []=some (.ret (.bool (cR N p)),[]):=by
 have q1:=pW p.one 0 (IntKind.i64.wrap (N-1))
 have q2:=pW p.other 0 (IntKind.i64.wrap (N-1))
 have q4:=pW p.tested 0 5000
 have q5:=pW p.valid 0 5000
 have q6:=pW p.test 1 1000
 have q7:=pW p.change 1 1000
 have hp:cR N p=(Yw p.one 0 (IntKind.i64.wrap (N-1))&&Yw p.other 0 (IntKind.i64.wrap (N-1))&& !(p.one==p.other)&& !(p.opn&& !p.valve)&&Yw p.tested 0 5000&&Yw p.valid 0 5000&&Yw p.test 1 1000&&Yw p.change 1 1000):=rfl
 generalize Yw p.one 0 (IntKind.i64.wrap (N-1))=d1 at *
 generalize Yw p.other 0 (IntKind.i64.wrap (N-1))=d2 at *
 generalize Yw p.tested 0 5000=d4 at *
 generalize Yw p.valid 0 5000=d5 at *
 generalize Yw p.test 1 1000=d6 at *
 generalize Yw p.change 1 1000=d7 at *
 cases hq3:(p.one==p.other)
 all_goals rw[hq3]at hp
 all_goals rw[hp]
 all_goals (refine ce Tryz.func85 ?_;simp only[Tryz.f85];(have hb:=trivial;with_reducible repeat' (first|simp only[hb,Va.down,seval,boE.down,q1,q2,hq3,q4,q5,q6,q7]|refine Qm ?_ ?_<;>intro hb|refine fd ?_|fail)))
 all_goals simp_all
theorem aAZ(w:Qf)(x:Qb):Ub.call (.fn 84) [.agg [.int .i64 x.one,.int .i64 x.other,.bool x.valve,.bool x.opn,.int .i64 x.tested,.int .i64 x.valid,.bool x.bad,.int .i64 x.test,.int .i64 x.change],.ptr 0 0 0] [.live 3 false false [[.int .i64 w.rooms,.int .i64 w.need,Rh 9 true w.nn (w.parts.map Qb.cells)]]]=some (.ret (.bool (!cR w.rooms x)),[.live 3 false false [[.int .i64 w.rooms,.int .i64 w.need,Rh 9 true w.nn (w.parts.map Qb.cells)]]]):=by
 have h:=baM x w.rooms
 (refine ce Tryz.func84 ?_;simp only[Tryz.f84];(have hb:=trivial;with_reducible repeat' (first|simp only[hb,Va.down,seval,bnE.down,h]|refine Qm ?_ ?_<;>intro hb|refine fd ?_|fail)))
theorem aoD{l:List Qb}{nn:Bool}{g:Nat}{mm:Qf}{p:Qb→Bool}(hp:∀x∈l,Ub.call (.fn g) (.agg [.int .i64 x.one,.int .i64 x.other,.bool x.valve,.bool x.opn,.int .i64 x.tested,.int .i64 x.valid,.bool x.bad,.int .i64 x.test,.int .i64 x.change]::[.ptr 0 0 0]) [.live 3 false false [[.int .i64 mm.rooms,.int .i64 mm.need,Rh 9 true mm.nn (mm.parts.map Qb.cells)]]]=some (.ret (.bool (p x)),[.live 3 false false [[.int .i64 mm.rooms,.int .i64 mm.need,Rh 9 true mm.nn (mm.parts.map Qb.cells)]]]))(hl:l.length≤maxLen):
 Ub.call (.fn 105) [Rh 9 true nn (l.map Qb.cells),.func (.func g) [] [.ptr 0 0 0]] [.live 3 false false [[.int .i64 mm.rooms,.int .i64 mm.need,Rh 9 true mm.nn (mm.parts.map Qb.cells)]]]=some (.ret (.int .i64 (idx p l 0)),[.live 3 false false [[.int .i64 mm.rooms,.int .i64 mm.need,Rh 9 true mm.nn (mm.parts.map Qb.cells)]]]):=by
 (refine ce Tryz.func105 ?_;simp only[Tryz.f105];(have hb:=trivial;with_reducible repeat' (first|simp only[hb,Va.down,seval,agJ.down,aaM]|refine Qm ?_ ?_<;>intro hb|refine fd ?_|fail)))
 refine Uj (lst 19 l (fun i (s:Int) t h=>s=i∧h=[.live 3 false false [[.int .i64 mm.rooms,.int .i64 mm.need,Rh 9 true mm.nn (mm.parts.map Qb.cells)]]]∧t 0=Rh 9 true nn (l.map Qb.cells)∧t 1=.func (.func g) [] [.ptr 0 0 0]∧t 7=.int .i64 l.length∧t 8=.int .i64 i)
  (fun rest s=>idx p rest s) (fun r e t h=>h=[.live 3 false false [[.int .i64 mm.rooms,.int .i64 mm.need,Rh 9 true mm.nn (mm.parts.map Qb.cells)]]]∧((e=.exit 0∧r= -1)∨(e=.ret∧t 4=.int .i64 r))) ?_ ?_ 0 _ _ ?_) (fun e t h hk=>?_)
 ·rintro s t h Q' kQ ⟨rfl,rfl,h0,h1,h7,h8⟩
  (have hb:=trivial;with_reducible repeat' (first|simp only[hb,Va.down,seval,agJ.down,h0,h1,h7,h8,afU,decide_false]|refine Qm ?_ ?_<;>intro hb|refine fd ?_|fail))
  exact kQ _ _ _ ⟨rfl,.inl ⟨rfl,rfl⟩⟩
 ·rintro x rest i s t h J Q' kJ kQ hx hi ⟨rfl,rfl,h0,h1,h7,h8⟩
  have hpx:=hp x (apM hx)
  have hd:decide ((i:Int)<(l.length:Int))=true:=by simpa using hi
  (have hb:=trivial;with_reducible repeat' (first|simp only[hb,Va.down,seval,agJ.down,h0,h1,h7,h8,hd,hx,Qb.cells,hpx,Sl hi hl]|refine Qm ?_ ?_<;>intro hb|refine fd ?_|fail))
  ·exact kQ _ _ _ ⟨rfl,.inr ⟨rfl,by simp[up,idx,hb]⟩⟩
  ·exact Qq (kJ _ _ (i+1) ⟨by simp,rfl,by simp[up,h0],by simp[up,h1],by simp[up,h7],by simp[up]⟩ (by simp[idx,hb]))
 ·exact⟨rfl,rfl,by simp[up,bF],by simp[up,bF],by simp[up],by simp[up]⟩
 ·obtain⟨rfl,⟨rfl,hi⟩|⟨rfl,hi⟩⟩:=hk
  ·(have hb:=trivial;with_reducible repeat' (first|simp only[hb,Va.down,seval,agJ.down]|refine Qm ?_ ?_<;>intro hb|refine fd ?_|fail))
   rw[hi]
  ·(have hb:=trivial;with_reducible repeat' (first|simp only[hb,Va.down,seval,agJ.down,hi]|refine Qm ?_ ?_<;>intro hb|refine fd ?_|fail))
theorem aiB{l:List Qb}{nn:Bool}{g:Nat}{mm:Qf}{p:Qb→Bool}(hp:∀x∈l,Ub.call (.fn g) (.agg [.int .i64 x.one,.int .i64 x.other,.bool x.valve,.bool x.opn,.int .i64 x.tested,.int .i64 x.valid,.bool x.bad,.int .i64 x.test,.int .i64 x.change]::[.ptr 0 0 0]) [.live 3 false false [[.int .i64 mm.rooms,.int .i64 mm.need,Rh 9 true mm.nn (mm.parts.map Qb.cells)]]]=some (.ret (.bool (p x)),[.live 3 false false [[.int .i64 mm.rooms,.int .i64 mm.need,Rh 9 true mm.nn (mm.parts.map Qb.cells)]]]))(hl:l.length≤maxLen):
 Ub.call (.fn 83) [Rh 9 true nn (l.map Qb.cells),.func (.func g) [] [.ptr 0 0 0]] [.live 3 false false [[.int .i64 mm.rooms,.int .i64 mm.need,Rh 9 true mm.nn (mm.parts.map Qb.cells)]]]=some (.ret (.bool (l.any p)),[.live 3 false false [[.int .i64 mm.rooms,.int .i64 mm.need,Rh 9 true mm.nn (mm.parts.map Qb.cells)]]]):=by
 (refine ce Tryz.func83 ?_;simp only[Tryz.f83];(have hb:=trivial;with_reducible repeat' (first|simp only[hb,Va.down,seval,aoD hp hl,abA p l 0 (Int.le_refl 0)]|refine Qm ?_ ?_<;>intro hb|refine fd ?_|fail)))
theorem baN(w:Qf)(hs:w.small):Ub.call (.fn 61) [.agg [.int .i64 w.rooms,.int .i64 w.need,Rh 9 true w.nn (w.parts.map Qb.cells)]] []=some (.ret (.bool (Wb w)),[]):=by
 have k1:=pW w.rooms 2 8
 have k2:=pW w.need 0 12
 have k3:=pW (w.parts.length:Int) 1 12
 have hcM:=aiB (mm:=w) (l:=w.parts) (nn:=w.nn) (g:=84) (p:=fun x=> !cR w.rooms x) (fun x _=>aAZ w x) hs.parts
 have q1:w.parts.all (cR w.rooms)= !(w.parts.any fun x=> !cR w.rooms x):=List.all_eq_not_any_not
 have hh:akU w=(Yw w.rooms 2 8&&Yw w.need 0 12&&Yw (w.parts.length:Int) 1 12):=rfl
 unfold Wb
 rw[hh,q1]
 generalize Yw w.rooms 2 8=c1 at *
 generalize Yw w.need 0 12=c2 at *
 generalize Yw (w.parts.length:Int) 1 12=c3 at *
 generalize(w.parts.any fun x=> !cR w.rooms x)=c4 at *
 cases c1<;>cases c2<;>cases c3
 all_goals (refine ce Tryz.func61 ?_;simp only[Tryz.f61];(have hb:=trivial;with_reducible repeat' (first|simp only[hb,Va.down,seval,bnM.down,k1,k2,k3,hcM,aaM]|refine Qm ?_ ?_<;>intro hb|refine fd ?_|fail)))
 all_goals simp
theorem ak8(w:Qf)(hs:w.small)(d:Int):Ub.call (.fn 34) [.agg [.int .i64 w.rooms,.int .i64 w.need,Rh 9 true w.nn (w.parts.map Qb.cells)],.int .i64 d] []=some (.ret (.tup [.ptr 0 0 0,.bool (Wb w&&lF d)]),[.live 4 false false [[.int .i64 w.rooms,.int .i64 w.need,Rh 9 true w.nn (w.parts.map Qb.cells),.int .i64 d]]]):=by
 have h:=baN w hs
 have hd:=pW d 0 5000
 rw[show Yw d 0 5000=lF d from rfl]at hd
 generalize Wb w=c at *
 generalize lF d=e at *
 cases c
 ·(refine ce Tryz.func34 ?_;simp only[Tryz.f34];(have hb:=trivial;with_reducible repeat' (first|simp only[hb,Va.down,seval,blT.down,h,hd]|refine Qm ?_ ?_<;>intro hb|refine fd ?_|fail)))
 ·(refine ce Tryz.func34 ?_;simp only[Tryz.f34];(have hb:=trivial;with_reducible repeat' (first|simp only[hb,Va.down,seval,blT.down,h,hd]|refine Qm ?_ ?_<;>intro hb|refine fd ?_|fail)))
def QS(v:AV)(q:List Nat)(H:Qa)(p:Nat):Prop:=
 (v=.nils∧q=[])∨∃b w rows r,v=.slr 1 b r q.length∧H[b]?=some (.live 1 true w rows)∧b≠p∧rows.drop r=q.map Zv∧r+q.length=rows.length
def dB:AV→List Nat
 | .slr _ b _ _=>[b]
 |_=>[]
theorem kG{x:Option (List AV)}{vs:List AV}{h:Qa}{Q:Tz→Qa→Prop}(hx:x=some vs)(k:Q (.ret (bP vs)) h):RtS x h Q:=by subst hx;exact k
theorem aw8{H:Qa}{p:Nat}{fl w:Bool}{v:AV}{q:List Nat}(x:Nat)(hp:H[p]?=some (.live 1 fl w [[v]]))(hQ:QS v q H p)(hq:q.length≤100000000):
 ShQ Ub 75 [.ptr p 0 0,.int .i64 (x:Int)] H fun o G=>o=.ret (.tup [])∧∃v' fl',G[p]?=some (.live 1 fl' true [[v']])∧QS v' (q++[x]) G p∧Yg (p::dB v) H G∧(∀b∈dB v,G[b]?=some .dead)∧(Qy H=true→Qy G=true)∧∀b∈dB v',H.length≤b:=by
 have hpl:=Qr hp
 refine aiM rfl Tryz.func75 rfl rfl ?_
 simp only[Tryz.f75]
 refine Uk (fun KK iN hK=>?_)
 have hA:=Qh hp
 have hS:=Ya hpl
 rcases hQ with⟨rfl,rfl⟩|⟨b,w',rows,r,rfl,hrb,hbp,hd,hl⟩
 ·(have hb:=trivial;with_reducible repeat' (first|simp only[hb,Va.down,seval,aEZ.down,hp,hA,hS]|refine Qm ?_ ?_<;>intro hb|refine fd ?_|fail))
  refine hK _ ?_
  rw[cD]
  refine kG (vs:=[]) (by simp only[Va.down,seval,aEZ.down]) ⟨rfl,.slr 1 (H.length+1) 0 1,false,?_,.inr ⟨H.length+1,false,[Zv x],0,rfl,?_,by omega,rfl,rfl⟩,⟨by simp,fun b hb1 hn=>?_⟩,fun b hb1=>by simp[dB]at hb1,fun hqq=>Uu (Uw hqq p rfl) rfl,fun b hb1=>by simp[dB]at hb1;omega⟩
  ·rw[abV (by simpa using hpl),abZ hpl]
  ·rw[Vz];rfl
  ·rw[abV (by simpa using hb1),aaB (fun e=>hn (by rw[e];exact ab9 ..))]
 ·have hbl:=Qr hrb
  have hB:=Qh hrb
  have hSb:=Ya hbl
  have h39:(q.length+1≤549755813888)=True:=eq_true (by omega)
  have hg:∀l,(H.set b .dead++l)[p]?=some (.live 1 fl w [[.slr 1 b r q.length]]):=fun l=>by
   rw[abV (by simpa using hpl),aaB hbp];exact hp
  have hg2:∀l c,(H.set b .dead++l).set p c=(H.set b .dead).set p c++l:=fun l c=>Ya (by simpa using hpl) l c
  (have hb:=trivial;with_reducible repeat' (first|simp only[hb,Va.down,seval,aEZ.down,hp,hA,hS,hrb,hB,hSb,hd,hl,h39,hg,hg2,Xg,Vz,aiJ,aaM]|refine Qm ?_ ?_<;>intro hb|refine fd ?_|fail))
  have hsl:((H.set b .dead).set p (CB.live 1 false true [[AV.slr 1 (H.length+1) 0 (q.length+1)]])).length=H.length:=by simp
  refine hK _ ?_
  rw[cD]
  refine kG (vs:=[]) (by simp only[Va.down,seval,aEZ.down]) ⟨rfl,.slr 1 (H.length+1) 0 (q.length+1),false,?_,.inr ⟨H.length+1,false,(q++[x]).map Zv,0,by simp,?_,by omega,rfl,by simp⟩,⟨by simp,fun c hc hn=>?_⟩,fun c hc=>?_,fun hqq=>Uu (Uw (Uw hqq b rfl) p rfl) rfl,fun c hc=>by simp[dB]at hc;omega⟩
  ·rw[abV (by omega),abZ (by simpa using hpl)]
  ·rw[afO (by omega),hsl,Nat.add_sub_cancel_left];simp[Zv]
  ·have n1:c≠p:=fun e=>hn (by rw[e];exact ab9 ..)
   have n2:c≠b:=fun e=>hn (by rw[e];simp[dB])
   rw[abV (by omega),aaB (fun e=>n1 e.symm),aaB (fun e=>n2 e.symm)]
  ·simp[dB]at hc;subst hc
   rw[abV (by omega),aaB (fun e=>hbp e.symm),abZ hbl]
theorem bbZ(b r k:Nat):slx Tryz.prog 50 (some (.slr 1 b r (k+1))) (some (some (.int .i64 1))) (some none)=some (.ret (.slr 1 b (r+1) k),[]):=by
 have hz:aL Tryz.prog 3=some 1:=by kernel_rfl
 simp only[slx,akD,vL,Tryz.underlying50,hz,Ye]
 simp[Ye,r1]
 omega
theorem ayQ{H:Qa}{p:Nat}{fl w:Bool}{v:AV}(hp:H[p]?=some (.live 1 fl w [[v]]))(hQ:QS v [] H p):
 Ub.call (.sh 76) [.ptr p 0 0] H=some (.ret (.tup [.int .i64 0,.bool false]),H):=by
 rcases hQ with⟨rfl,_⟩|⟨b,w',rows,r,rfl,hrb,hbp,hd,hl⟩
 ·(refine csh Tryz.func76 ?_;simp only[Tryz.f76];(have hb:=trivial;with_reducible repeat' (first|simp only[hb,Va.down,seval,aC4.down,hp]|refine Qm ?_ ?_<;>intro hb|refine fd ?_|fail)))
 ·simp only[apN]at hp
  (refine csh Tryz.func76 ?_;simp only[Tryz.f76];(have hb:=trivial;with_reducible repeat' (first|simp only[hb,Va.down,seval,aC4.down,hp]|refine Qm ?_ ?_<;>intro hb|refine fd ?_|fail)))
theorem aAO{H:Qa}{p:Nat}{fl w:Bool}{v:AV}{x:Nat}{q:List Nat}(hp:H[p]?=some (.live 1 fl w [[v]]))(hQ:QS v (x::q) H p)(hq:q.length≤100000000):
 ShQ Ub 76 [.ptr p 0 0] H fun o G=>o=.ret (.tup [.int .i64 (x:Int),.bool true])∧∃v' fl',G[p]?=some (.live 1 fl' true [[v']])∧QS v' q G p∧Yg [p] H G∧dB v'=dB v∧(Qy H=true→Qy G=true):=by
 have hpl:=Qr hp
 rcases hQ with⟨_,h⟩|⟨b,w',rows,r,rfl,hrb,hbp,hd,hl⟩
 ·cases h
 have hr0:rows[r]?=some [.int .i64 (x:Nat)]:=by
  have:=congrArg (·[0]?) hd
  simpa [Zv]using this
 have hd2:rows.drop (r+1)=q.map Zv:=by
  have:=congrArg (·.drop 1) hd
  simpa [List.drop_drop]using this
 simp only[List.length_cons]at hl hp
 have h1:decide (((q.length+1:Nat):Int)=0)=false:=decide_eq_false (by omega)
 have h2:((((q.length+1:Nat):Int))==0)=false:=by simp;omega
 have h3:((0:Int)<((q.length+1:Nat):Int))=True:=eq_true (by omega)
 have h4:((1:Int)≤((q.length+1:Nat):Int))=True:=eq_true (by omega)
 refine aiM rfl Tryz.func76 rfl rfl ?_
 simp only[Tryz.f76]
 refine Uk (fun KK iN hK=>?_)
 (have hb:=trivial;with_reducible repeat' (first|simp only[hb,Va.down,seval,aC4.down,hp,hrb,hr0,h1,h2,h3,h4,bbZ]|refine Qm ?_ ?_<;>intro hb|refine fd ?_|fail))
 refine hK _ ?_
 rw[ai7]
 refine kG (vs:=[.int .i64 (x:Int),.bool true]) (by simp only[Va.down,seval,aC4.down]) ⟨rfl,.slr 1 b (r+1) q.length,false,abZ hpl,.inr ⟨b,w',rows,r+1,rfl,?_,hbp,hd2,by omega⟩,⟨by simp,fun b' _ hn=>aaB (fun e=>hn (by simp[e]))⟩,rfl,fun hqq=>Uw hqq p rfl⟩
 rw[aaB (fun e=>hbp e.symm)];exact hrb
theorem aL1{H:Qa}{p:Nat}{fl w:Bool}{v:AV}{q:List Nat}(x:Nat)(hp:H[p]?=some (.live 1 fl w [[v]]))(hQ:QS v q H p)(hq:q.length≤100000000):
 ShQ Ub 79 [.ptr p 0 0,.int .i64 (x:Int)] H fun o G=>o=.ret (.tup [])∧∃v' fl',G[p]?=some (.live 1 fl' true [[v']])∧QS v' (x::q) G p∧Yg [p] H G∧(Qy H=true→Qy G=true)∧∀b∈dB v',H.length≤b:=by
 have hpl:=Qr hp
 have hA:=Qh hp
 have hS:=Ya hpl
 have keep:∀c l,Yg [p] H (H.set p c++l):=fun c l=>⟨by simp,fun b hb1 hn=>by rw[abV (by simpa using hb1),aaB (fun e=>hn (by simp[e]))]⟩
 have hg:∀c l,(H.set p c++l)[p]?=some c:=fun c l=>by rw[abV (by simpa using hpl),abZ hpl]
 refine aiM rfl Tryz.func79 rfl rfl ?_
 simp only[Tryz.f79]
 refine Uk (fun KK iN hK=>?_)
 rcases hQ with⟨rfl,rfl⟩|⟨b,w',rows,r,rfl,hrb,hbp,hd,hl⟩
 ·(have hb:=trivial;with_reducible repeat' (first|simp only[hb,Va.down,seval,alM.down,hp,hA,hS]|refine Qm ?_ ?_<;>intro hb|refine fd ?_|fail))
  refine hK _ ?_
  rw[cD]
  refine kG (vs:=[]) (by simp only[Va.down,seval,alM.down]) ⟨rfl,_,_,hg _ _,.inr ⟨H.length,false,[Zv x],0,rfl,?_,by omega,rfl,rfl⟩,keep _ _,fun hqq=>Uu (Uw hqq p rfl) rfl,fun b hb1=>by simp[dB]at hb1;omega⟩
  rw[Xg];rfl
 ·have hB:=Qh hrb
  cases q with
  |nil=>
   simp only[apN]at hl hp hA
   have hrl:(r≤rows.length)=True:=eq_true (by omega)
   (have hb:=trivial;with_reducible repeat' (first|simp only[hb,Va.down,seval,alM.down,hp,hA,hS,hrb,hB,hrl]|refine Qm ?_ ?_<;>intro hb|refine fd ?_|fail))
   refine hK _ ?_
   rw[cD]
   refine kG (vs:=[]) (by simp only[Va.down,seval,alM.down]) ⟨rfl,_,_,hg _ _,.inr ⟨H.length,false,[Zv x],0,rfl,?_,by omega,rfl,rfl⟩,keep _ _,fun hqq=>Uu (Uw hqq p rfl) rfl,fun b hb1=>by simp[dB]at hb1;omega⟩
   rw[Xg];rfl
  |cons y q=>
   have hq2:(1+(q.length+1)≤549755813888)=True:=eq_true (by simp at hq;omega)
   have hrl:(r+(q.length+1)≤rows.length)=True:=eq_true (by simp at hl;omega)
   have htk:aeN q.length (List.map Zv q)=List.map Zv q:=ae5 (by simp)
   (have hb:=trivial;with_reducible repeat' (first|simp only[hb,Va.down,seval,alM.down,hp,hA,hS,hrb,hB,hd,hq2,hrl,htk,Xg,Vz,aiJ,aaM]|refine Qm ?_ ?_<;>intro hb|refine fd ?_|fail))
   refine hK _ ?_
   rw[cD]
   refine kG (vs:=[]) (by simp only[Va.down,seval,alM.down]) ⟨rfl,_,_,hg _ _,.inr ⟨H.length+1,false,(x::y::q).map Zv,0,by simp;omega,?_,by omega,rfl,by simp⟩,keep _ _,fun hqq=>Uu (Uw hqq p rfl) rfl,fun b hb1=>by simp[dB]at hb1;omega⟩
   rw[Vz];rfl
theorem boF(w:Qf)(d r:Int)(wf:Bool):Ub.call (.fn 77) [.ptr 0 0 0,.int .i64 r] [.live 4 false wf [[.int .i64 w.rooms,.int .i64 w.need,Rh 9 true w.nn (w.parts.map Qb.cells),.int .i64 d]]]=some (.ret (.func (.func 93) [] [.ptr 1 0 0,.ptr 2 0 0]),[.live 4 false wf [[.int .i64 w.rooms,.int .i64 w.need,Rh 9 true w.nn (w.parts.map Qb.cells),.int .i64 d]],.live 1 false false [[.ptr 0 0 0]],.live 1 true false [[.int .i64 r]]]):=by
 (refine ce Tryz.func77 ?_;simp only[Tryz.f77];(have hb:=trivial;with_reducible repeat' (first|simp only[hb,Vc.down,seval]|refine Qm ?_ ?_<;>intro hb|refine fd ?_|fail)))
theorem boL{w:Qf}{N:Nat}(hw:mX w N){d r:Int}{y:AV}{lb rb kb:Nat}(dM:Nat→Qa→Prop)
 (hL:∀i h,dM i h→∃w1,h[lb]?=some (.live 1 false w1 [[.ptr kb 0 0]])) (hK:∀i h,dM i h→∃w2,h[kb]?=some (.live 4 false w2 [[.int .i64 w.rooms,.int .i64 w.need,Rh 9 true w.nn (w.parts.map Qb.cells),.int .i64 d]])) (hR:∀i h,dM i h→∃w3,h[rb]?=some (.live 1 true w3 [[.int .i64 r]]))
 (hA:∀i h fl wf (rows:List (List AV)),dM i h→dM i (h++[.live 9 fl wf rows]))
 (hS:∀(i:Nat) (p:Qb) (u:Int) h,w.parts[i]?=some p→((p.one=r∧u=p.other)∨(p.one≠r∧p.other=r∧u=p.one))→dM i h→∃es,cl Ub h (some y) (some [.int .i64 i,.int .i64 u])=some (.ret (.bool true),es)∧dM (i+1) (Rj h es))
 (hN:∀(i:Nat) (p:Qb) h,w.parts[i]?=some p→p.one≠r→p.other≠r→dM i h→dM (i+1) h)
 {h0:Qa} (h0I:dM 0 h0):ShQ Ub 93 [y,.ptr lb 0 0,.ptr rb 0 0] h0 fun o h'=>o=.ret (.tup [])∧dM w.parts.length h':=by
 obtain⟨w1,hl⟩:=hL _ _ h0I
 obtain⟨w2,hk0⟩:=hK _ _ h0I
 have hlen:=hw.len
 refine aiM rfl Tryz.func93 rfl rfl ?_
 simp only[Tryz.f93]
 (have hb:=trivial;with_reducible repeat' (first|simp only[hb,Vc.down,seval,amC.down,hl,hk0,aaM]|refine Qm ?_ ?_<;>intro hb|refine fd ?_|fail))
 refine Uj (lst 41 w.parts (fun i (_:Unit) t h=>t 0=y∧t 1=.ptr lb 0 0∧t 2=.ptr rb 0 0∧t 11=Rh 9 true w.nn (w.parts.map Qb.cells)∧t 12=.int .i64 (w.parts.length:Nat)∧t 13=.int .i64 (i:Int)∧dM i h) (fun _ _=>()) (fun _ e t h=>e=.exit 0∧dM w.parts.length h) ?_ ?_ () _ _ ?_) (fun e t h hk=>?_)
 ·rintro _ t h Q' kQ ⟨g0,g1,g2,g11,g12,g13,hI⟩
  (have hb:=trivial;with_reducible repeat' (first|simp only[hb,Vc.down,seval,amC.down,g12,g13,afU,decide_false]|refine Qm ?_ ?_<;>intro hb|refine fd ?_|fail))
  exact kQ _ _ _ ⟨rfl,hI⟩
 ·rintro p rest i _ t h J Q' kJ kQ hx hi ⟨g0,g1,g2,g11,g12,g13,hI⟩
  have hdd:decide ((i:Int)<(w.parts.length:Int))=true:=decide_eq_true (by omega)
  have hww:=Sl hi (by unfold maxLen;omega)
  have hpo:=hw.part p (apM hx)
  obtain⟨w3,hr⟩:=hR _ _ hI
  have hr1:=Qh hr
  have hv1:=hA _ _ true true [p.cells] hI
  have c1:decide ((0:Int)≤p.other)=true:=decide_eq_true hpo.2.1.1
  have c2:decide ((0:Int)≤p.one)=true:=decide_eq_true hpo.1.1
  have c3:decide ((0:Int)≤ -1)=false:=rfl
  by_cases e1:p.one=r
  ·have q1:(r==p.one)=true:=by simp[e1]
   obtain⟨es,hes,hv2⟩:=hS i p p.other _ hx (.inl ⟨e1,rfl⟩) hv1
   simp only[Qb.cells]at hes hv2
   (have hb:=trivial;with_reducible repeat' (first|simp only[hb,Vc.down,seval,amC.down,g0,g1,g2,g11,g12,g13,hdd,hww,hx,hr,hr1,q1,c1,hes,Qb.cells]|refine Qm ?_ ?_<;>intro hb|refine fd ?_|fail))
   exact Qq (kJ _ _ () ⟨by simp[up,g0],by simp[up,g1],by simp[up,g2],by simp[up,g11],by simp[up,g12],by simp[up],hv2⟩ rfl)
  ·have q1:(r==p.one)=false:=by simp;exact fun e=>e1 e.symm
   by_cases e2:p.other=r
   ·have q2:(r==p.other)=true:=by simp[e2]
    obtain⟨es,hes,hv2⟩:=hS i p p.one _ hx (.inr ⟨e1,e2,rfl⟩) hv1
    simp only[Qb.cells]at hes hv2
    (have hb:=trivial;with_reducible repeat' (first|simp only[hb,Vc.down,seval,amC.down,g0,g1,g2,g11,g12,g13,hdd,hww,hx,hr,hr1,q1,q2,c2,hes,Qb.cells]|refine Qm ?_ ?_<;>intro hb|refine fd ?_|fail))
    exact Qq (kJ _ _ () ⟨by simp[up,g0],by simp[up,g1],by simp[up,g2],by simp[up,g11],by simp[up,g12],by simp[up],hv2⟩ rfl)
   ·have q2:(r==p.other)=false:=by simp;exact fun e=>e2 e.symm
    have hv2:=hN i p _ hx e1 e2 hv1
    simp only[Qb.cells]at hv2
    (have hb:=trivial;with_reducible repeat' (first|simp only[hb,Vc.down,seval,amC.down,g0,g1,g2,g11,g12,g13,hdd,hww,hx,hr,hr1,q1,q2,c3,Qb.cells]|refine Qm ?_ ?_<;>intro hb|refine fd ?_|fail))
    exact Qq (kJ _ _ () ⟨by simp[up,g0],by simp[up,g1],by simp[up,g2],by simp[up,g11],by simp[up,g12],by simp[up],hv2⟩ rfl)
 ·exact⟨by simp[up,bF],by simp[up,bF],by simp[up,bF],by simp[up],by simp[up],by simp[up],h0I⟩
 obtain⟨rfl,hI⟩:=hk
 (have hb:=trivial;with_reducible repeat' (first|simp only[hb,Vc.down,seval,amC.down]|refine Qm ?_ ?_<;>intro hb|refine fd ?_|fail))
 exact hI
theorem QS.cln{v:AV}{q:List Nat}{H:Qa}{p:Nat}(h:QS v q H p):QS v q (Xe H) p:=by
 rcases h with h|⟨b,w,rows,r,h1,h2,h3,h4,h5⟩
 ·exact .inl h
 ·exact .inr ⟨b,false,rows,r,h1,Ux h2,h3,h4,h5⟩
theorem QS.lt{v:AV}{q:List Nat}{H:Qa}{p:Nat}(h:QS v q H p):∀b∈dB v,b<H.length∧∃w rows,H[b]?=some (.live 1 true w rows):=by
 rcases h with⟨rfl,_⟩|⟨b,w,rows,r,rfl,h2,_⟩
 ·intro b hb1;simp[dB]at hb1
 ·intro b' hb1;simp[dB]at hb1;subst hb1;exact⟨Qr h2,w,rows,h2⟩
theorem aRX{h:Qa}(hq:Qy h=true){p:Nat}{fl w:Bool}{v:AV}{q:List Nat}(x:Nat)(hp:h[p]?=some (.live 1 fl w [[v]]))(hQ:QS v q h p)(hl:q.length≤100000000):
 ∃es M,cl Ub h (some (.func (.func 75) [] [])) (some [.ptr p 0 0,.int .i64 (x:Int)])=some (.ret (.tup []),es)∧Rj h es=M∧h.length≤M.length∧Qy M=true∧(∃v' fl',M[p]?=some (.live 1 fl' true [[v']])∧QS v' (q++[x]) M p∧∀b∈dB v',h.length≤b)∧(∀b c,b∉p::dB v→h[b]?=some c→M[b]?=some c)∧∀b∈dB v,M[b]?=some .dead:=by
 have hX:∀G:Qa,(∃f row,G[p]?=some (.live 1 f true row))→(∀b∈dB v,G[b]?=some .dead)→∀b∈p::dB v,b<h.length∧∀c0 c,h[b]?=some c0→G[b]?=some c→c0.isLive=true∧c0.quiet c=false:=fun G g1 g2 b hb1=>by
  rcases afC.1 hb1 with rfl|hb1
  ·obtain⟨f,row,g1⟩:=g1
   refine⟨Qr hp,fun c0 c k1 k2=>?_⟩
   rw[hp]at k1;rw[g1]at k2;cases k1;cases k2;exact⟨rfl,rfl⟩
  ·obtain⟨h1,w',rows,h2⟩:=hQ.lt b hb1
   refine⟨h1,fun c0 c k1 k2=>?_⟩
   rw[h2]at k1;rw[g2 b hb1]at k2;cases k1;cases k2;exact⟨rfl,rfl⟩
 obtain⟨o,G,es,e1,e2,rfl,v',fl',k1,k2,K,k4,k5,k6⟩:=abR rfl rfl (aw8 x (Ux hp) hQ.cln hl) (fun o G hQ=>by
  obtain⟨_,v',fl',k1,k2,K,k4,_⟩:=hQ
  exact(Yo hq K (hX G ⟨_,_,k1⟩ k4)).1)
 have X:=hX G ⟨_,_,k1⟩ k4
 obtain⟨_,m1,m2,m3,m4⟩:=Yo hq K X
 rw[Su]at k6
 have hle:h.length≤G.length:=by have:=K.len;rwa[Su]at this
 refine⟨es,_,e1,e2,by rw[m1];exact hle,kH hq K X (k5 (eY hq)),⟨v',fl',m4 p (ab9 ..) _ k1,?_,k6⟩,fun b c hn hc=>by rw[m3 b (Qr hc) hn];exact hc,fun b hb=>m4 b (ai9 _ hb) _ (k4 b hb)⟩
 rcases k2 with h1|⟨b,w',rows,r,h1,h2,h3,h4,h5⟩
 ·exact .inl h1
 ·exact .inr ⟨b,w',rows,r,h1,by rw[m2 b (k6 b (by rw[h1];simp[dB]))];exact h2,h3,h4,h5⟩
theorem akV{h:Qa}{p:Nat}{fl w:Bool}{v:AV}(hp:h[p]?=some (.live 1 fl w [[v]]))(G:Qa)(g1:∃f row,G[p]?=some (.live 1 f true row)):∀b∈[p],b<h.length∧∀c0 c,h[b]?=some c0→G[b]?=some c→c0.isLive=true∧c0.quiet c=false:=fun b hb1=>by
 simp at hb1;subst hb1
 obtain⟨f,row,g1⟩:=g1
 refine⟨Qr hp,fun c0 c k1 k2=>?_⟩
 rw[hp]at k1;rw[g1]at k2;cases k1;cases k2;exact⟨rfl,rfl⟩
theorem blK{h:Qa}(hq:Qy h=true){p:Nat}{fl w:Bool}{v:AV}{q:List Nat}(x:Nat)(hp:h[p]?=some (.live 1 fl w [[v]]))(hQ:QS v q h p)(hl:q.length≤100000000):
 ∃es M,cl Ub h (some (.func (.func 79) [] [])) (some [.ptr p 0 0,.int .i64 (x:Int)])=some (.ret (.tup []),es)∧Rj h es=M∧h.length≤M.length∧Qy M=true∧(∃v' fl',M[p]?=some (.live 1 fl' true [[v']])∧QS v' (x::q) M p∧∀b∈dB v',h.length≤b)∧∀b c,b≠p→h[b]?=some c→M[b]?=some c:=by
 obtain⟨o,G,es,e1,e2,rfl,v',fl',k1,k2,K,k5,k6⟩:=abR rfl rfl (aL1 x (Ux hp) hQ.cln hl) (fun o G hQ=>by
  obtain⟨_,v',fl',k1,k2,K,_⟩:=hQ
  exact(Yo hq K (akV hp G ⟨_,_,k1⟩)).1)
 have X:=akV hp G ⟨_,_,k1⟩
 obtain⟨_,m1,m2,m3,m4⟩:=Yo hq K X
 rw[Su]at k6
 have hle:h.length≤G.length:=by have:=K.len;rwa[Su]at this
 refine⟨es,_,e1,e2,by rw[m1];exact hle,kH hq K X (k5 (eY hq)),⟨v',fl',m4 p (ab9 ..) _ k1,?_,k6⟩,fun b c hn hc=>by rw[m3 b (Qr hc) (by simpa using hn)];exact hc⟩
 rcases k2 with h1|⟨b,w',rows,r,h1,h2,h3,h4,h5⟩
 ·exact .inl h1
 ·exact .inr ⟨b,w',rows,r,h1,by rw[m2 b (k6 b (by rw[h1];simp[dB]))];exact h2,h3,h4,h5⟩
theorem bl6{h:Qa}(hq:Qy h=true){p:Nat}{fl w:Bool}{v:AV}(hp:h[p]?=some (.live 1 fl w [[v]]))(hQ:QS v [] h p):
 cl Ub h (some (.func (.func 76) [] [])) (some [.ptr p 0 0])=some (.ret (.tup [.int .i64 0,.bool false]),[]):=
 aK0 rfl rfl (ayQ (Ux hp) hQ.cln) hq
theorem aSI{h:Qa}(hq:Qy h=true){p:Nat}{fl w:Bool}{v:AV}{x:Nat}{q:List Nat}(hp:h[p]?=some (.live 1 fl w [[v]]))(hQ:QS v (x::q) h p)(hl:q.length≤100000000):
 ∃es M,cl Ub h (some (.func (.func 76) [] [])) (some [.ptr p 0 0])=some (.ret (.tup [.int .i64 (x:Int),.bool true]),es)∧Rj h es=M∧h.length≤M.length∧Qy M=true∧(∃v' fl',M[p]?=some (.live 1 fl' true [[v']])∧QS v' q M p∧dB v'=dB v)∧∀b c,b≠p→h[b]?=some c→M[b]?=some c:=by
 obtain⟨o,G,es,e1,e2,rfl,v',fl',k1,k2,K,k4,k5⟩:=abR rfl rfl (aAO (Ux hp) hQ.cln hl) (fun o G hQ=>by
  obtain⟨_,v',fl',k1,k2,K,_⟩:=hQ
  exact(Yo hq K (akV hp G ⟨_,_,k1⟩)).1)
 have X:=akV hp G ⟨_,_,k1⟩
 obtain⟨_,m1,m2,m3,m4⟩:=Yo hq K X
 have hle:h.length≤G.length:=by have:=K.len;rwa[Su]at this
 have same:∀b c,b≠p→h[b]?=some c→(bH h G)[b]?=some c:=fun b c hn hc=>by rw[m3 b (Qr hc) (by simpa using hn)];exact hc
 refine⟨es,_,e1,e2,by rw[m1];exact hle,kH hq K X (k5 (eY hq)),⟨v',fl',m4 p (ab9 ..) _ k1,?_,k4⟩,same⟩
 rcases k2 with h1|⟨b,w',rows,r,h1,h2,h3,h4,h5⟩
 ·exact .inl h1
 ·have hbv:b∈dB v:=by rw[←k4,h1];simp[dB]
  obtain⟨_,w0,rows0,hh⟩:=hQ.lt b hbv
  have hr:(hf (bH h G) b).bind Qw=(hf G b).bind Qw:=anK hq K X b
  have hM:=same b _ h3 hh
  have e3:rows0=rows:=by
   have a1:((bH h G)[b]?).bind Qw=(G[b]?).bind Qw:=hr
   rw[hM,h2]at a1
   simp[Qw]at a1;exact a1
  subst e3
  exact .inr ⟨b,w0,rows0,r,h1,hM,h3,h4,h5⟩
theorem aJB{vs:List AV}{b:Nat}{h:Qa}{ps:List Nat}{asg body:Code}{tm:List AV}{st:Yl}{Q:Tz→Qa→Prop}(hb:h[b]?=some (.lp ps asg body tm st))(hl:ps.length=vs.length)
 (he:RnE b Q (asH Ub Tryz.prog b body (Sm Ub Tryz.prog 5000 asg [] ⟨bO tm ps vs,h⟩))):RnQ Ub (vs++[.yl b]) h Q:=RnQ.start (pr:=pr) hb hl he
theorem aOB{O:Ue}{H:Qa}{b:Nat}{vs:List AV}{Q:Tz→Qa→Prop}(K:RnQ O (vs++[.yl b]) (Xe H) Q)(ok:∀o G,Q o G→aeA H G):
 ∃o G es,cl O H (some (.yl b)) (some vs)=some (o,es)∧Rj H es=bH H G∧Q o G:=by
 obtain⟨o,G,hc,hq⟩:=K
 obtain⟨es,e1,e2⟩:=kL H G [] (ok o G hq)
 refine⟨o,G,es,?_,by simpa using e2,hq⟩
 rw[bkU,hc,vK]
 have e1':Si 0 H G=some es:=e1
 rw[e1'];rfl
def Xt:Nat:=1048576
def DiH(LK:CB)(e:Bool)(ps:List AV)(N:Nat)(h:Qa)(dd q K:List Nat):Prop:=∃f v fl w,
 h[0]?=some LK∧h[1]?=some (.live 24 true false [ps])∧h[2]?=some (.live 1 true f (dd.map Zv))∧h[3]?=some (.live 1 false e [[.slr 1 2 0 N]])∧h[5]?=some (.live 1 false e [[.ptr 4 0 0]])∧h[4]?=some (.live 1 fl w [[v]])∧QS v q h 4∧(∀b∈dB v,6≤b∧b∉K)∧Qy h=true
theorem DiH.app{LK:CB}{e:Bool}{ps:List AV}{N:Nat}{h:Qa}{dd q K:List Nat}(D:DiH LK e ps N h dd q K){L:Qa}(hL:Qy L=true):DiH LK e ps N (h++L) dd q K:=by
 obtain⟨f,v,fl,w',i0,i1,i2,i3,i5,i4,iQ,iB,iq⟩:=D
 refine⟨f,v,fl,w',Qh i0 L,Qh i1 L,Qh i2 L,Qh i3 L,Qh i5 L,Qh i4 L,?_,iB,Uu iq hL⟩
 rcases iQ with h|⟨b,w',rows,r,h1,h2,h3⟩
 ·exact .inl h
 ·exact .inr ⟨b,w',rows,r,h1,Qh h2 _,h3⟩
def iF(H G:Qa):Prop:=H.length≤G.length∧∀(b:Nat) (c0 c:CB),H[b]?=some c0→G[b]?=some c→(c0.quiet c=true∧c0.clean=c.clean)∨(c0.isLive=true∧((∃st fl rows,c=.live st fl true rows)∨c=.dead))
theorem tH{c0 c:CB}(h:c0.isLive=true)(hc:(∃st fl rows,c=.live st fl true rows)∨c=.dead):c0.quiet c=false:=by
 rcases hc with⟨_,_,_,rfl⟩|rfl<;>cases c0<;>first|rfl|(simp[CB.isLive]at h;done)|(simp[CB.quiet,CB.same];done)
theorem iF.sh{H G:Qa}(k:iF H G):aeA H G:=⟨k.1,fun b c0 c h0 h1=>(k.2 b c0 c h0 h1).imp (fun h=>h.1) (fun h=>h.1)⟩
theorem ahY{c0 c1:CB}(h:c0.clean=c1.clean)(h1:c1.isLive=true):c0.isLive=true:=by cases c0<;>cases c1<;>first|rfl|(simp[CB.clean]at h;done)|cases h1
theorem uR(c:CB):c.clean.clean=c.clean:=by cases c<;>rfl
theorem iF.app{H G:Qa}(k:iF H G)(l:Qa):iF H (G++l):=⟨by simp;have:=k.1;omega,fun b c0 c h0 h1=>k.2 b c0 c h0 (by
 have:=Qr h0
 have:=k.1
 rw[abV (by omega)]at h1;exact h1)⟩
theorem iF.cl{H:Qa}(h:Qy H=true):iF H (Xe H):=⟨by rw[Su];exact Nat.le_refl _,fun b c0 c h0 h1=>by
 rw[Ux h0]at h1;cases h1
 exact .inl ⟨Wc h h0,(uR c0).symm⟩⟩
theorem iF.keep{H G:Qa}{X:List Nat}(h:Qy H=true)(K:Yg X (Xe H) G)(hX:∀b∈X,∃c0 c,H[b]?=some c0∧G[b]?=some c∧c0.isLive=true∧((∃st fl rows,c=.live st fl true rows)∨c=.dead)):iF H G:=⟨by have:=K.len;rwa[Su]at this,fun b c0 c h0 h1=>by
 by_cases hb:b∈X
 ·obtain⟨d0,d,e0,e1,e2⟩:=hX b hb
  rw[h0]at e0;rw[h1]at e1;cases e0;cases e1
  exact .inr e2
 ·rw[K.same b (by rw[Su];exact Qr h0) hb,Ux h0]at h1;cases h1
  exact .inl ⟨Wc h h0,(uR c0).symm⟩⟩
theorem iF.mrg_clean{H G:Qa}(k:iF H G){b:Nat}{c:CB}(hc:G[b]?=some c):∃c',(bH H G)[b]?=some c'∧c'.clean=c.clean:=by
 by_cases hb:b<H.length
 ·have h0:H[b]?=some H[b]:=aeQ hb
  rcases k.2 b _ c h0 hc with⟨h1,h2⟩|⟨h1,h2⟩
  ·exact⟨_,aP h0 hc h1,h2⟩
  ·refine⟨_,kV h0 hc (tH h1 h2),?_⟩
   rcases h2 with⟨_,_,_,rfl⟩|rfl<;>rfl
 ·exact⟨c,by rw[oG k.1 (by omega)];exact hc,rfl⟩
theorem iF.trans{H h' G:Qa}(k:iF H h')(k':iF h' G):iF H (bH h' G):=by
 refine⟨by rw[fH k'.1];exact Nat.le_trans k.1 k'.1,fun b c0 c h0 h1=>?_⟩
 have hb:=Qr h0
 have e1:h'[b]?=some (h'[b]'(by have:=k.1;omega)):=aeQ _
 have e2:G[b]?=some (G[b]'(by have:=k.1;have:=k'.1;omega)):=aeQ _
 generalize h'[b]'(by have:=k.1;omega)=c1 at *
 generalize G[b]'(by have:=k.1;have:=k'.1;omega)=c2 at *
 rcases k'.2 b _ _ e1 e2 with⟨g1,g2⟩|⟨g1,g2⟩
 ·rw[aP e1 e2 g1]at h1;cases h1
  exact k.2 b _ _ h0 e1
 ·rw[kV e1 e2 (tH g1 g2)]at h1
  have:c2.mark=c2:=by rcases g2 with⟨_,_,_,rfl⟩|rfl<;>rfl
  rw[this]at h1;cases h1
  refine .inr ⟨?_,g2⟩
  rcases k.2 b _ _ h0 e1 with⟨_,h⟩|⟨h,_⟩
  ·exact ahY h g1
  ·exact h
theorem iF.old{H G:Qa}{b:Nat}{c0 c:CB}(h0:H[b]?=some c0)(h1:G[b]?=some c)(hq:c0.quiet c=true):(bH H G)[b]?=some c0:=aP h0 h1 hq
theorem atW{c:CB}{st:Nat}{fl w:Bool}{rows:List (List AV)}(h:c.clean=(CB.live st fl w rows).clean):∃w',c=.live st fl w' rows:=by
 cases c<;>simp[CB.clean]at h
 obtain⟨rfl,rfl,rfl⟩:=h
 exact⟨_,rfl⟩
theorem iF.live{H G:Qa}(k:iF H G){b st:Nat}{fl w:Bool}{rows:List (List AV)}(hc:G[b]?=some (.live st fl w rows)):∃w',(bH H G)[b]?=some (.live st fl w' rows):=by
 obtain⟨c',h1,h2⟩:=k.mrg_clean hc
 obtain⟨w',rfl⟩:=atW h2
 exact⟨w',h1⟩
theorem QS.okw{H G:Qa}(k:iF H G){v:AV}{q:List Nat}{p:Nat}(h:QS v q G p):QS v q (bH H G) p:=by
 rcases h with h|⟨b,w,rows,r,h1,h2,h3,h4,h5⟩
 ·exact .inl h
 ·obtain⟨w',h6⟩:=k.live h2
  exact .inr ⟨b,w',rows,r,h1,h6,h3,h4,h5⟩
theorem iF.quiet{H G:Qa}(k:iF H G)(h:Qy H=true)(h':Qy G=true):Qy (bH H G)=true:=by
 refine mD fun c hc=>?_
 obtain⟨b,hb⟩:=List.getElem?_of_mem hc
 have hbl:=Qr hb
 rw[fH k.1]at hbl
 have e2:G[b]?=some G[b]:=aeQ hbl
 generalize G[b]=c2 at *
 by_cases hl:b<H.length
 ·have e1:H[b]?=some H[b]:=aeQ hl
  generalize H[b]=c1 at *
  rcases k.2 b _ _ e1 e2 with⟨g1,g2⟩|⟨g1,g2⟩
  ·rw[aP e1 e2 g1]at hb;cases hb;exact Wc h e1
  ·rw[kV e1 e2 (tH g1 g2)]at hb;cases hb;exact uI (Wc h' e2)
 ·rw[oG k.1 (by omega),e2]at hb;cases hb;exact Wc h' e2
theorem auS{LK:CB}{e:Bool}{ps:List AV}{N:Nat}{h':Qa}{dd q K:List Nat}{f:Bool}{v:AV}{fl w:Bool}(i0:h'[0]?=some LK)(i1:h'[1]?=some (.live 24 true false [ps]))(i2:h'[2]?=some (.live 1 true f (dd.map Zv)))(i3:h'[3]?=some (.live 1 false e [[.slr 1 2 0 N]]))(i5:h'[5]?=some (.live 1 false e [[.ptr 4 0 0]]))(i4:h'[4]?=some (.live 1 fl w [[v]]))(iQ:QS v q h' 4)(iB:∀b∈dB v,6≤b∧b∉K)(iq:Qy h'=true)
 {B:Nat} {LP LB:CB} (hB:h'[B]?=some LP) (hBK:B∈K) (hK:∀b∈K,6≤b∧b<h'.length) (hLPc:LP.clean=LP) (hLPq:LP.quiet LP=true) {M:Qa} {Y dd2 q2:List Nat} {v2:AV} {fl2:Bool} (m1:h'.length≤M.length) (m2:Qy M=true) (m3:M[4]?=some (.live 1 fl2 true [[v2]])) (m4:QS v2 q2 M 4) (m5:∀b∈dB v2,h'.length≤b)
 (m6:∀b c,b∉Y→(((Xe h').set B LB).set 2 (.live 1 true true (dd2.map Zv)))[b]?=some c→M[b]?=some c) (hY:4∈Y) (hY':∀b∈Y,b=4∨(b∈dB v∧M[b]?=some .dead)):
 iF h' (M.set B LP)∧DiH LK e ps N (bH h' (M.set B LP)) dd2 q2 K∧(∀b∈K,(bH h' (M.set B LP))[b]?=h'[b]?)∧h'.length≤(bH h' (M.set B LP)).length:=by
 have hBl:=Qr hB
 have hB6:=(hK B hBK).1
 have h4l:=Qr i4
 have hY6:∀b∈Y,b=4∨(6≤b∧b∉K):=fun b hb1=>(hY' b hb1).imp id (fun h=>iB b h.1)
 have h2Y:2∉Y:=fun h=>by rcases hY6 2 h with h|h<;>omega
 have hKY:∀b∈K,b∉2::Y:=fun b hb1 h=>by
  have:=(hK b hb1).1
  rcases afC.1 h with h|h
  ·omega
  ·rcases hY6 b h with h|h
   ·omega
   ·exact h.2 hb1
 have hg2:M[2]?=some (.live 1 true true (dd2.map Zv)):=m6 2 _ h2Y (abZ (by simp[Su];omega))
 have hK2:Yg (2::Y) (Xe h') (M.set B LP):=⟨by simpa [Su]using m1,fun b hb1 hn=>by
  rw[Su]at hb1
  obtain⟨c,hc⟩:∃c,h'[b]?=some c:=⟨_,aeQ hb1⟩
  by_cases e:b=B
  ·subst e
   rw[abZ (by omega),Ux hB,hLPc]
  ·rw[aaB (fun h=>e h.symm)]
   have:=m6 b c.clean (fun h=>hn (ai9 _ h)) (by
    rw[aaB (fun h=>hn (by rw[←h];exact ab9 ..)),aaB (fun h=>e h.symm)];exact Ux hc)
   rw[this,Ux hc]⟩
 have hne:∀b,b≠B→(M.set B LP)[b]?=M[b]?:=fun b h=>aaB (fun e=>h e.symm)
 have X:∀b∈2::Y,∃c0 c,h'[b]?=some c0∧(M.set B LP)[b]?=some c∧c0.isLive=true∧((∃st fl rows,c=.live st fl true rows)∨c=.dead):=fun b hb1=>by
  rcases afC.1 hb1 with rfl|hb1
  ·exact⟨_,_,i2,by rw[hne 2 (by omega)];exact hg2,rfl,.inl ⟨_,_,_,rfl⟩⟩
  ·rcases hY' b hb1 with rfl|⟨h1,h2⟩
   ·exact⟨_,_,i4,by rw[hne 4 (by omega)];exact m3,rfl,.inl ⟨_,_,_,rfl⟩⟩
   ·obtain⟨h3,w',rows,h5⟩:=iQ.lt b h1
    exact⟨_,_,h5,by rw[hne b (fun e=>(iB b h1).2 (e▸hBK))];exact h2,rfl,.inr rfl⟩
 have ok:=iF.keep iq hK2 X
 have X':∀b∈2::Y,b<h'.length∧∀c0 c,h'[b]?=some c0→(M.set B LP)[b]?=some c→c0.isLive=true∧c0.quiet c=false:=fun b hb1=>by
  obtain⟨c0,c,h1,h2,h3,h4⟩:=X b hb1
  refine⟨Qr h1,fun d0 d k1 k2=>?_⟩
  rw[h1]at k1;rw[h2]at k2;cases k1;cases k2
  exact⟨h3,tH h3 h4⟩
 obtain⟨g1,g2,g3,g4,g5⟩:=Yo iq hK2 X'
 have low:∀b,b<6→b≠2→b≠4→(bH h' (M.set B LP))[b]?=h'[b]?:=fun b h1 h2 h3=>g4 b (by have:=Qr i5;omega) fun h=>by
  rcases afC.1 h with h|h
  ·exact h2 h
  ·rcases hY6 b h with h|h<;>omega
 refine⟨ok,⟨true,v2,fl2,true,by rw[low 0 (by omega) (by omega) (by omega)];exact i0,by rw[low 1 (by omega) (by omega) (by omega)];exact i1,?_,by rw[low 3 (by omega) (by omega) (by omega)];exact i3,by rw[low 5 (by omega) (by omega) (by omega)];exact i5,?_,?_,fun b hb1=>?_,?_⟩,fun b hb1=>g4 b (hK b hb1).2 (hKY b hb1),by rw[g2];simpa using m1⟩
 ·exact g5 2 (ab9 ..) _ (by rw[hne 2 (by omega)];exact hg2)
 ·exact g5 4 (ai9 _ hY) _ (by rw[hne 4 (by omega)];exact m3)
 ·rcases m4 with h|⟨b,w',rows,r,h1,h2,h3⟩
  ·exact .inl h
  ·have hb1:=m5 b (by rw[h1];simp[dB])
   exact .inr ⟨b,w',rows,r,h1,by rw[g3 b hb1,hne b (by omega)];exact h2,h3⟩
 ·have h1:=m5 b hb1
  exact⟨by omega,fun h=>by have:=(hK b h).2;omega⟩
 ·exact kH iq hK2 X' (Uw m2 B (by rw[hLPc];exact hLPq))
theorem aJ8{h' l:Qa}(hq:Qy h'=true):iF h' (Xe h'++l)∧bH h' (Xe h'++l)=h'++l:=by
 have K:Yg [] (Xe h') (Xe h'++l):=Yg.app _ _
 have X:∀b∈([]:List Nat),b<h'.length∧∀c0 c,h'[b]?=some c0→(Xe h'++l)[b]?=some c→c0.isLive=true∧c0.quiet c=false:=fun b hb1=>by cases hb1
 obtain⟨g1,g2,g3,g4,_⟩:=Yo hq K X
 refine⟨(iF.cl hq).app l,List.ext_getElem? fun b=>?_⟩
 by_cases hb1:b<h'.length
 ·rw[g4 b hb1 (by simp),abV hb1]
 ·rw[g3 b (by omega),afO (by simp[Su];omega),afO (by omega),Su]
end Go.Proofs.YtcncggaobhbomaaGreatDoor
