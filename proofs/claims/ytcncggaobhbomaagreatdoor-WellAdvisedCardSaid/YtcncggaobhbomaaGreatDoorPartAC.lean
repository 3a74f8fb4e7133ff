/- The functions of the layer, walked. -/
import Derived.Test.YtcncggaobhbomaaGreatDoorLibE
import Derived.Test.YtcncggaobhbomaaGreatDoorPartAB
open List renaming length_map→aaN,take_of_length_le→adQ,getElem?_eq_some_iff→afJ,take→af8,mem_of_getElem?→ai0,length_cons→ajM,mem_range→ajV,all_eq_true→ajY,range→aj6,range'→aj8,getElem?_eq_getElem→akX,nil_append→ak0,getElem?_set_self→ak2,mem_cons→aq4,idxOf→aq5,flatMap_def→aq6,cons_append→aq7,map_set→arA,getElem?_append_right→arF,ext_getElem?→auE,getElem?_set_ne→auG,mem_or_eq_of_mem_set→auQ,getElem?_of_mem→avR,mem_append→aw2,getElem?_cons_succ→aw4,mem_cons_of_mem→aw6,set_cons_succ→aAX,exists_cons_of_ne_nil→aA5,getElem?_map→aHA,range'_succ→aHN,filter_cons→aY2,getElem?_zipWith→aY3,take_append_drop→aY7,all_append→aY8,getElem?_cons_zero→aY9,take_append_of_le_length→aZA,getElem?_eq_none→aZL,drop_zero→a0J,idxOf_cons→a0K,map_congr_left→a0L,mem_flatMap→a0M,not_mem_nil→a1K
open Option renaming bind_some→adC,map_some→ag1,getD_some→akZ,map_eq_some_iff→aq8,some→awB,bind_eq_some_iff→aY5
open Bool renaming and_eq_true→ae2,false_eq_true→akY,eq_iff_iff→atH,not_eq_true'→aY6
open Int renaming lt_irrefl→alC,reduceEq→aq3,ofNat→as4
open Nat renaming le_refl→aoR,le_succ_of_le→arB
set_option linter.unusedSimpArgs false
set_option linter.unusedVariables false
namespace Go.Proofs.YtcncggaobhbomaaGreatDoor
open Go.Ev Go Go.Ev.Net
set_option maxRecDepth 100000
set_option maxHeartbeats 16000000
theorem adN:∀(L:List (Int × Bool)) (i:Nat) (a:Int) (b:Bool),i<L.length→af8 (i*2) (Sv L)++(.int .i64 a::.bool b::List.drop (i*2+2) (Sv L))=Sv (L.set i (a,b))
 | [],i,a,b,h=>by simp at h
 |x::L,0,a,b,h=>by simp[Sv]
 |x::L,i+1,a,b,h=>by
  have ih:=adN L i a b (by simpa using h)
  rw[show(i+1)*2=(i*2)+1+1 by omega,show(i*2)+1+1+2=(i*2+2)+1+1 by omega]
  simp only[Sv,List.flatMap_cons,aq7,ak0,List.take_succ_cons,List.drop_succ_cons,aAX]at ih ⊢
  rw[←ih]
theorem cZ(L:List (Int × Bool))(d:Nat):(Sv L).all (Qx (d+1))=true:=ajY.2 fun x hx=>by rcases Ya L x hx with⟨n,rfl⟩|⟨b,rfl⟩<;>rfl
def Tf(k:Int)(b:Bool)(x:Int × Bool):Int × Bool:=if k=1 then(x.1,true)else if k=2 then(x.1,false)else if k=3 then(if b=true then(0,x.2)else(2,x.2))else(0,x.2)
theorem anJ(c:Int)(o b:Bool):Up.call (.fn 112) [.agg [.int .i64 c,.bool o],.bool b] []=some (.ret (.agg [.int .i64 c,.bool true]),[]):=by
 (refine ce Tryz.func112 ?_;simp only[Tryz.f112];(have hb:=trivial;with_reducible repeat' (first|simp only[hb,Vc.down,seval,a8J.down]|refine Qp ?_ ?_<;>intro hb|refine fd ?_|fail)))
theorem amA(c:Int)(o b:Bool):Up.call (.fn 113) [.agg [.int .i64 c,.bool o],.bool b] []=some (.ret (.agg [.int .i64 c,.bool false]),[]):=by
 (refine ce Tryz.func113 ?_;simp only[Tryz.f113];(have hb:=trivial;with_reducible repeat' (first|simp only[hb,Vc.down,seval,a1M.down]|refine Qp ?_ ?_<;>intro hb|refine fd ?_|fail)))
theorem ak4(c:Int)(o b:Bool):Up.call (.fn 114) [.agg [.int .i64 c,.bool o],.bool b] []=some (.ret (.agg [.int .i64 (if b=true then 0 else 2),.bool o]),[]):=by
 cases b<;>(refine ce Tryz.func114 ?_;simp only[Tryz.f114];(have hb:=trivial;with_reducible repeat' (first|simp only[hb,Vc.down,seval,beC.down]|refine Qp ?_ ?_<;>intro hb|refine fd ?_|fail)))
theorem akS(c:Int)(o b:Bool):Up.call (.fn 115) [.agg [.int .i64 c,.bool o],.bool b] []=some (.ret (.agg [.int .i64 0,.bool o]),[]):=by
 (refine ce Tryz.func115 ?_;simp only[Tryz.f115];(have hb:=trivial;with_reducible repeat' (first|simp only[hb,Vc.down,seval,a8N.down]|refine Qp ?_ ?_<;>intro hb|refine fd ?_|fail)))
def uX:CB:=.lp [] .skip .skip [.int .i64 1,.func (.func 112) [] [],.int .i64 2,.func (.func 113) [] [],.int .i64 3,.func (.func 114) [] [],.int .i64 4,.func (.func 115) [] []] .map
theorem xW:Up.call (.fn 92) [] []=some (.ret (.mapr 0),[uX]):=by
 exact adF (pr:=pr) (pr2:=pr) (n:=10) rfl (fun f hf=>hf) (fun f p hp a h r hr=>ag8 hp hr) (by kernel_rfl)
def fnD(k:Int):Nat:=if k=1 then 112 else if k=2 then 113 else if k=3 then 114 else 115
theorem asJ{h:Qa}{b:Nat}(hb:h[b]?=some uX){k:Int}(hk:k=1∨k=2∨k=3∨k=4):lk Tryz.prog h 146 (some (.mapr b)) (some (.int .i64 k)) false=some (.ret (.func (.func (fnD k)) [] []),[]):=by
 have key:∀k:Int,k=1∨k=2∨k=3∨k=4→(Vd Tryz.prog (fun _=>some uX) 146 (.mapr 0) (.int .i64 k) false).map (fun d=>(d.v,d.es))=some (.func (.func (fnD k)) [] [],[]):=fun k hk=>by
  rcases hk with rfl|rfl|rfl|rfl<;>kernel_rfl
 have e:(Vd Tryz.prog (hf h) 146 (.mapr b) (.int .i64 k) false).map (fun d=>(d.v,d.es))=(Vd Tryz.prog (fun _=>some uX) 146 (.mapr 0) (.int .i64 k) false).map (fun d=>(d.v,d.es)):=by
  unfold Vd
  simp only[Tryz.underlying146]
  have hm:bN (hf h) b=bN (fun _=>some uX) 0:=by simp only[bN,hf,hb]
  simp only[hm]
  split
  ·generalize bN (fun _=>some uX) 0=m
   cases m with
   |none=>rfl
   |some kvs=>
    simp only[adC]
    generalize fA _ _ _ kvs 0=r
    cases r with
    |none=>rfl
    |some r=>
     simp only[adC]
     generalize Vl _ _=z
     cases z<;>rfl
  ·rfl
 rw[key k hk]at e
 simp only[lk,adC]
 obtain⟨d,hd,h2⟩:=aq8.1 e
 rw[hd]
 simp only[Prod.mk.injEq]at h2
 obtain⟨v,es,fs⟩:=d
 obtain⟨rfl,rfl⟩:=h2
 rfl
theorem yJ{L:List (Int × Bool)}(hL:L.length=12){i:Nat}{x:Int × Bool}(hx:L[i]?=some x){k:Int}(hk:k=1∨k=2∨k=3∨k=4)(b:Bool):
 Up.call (.fn 74) [.agg (Sv L),.agg [.int .i64 k,.int .i64 (i:Int)],.bool b] []=some (.ret (.agg (Sv (L.set i (Tf k b x)))),[]):=by
 have hi:i<L.length:=(afJ.1 hx).1
 have hpl:(Sv L).length=24:=by rw[Rh];omega
 have hf1:=Vo L
 have hf2:=Vn L
 have htk:=gG _ _ _ _ hx
 have hst:=fun a b=>adN L i a b hi
 have hpl2:∀a b,(Sv (L.set i (a,b))).length=24:=fun a b=>by rw[Rh];simp;omega
 have hfl2:=fun a b=>Vo (L.set i (a,b))
 have hce2:=fun a b=>Vn (L.set i (a,b))
 have hrf2:=fun a b=>aK (L.set i (a,b))
 have hpv2:=fun a b=>cZ (L.set i (a,b))
 have i12:((i:Int)<12)=True:=eq_true (by omega)
 have hp24:(i*2+2≤24)=True:=eq_true (by omega)
 have htk24:af8 24 (Sv L)=Sv L:=adQ (by omega)
 have htk2:∀a b,af8 (24-i*2) [AV.int .i64 a,AV.bool b]=[AV.int .i64 a,AV.bool b]:=fun a b=>adQ (by simp;omega)
 have htk3:∀a b,af8 24 (Sv (L.set i (a,b)))=Sv (L.set i (a,b)):=fun a b=>adQ (by rw[hpl2];omega)
 obtain⟨a,o⟩:=x
 have hrm:∀f,Xp f uX=some uX:=fun f=>rfl
 have him:uX.hasImm=false:=rfl
 have rv:∀(f:Nat→Nat) (b:Nat),Su 8 f (.mapr b)=some (.mapr (f b)):=fun _ _=>rfl
 have hlk:=fun(h:Qa) (b':Nat) (hb':h[b']?=some uX)=>asJ hb' hk
 have q1:=anJ a o b
 have q2:=amA a o b
 have q3:=ak4 a o b
 have q4:=akS a o b
 rcases hk with rfl|rfl|rfl|rfl
 ·rw[show fnD 1=112 from rfl]at hlk
  rw[show Tf 1 b (a,o)=(a,true)from rfl]
  refine ce Tryz.func74 ?_
  simp only[Tryz.f74]
  (have hb:=trivial;with_reducible repeat' (first|simp only[hb,Vc.down,seval,asH.down,hpl,hf1,hf2,htk,xW,i12,hp24,hrm,him,rv,hlk,q1,Tn,hst,hpl2,hfl2,hce2,hrf2,htk24,htk2,htk3,hpv2]|refine Qp ?_ ?_<;>intro hb|refine fd ?_|fail))
 ·rw[show fnD 2=113 from rfl]at hlk
  rw[show Tf 2 b (a,o)=(a,false)from rfl]
  refine ce Tryz.func74 ?_
  simp only[Tryz.f74]
  (have hb:=trivial;with_reducible repeat' (first|simp only[hb,Vc.down,seval,asH.down,hpl,hf1,hf2,htk,xW,i12,hp24,hrm,him,rv,hlk,q2,Tn,hst,hpl2,hfl2,hce2,hrf2,htk24,htk2,htk3,hpv2]|refine Qp ?_ ?_<;>intro hb|refine fd ?_|fail))
 ·rw[show fnD 3=114 from rfl]at hlk
  rw[show Tf 3 b (a,o)=(if b=true then(0,o)else(2,o))from rfl]
  rw[show(if b=true then((0:Int),o)else(2,o))=((if b=true then 0 else 2),o) by cases b<;>rfl]
  refine ce Tryz.func74 ?_
  simp only[Tryz.f74]
  (have hb:=trivial;with_reducible repeat' (first|simp only[hb,Vc.down,seval,asH.down,hpl,hf1,hf2,htk,xW,i12,hp24,hrm,him,rv,hlk,q3,Tn,hst,hpl2,hfl2,hce2,hrf2,htk24,htk2,htk3,hpv2]|refine Qp ?_ ?_<;>intro hb|refine fd ?_|fail))
 ·rw[show fnD 4=115 from rfl]at hlk
  rw[show Tf 4 b (a,o)=(0,o)from rfl]
  refine ce Tryz.func74 ?_
  simp only[Tryz.f74]
  (have hb:=trivial;with_reducible repeat' (first|simp only[hb,Vc.down,seval,asH.down,hpl,hf1,hf2,htk,xW,i12,hp24,hrm,him,rv,hlk,q4,Tn,hst,hpl2,hfl2,hce2,hrf2,htk24,htk2,htk3,hpv2]|refine Qp ?_ ?_<;>intro hb|refine fd ?_|fail))
def aM(p:Qc)(x:Int × Bool)(k:Int):Bool:=if k=1 then p.valve&& !x.2 else if k=2 then p.valve&&x.2 else if k=3 then !x.2&&x.1==1 else !x.2
theorem awR(p:Qc)(x:Int × Bool){k:Int}(hk:k=1∨k=2∨k=3∨k=4):Up.call (.fn 54) [.agg p.cells,.agg [.int .i64 x.1,.bool x.2],.int .i64 k] []=some (.ret (.bool (aM p x k)),[]):=by
 obtain⟨a,o⟩:=x
 obtain⟨p1,p2,p3,p4,p5,p6,p7,p8,p9⟩:=p
 simp only[Qc.cells]
 rcases hk with rfl|rfl|rfl|rfl
 ·cases p3<;>cases o<;>(refine ce Tryz.func54 ?_;simp only[Tryz.f54];(have hb:=trivial;with_reducible repeat' (first|simp only[hb,Vc.down,seval,asL.down]|refine Qp ?_ ?_<;>intro hb|refine fd ?_|fail)))
  all_goals rfl
 ·cases p3<;>cases o<;>(refine ce Tryz.func54 ?_;simp only[Tryz.f54];(have hb:=trivial;with_reducible repeat' (first|simp only[hb,Vc.down,seval,asL.down]|refine Qp ?_ ?_<;>intro hb|refine fd ?_|fail)))
  all_goals rfl
 ·cases o<;>cases h:(a==1)<;>(refine ce Tryz.func54 ?_;simp only[Tryz.f54];(have hb:=trivial;with_reducible repeat' (first|simp only[hb,Vc.down,seval,asL.down,h]|refine Qp ?_ ?_<;>intro hb|refine fd ?_|fail)))
  all_goals (simp only[aM,h];rfl)
 ·cases o<;>(refine ce Tryz.func54 ?_;simp only[Tryz.f54];(have hb:=trivial;with_reducible repeat' (first|simp only[hb,Vc.down,seval,asL.down]|refine Qp ?_ ?_<;>intro hb|refine fd ?_|fail)))
  all_goals rfl
theorem agA(p:Qc){k:Int}(hk:k=1∨k=2∨k=3∨k=4):Up.call (.fn 57) [.agg p.cells,.int .i64 k] []=some (.ret (.int .i64 (if k=3 then p.test else if k=4 then p.change else 1)),[]):=by
 simp only[Qc.cells]
 rcases hk with rfl|rfl|rfl|rfl<;>(refine ce Tryz.func57 ?_;simp only[Tryz.f57];(have hb:=trivial;with_reducible repeat' (first|simp only[hb,Vc.down,seval,bgG.down]|refine Qp ?_ ?_<;>intro hb|refine fd ?_|fail)))
 all_goals rfl
def Uh(w:Qh)(N:Nat)(L:List (Int × Bool)):Int:=if(dO w N L:Int)<w.need then(dO w N L:Int)else w.need
def Xq(w:Qh)(N:Nat)(L:List (Int × Bool))(k:Int)(i:Nat)(b:Bool)(x:Int × Bool):Bool:=
 (!(k==4)|| !decide ((dO w N (L.set i (2,x.2)):Int)<Uh w N L))&&decide ((dO w N (L.set i (Tf k b x)):Int)≥Uh w N L)
theorem al4{w:Qh}{N:Nat}(hw:qK w N)(h12:w.parts.length≤12)(d:Int){L:List (Int × Bool)}(hL:L.length=12){i:Nat}{x:Int × Bool}(hx:L[i]?=some x){k:Int}(hk:k=1∨k=2∨k=3∨k=4)(b:Bool)(wf:Bool):
 Up.call (.fn 55) [.ptr 0 0 0,.agg (Sv L),.agg [.int .i64 k,.int .i64 (i:Int)],.bool b] [.live 4 false wf [[.int .i64 w.rooms,.int .i64 w.need,Rn 9 true w.nn (w.parts.map Qc.cells),.int .i64 d]]]=some (.ret (.bool (Xq w N L k i b x)),[.live 4 false wf [[.int .i64 w.rooms,.int .i64 w.need,Rn 9 true w.nn (w.parts.map Qc.cells),.int .i64 d]]]):=by
 have hi:i<L.length:=(afJ.1 hx).1
 have hn0:=dS hw h12 d hL false
 have hn1:=dS hw h12 d (L:=L.set i (2,x.2)) (by simpa using hL) false
 have hn2:=dS hw h12 d (L:=L.set i (Tf k b x)) (by simpa using hL) false
 have ha:=yJ hL hx hk b
 have hlb:Uh w N L=if(dO w N L:Int)<w.need then(dO w N L:Int)else w.need:=rfl
 have hsf:Xq w N L k i b x=((!(k==4)|| !decide ((dO w N (L.set i (2,x.2)):Int)<Uh w N L))&&decide ((dO w N (L.set i (Tf k b x)):Int)≥Uh w N L)):=rfl
 rw[hsf]
 have hmn:oQ (.int .i64 w.need) (.int .i64 (dO w N L:Nat))=some (.int .i64 (Uh w N L)):=rfl
 generalize Uh w N L=lb at *
 generalize(dO w N L:Nat)=n0 at *
 generalize(dO w N (L.set i (2,x.2)):Nat)=n1 at *
 generalize(dO w N (L.set i (Tf k b x)):Nat)=n2 at *
 have f0:=Vo L
 have c0:=Vn L
 have v0:=eV L
 have l0:=eD L
 have r0:=aK L
 have p0:=cZ L
 have hpl:(Sv L).length=24:=by rw[Rh];omega
 have htk:=adQ (l:=Sv L) (i:=24) (by omega)
 have f2:=Vo (L.set i (Tf k b x))
 have c2:=Vn (L.set i (Tf k b x))
 have v2:=eV (L.set i (Tf k b x))
 have l2:=eD (L.set i (Tf k b x))
 have r2:=aK (L.set i (Tf k b x))
 have p2:=cZ (L.set i (Tf k b x))
 have n2':=kP (L.set i (Tf k b x))
 have i2:=kT (L.set i (Tf k b x))
 generalize Sv (L.set i (Tf k b x))=ps2 at *
 have i12:((i:Int)<12)=True:=eq_true (by omega)
 have hpz:(i*2≤23)=True:=eq_true (by omega)
 have hs1:=lK L i x.1 2 x.2 hx
 have ht1:af8 (24-i*2) [AV.int .i64 2]=[AV.int .i64 2]:=adQ (by simp;omega)
 have f1:=Vo (L.set i (2,x.2))
 have c1:=Vn (L.set i (2,x.2))
 have v1:=eV (L.set i (2,x.2))
 have l1:=eD (L.set i (2,x.2))
 have r1:=aK (L.set i (2,x.2))
 have hpl1:(Sv (L.set i (2,x.2))).length=24:=by rw[Rh];simp;omega
 have htk1:=adQ (l:=Sv (L.set i (2,x.2))) (i:=24) (by omega)
 simp only[aq7,ak0]at hs1
 generalize Sv (L.set i (2,x.2))=ps1 at *
 generalize Sv L=ps at *
 refine ce Tryz.func55 ?_
 simp only[Tryz.f55]
 rw[hlb]
 cases q4:(k==4)
 ·cases q2:decide ((n2:Int)≥if(n0:Int)<w.need then(n0:Int)else w.need)
  all_goals (have hb:=trivial;with_reducible repeat' (first|simp only[hb,Vc.down,seval,azF.down,q4,hn0,hn2,ha,hmn,f0,c0,v0,l0,r0,p0,hpl,htk,f2,c2,v2,l2,r2,p2,n2',i2]|refine Qp ?_ ?_<;>intro hb|refine fd ?_|fail))
  all_goals simp only[ge_iff_le]at q2
  all_goals rw[q2]
 ·cases q1:decide ((n1:Int)<if(n0:Int)<w.need then(n0:Int)else w.need)
  ·cases q2:decide ((n2:Int)≥if(n0:Int)<w.need then(n0:Int)else w.need)
   all_goals (have hb:=trivial;with_reducible repeat' (first|simp only[hb,Vc.down,seval,azF.down,q1,q4,hn0,hn1,hn2,ha,hmn,f0,c0,v0,l0,r0,p0,hpl,htk,f1,c1,v1,l1,r1,hpl1,htk1,f2,c2,v2,l2,r2,p2,n2',i2,Tn,i12,hpz,hs1,ht1]|refine Qp ?_ ?_<;>intro hb|refine fd ?_|fail))
   all_goals simp only[ge_iff_le]at q2
   all_goals rw[q2]
  ·(have hb:=trivial;with_reducible repeat' (first|simp only[hb,Vc.down,seval,azF.down,q1,q4,hn0,hn1,hn2,ha,hmn,f0,c0,v0,l0,r0,p0,hpl,htk,f1,c1,v1,l1,r1,hpl1,htk1,f2,c2,v2,l2,r2,p2,n2',i2,Tn,i12,hpz,hs1,ht1]|refine Qp ?_ ?_<;>intro hb|refine fd ?_|fail))
theorem ayR{n:Nat}{h:Qa}{nfl:Bool}{a b r len:Nat}{rows:List (List AV)}(hr:rows≠[]):apK n h (some (.slr a b r len)) (some (nfl,rows))=apS n h.length b r len nfl rows (h[b]?):=by
 obtain⟨x,l,rfl⟩:=aA5 hr
 rfl
def Qw(p:Qc)(d k:Int)(b:Bool):Qc:=if k=1 then { p with opn:=true }else if k=2 then { p with opn:=false }else if k=3 then(if b=true then { p with bad:=false,tested:=d }else { p with bad:=true })else { p with tested:=d,bad:=false }
theorem ar4{l:List Qc}{nn:Bool}(hne:l≠[])(hl:l.length≤1000):Up.call (.fn 56) [Rn 9 true nn (l.map Qc.cells)] []=some (.ret (.slr 9 0 0 l.length),[.live 9 true false (l.map Qc.cells)]):=by
 have h1:(l.map Qc.cells).isEmpty=false:=by cases l<;>simp_all
 have h2:l.map Qc.cells≠[]:=by simpa using hne
 have h3:((l.map Qc.cells).length≤549755813888)=True:=eq_true (by simp;omega)
 have hs:Rn 9 true nn (l.map Qc.cells)=.imm 9 true (l.map Qc.cells):=bS h2
 rw[hs]
 have h4:=fun(h:Qa) a b r len=>ayR (n:=9) (h:=h) (nfl:=true) (a:=a) (b:=b) (r:=r) (len:=len) h2
 simp only[aaN]at h3
 (refine ce Tryz.func56 ?_;simp only[Tryz.f56];(have hb:=trivial;with_reducible repeat' (first|simp only[hb,Vc.down,seval,bf7.down,h3,h4,aaN]|refine Qp ?_ ?_<;>intro hb|refine fd ?_|fail)))
theorem aaT{w:Qh}{N:Nat}(hw:qK w N)(h12:w.parts.length≤12)(hs:w.small)(d:Int)(hb0:(Vw w&&aS d)=true){i:Nat}{p:Qc}(hp:w.parts[i]?=some p){k:Int}(hk:k=1∨k=2∨k=3∨k=4)(b:Bool):
 (aM p (Re p d,p.opn) k=false→Up.call (.fn 24) [.agg [.int .i64 w.rooms,.int .i64 w.need,Rn 9 true w.nn (w.parts.map Qc.cells)],.int .i64 d,.agg [.int .i64 k,.int .i64 (i:Int)],.bool b] []=some (.ret (.tup [.agg [.int .i64 0,.int .i64 0,.nils],.int .i64 0,.int .i64 6]),[]))∧
 (aM p (Re p d,p.opn) k=true→Xq w N (Qb w d) k i b (Re p d,p.opn)=false→Up.call (.fn 24) [.agg [.int .i64 w.rooms,.int .i64 w.need,Rn 9 true w.nn (w.parts.map Qc.cells)],.int .i64 d,.agg [.int .i64 k,.int .i64 (i:Int)],.bool b] []=some (.ret (.tup [.agg [.int .i64 0,.int .i64 0,.nils],.int .i64 0,.int .i64 7]),[]))∧
 (aM p (Re p d,p.opn) k=true→Xq w N (Qb w d) k i b (Re p d,p.opn)=true→∃wf,Up.call (.fn 24) [.agg [.int .i64 w.rooms,.int .i64 w.need,Rn 9 true w.nn (w.parts.map Qc.cells)],.int .i64 d,.agg [.int .i64 k,.int .i64 (i:Int)],.bool b] []=some (.ret (.tup [.agg [.int .i64 w.rooms,.int .i64 w.need,.slr 9 0 0 w.parts.length],.int .i64 (if k=3 then p.test else if k=4 then p.change else 1),.int .i64 0]),[.live 9 true wf ((w.parts.set i (Qw p d k b)).map Qc.cells)])):=by
 have hil:i<w.parts.length:=(afJ.1 hp).1
 have h1:=yW w hs d
 rw[hb0]at h1
 have hpc:=tQ w d false h12
 have hx:=bA (d:=d) hp
 have hL:=bJ (d:=d) h12
 have h2:=awR p (Re p d,p.opn) hk
 have h3:=al4 hw h12 d hL hx hk b false
 have d1:decide (k<1)=false:=decide_eq_false (by omega)
 have d2:decide (k>4)=false:=decide_eq_false (by omega)
 have hin:=nX (i:Int) 0 (IntKind.i64.wrap ((w.parts.length:Int)-1))
 have d3:Ye (i:Int) 0 (IntKind.i64.wrap ((w.parts.length:Int)-1))=true:=by
  rw[Us (by omega) (by omega)]
  simp[Ye];omega
 rw[d3]at hin
 have hrow:(w.parts.map Qc.cells)[i]?=some p.cells:=by rw[aHA,hp];rfl
 have htk:=gG _ _ _ _ hx
 try simp only at htk
 have f0:=Vo (Qb w d)
 have c0:=Vn (Qb w d)
 have v0:=eV (Qb w d)
 have l0:=eD (Qb w d)
 have r0:=aK (Qb w d)
 have p0:=cZ (Qb w d)
 have n0:=kP (Qb w d)
 have i0:=kT (Qb w d)
 have hpl:(Sv (Qb w d)).length=24:=by rw[Rh];omega
 have htk24:=adQ (l:=Sv (Qb w d)) (i:=24) (by omega)
 have hcl:=ar4 (nn:=w.nn) hw.ne hw.len
 have hpr:=fun a1 a2 a3 a4 a5 a6 a7 a8 a9=>agA ⟨a1,a2,a3,a4,a5,a6,a7,a8,a9⟩ hk
 have i12:((i:Int)<12)=True:=eq_true (by omega)
 have hp24:(i*2+2≤24)=True:=eq_true (by omega)
 have iln:((i:Int)<(w.parts.length:Int))=True:=eq_true (by omega)
 generalize hps:Sv (Qb w d)=ps at *
 generalize aM p (Re p d,p.opn) k=cb at *
 generalize Xq w N (Qb w d) k i b (Re p d,p.opn)=sb at *
 simp only[Qc.cells]at h2
 refine⟨fun e=>?_,fun e1 e2=>?_,fun e1 e2=>?_⟩
 ·subst e
  (refine ce Tryz.func24 ?_;simp only[Tryz.f24];(have hb:=trivial;with_reducible repeat' (first|simp only[hb,Vc.down,seval,ae5.down,h1,d1,d2,hin,hpc,h2,hp,Qc.cells,htk,f0,c0,v0,l0,r0,p0,n0,i0,hpl,htk24,Tn,i12,hp24,iln,aaN]|refine Qp ?_ ?_<;>intro hb|refine fd ?_|fail)))
 ·subst e1 e2
  (refine ce Tryz.func24 ?_;simp only[Tryz.f24];(have hb:=trivial;with_reducible repeat' (first|simp only[hb,Vc.down,seval,ae5.down,h1,d1,d2,hin,hpc,h2,h3,hp,Qc.cells,htk,f0,c0,v0,l0,r0,p0,n0,i0,hpl,htk24,Tn,i12,hp24,iln,aaN]|refine Qp ?_ ?_<;>intro hb|refine fd ?_|fail)))
 ·subst e1 e2
  have hset:∀a1 a2 a3 a4 a5 a6 a7 a8 a9,(w.parts.map Qc.cells).set i [.int .i64 a1,.int .i64 a2,.bool a3,.bool a4,.int .i64 a5,.int .i64 a6,.bool a7,.int .i64 a8,.int .i64 a9]=(w.parts.set i ⟨a1,a2,a3,a4,a5,a6,a7,a8,a9⟩).map Qc.cells:=fun a1 a2 a3 a4 a5 a6 a7 a8 a9=>by rw[arA];rfl
  have hset2:∀q a1 a2 a3 a4 a5 a6 a7 a8 a9,((w.parts.set i q).map Qc.cells).set i [.int .i64 a1,.int .i64 a2,.bool a3,.bool a4,.int .i64 a5,.int .i64 a6,.bool a7,.int .i64 a8,.int .i64 a9]=(w.parts.set i ⟨a1,a2,a3,a4,a5,a6,a7,a8,a9⟩).map Qc.cells:=fun q a1 a2 a3 a4 a5 a6 a7 a8 a9=>by
   rw[show([.int .i64 a1,.int .i64 a2,.bool a3,.bool a4,.int .i64 a5,.int .i64 a6,.bool a7,.int .i64 a8,.int .i64 a9]:List AV)=Qc.cells ⟨a1,a2,a3,a4,a5,a6,a7,a8,a9⟩from rfl,←arA,List.set_set]
  have hget:∀q,(w.parts.set i q)[i]?=some q:=fun q=>ak2 hil
  simp only[Qc.cells]at hpr
  obtain⟨p1,p2,p3,p4,p5,p6,p7,p8,p9⟩:=p
  rcases hk with rfl|rfl|rfl|rfl
  ·refine⟨true,?_⟩
   (refine ce Tryz.func24 ?_;simp only[Tryz.f24];(have hb:=trivial;with_reducible repeat' (first|simp only[hb,Vc.down,seval,ae5.down,h1,d1,d2,hin,hpc,h2,h3,hp,Qc.cells,htk,f0,c0,v0,l0,r0,p0,n0,i0,hpl,htk24,Tn,i12,hp24,iln,hcl,hpr,hset,hset2,hget,aaN]|refine Qp ?_ ?_<;>intro hb|refine fd ?_|fail)))
   rfl
  ·refine⟨true,?_⟩
   (refine ce Tryz.func24 ?_;simp only[Tryz.f24];(have hb:=trivial;with_reducible repeat' (first|simp only[hb,Vc.down,seval,ae5.down,h1,d1,d2,hin,hpc,h2,h3,hp,Qc.cells,htk,f0,c0,v0,l0,r0,p0,n0,i0,hpl,htk24,Tn,i12,hp24,iln,hcl,hpr,hset,hset2,hget,aaN]|refine Qp ?_ ?_<;>intro hb|refine fd ?_|fail)))
   rfl
  ·cases b
   ·refine⟨true,?_⟩
    (refine ce Tryz.func24 ?_;simp only[Tryz.f24];(have hb:=trivial;with_reducible repeat' (first|simp only[hb,Vc.down,seval,ae5.down,h1,d1,d2,hin,hpc,h2,h3,hp,Qc.cells,htk,f0,c0,v0,l0,r0,p0,n0,i0,hpl,htk24,Tn,i12,hp24,iln,hcl,hpr,hset,hset2,hget,aaN]|refine Qp ?_ ?_<;>intro hb|refine fd ?_|fail)))
    rfl
   ·refine⟨true,?_⟩
    (refine ce Tryz.func24 ?_;simp only[Tryz.f24];(have hb:=trivial;with_reducible repeat' (first|simp only[hb,Vc.down,seval,ae5.down,h1,d1,d2,hin,hpc,h2,h3,hp,Qc.cells,htk,f0,c0,v0,l0,r0,p0,n0,i0,hpl,htk24,Tn,i12,hp24,iln,hcl,hpr,hset,hset2,hget,aaN]|refine Qp ?_ ?_<;>intro hb|refine fd ?_|fail)))
    rfl
  ·refine⟨true,?_⟩
   (refine ce Tryz.func24 ?_;simp only[Tryz.f24];(have hb:=trivial;with_reducible repeat' (first|simp only[hb,Vc.down,seval,ae5.down,h1,d1,d2,hin,hpc,h2,h3,hp,Qc.cells,htk,f0,c0,v0,l0,r0,p0,n0,i0,hpl,htk24,Tn,i12,hp24,iln,hcl,hpr,hset,hset2,hget,aaN]|refine Qp ?_ ?_<;>intro hb|refine fd ?_|fail)))
   rfl
theorem aU1(w:Qh)(i:Int):Up.call (.fn 19) [.agg [.int .i64 w.rooms,.int .i64 w.need,Rn 9 true w.nn (w.parts.map Qc.cells)],.int .i64 i] []=some (.ret (.bool (Ye i 0 (IntKind.i64.wrap ((w.parts.length:Int)-1)))),[]):=by
 have h:=yK i 0 (IntKind.i64.wrap ((w.parts.length:Int)-1))
 (refine ce Tryz.func19 ?_;simp only[Tryz.f19];(have hb:=trivial;with_reducible repeat' (first|simp only[hb,Vc.down,seval,bgA.down,h,aaN]|refine Qp ?_ ?_<;>intro hb|refine fd ?_|fail)))
def ab5(p:Qc)(d k:Int):Bool:=if k=1 then p.valve&& !p.opn else if k=2 then p.opn else if k=3 then !p.opn&&Re p d==1 else !p.opn
def jD(w:Qh)(N:Nat)(L:List (Int × Bool))(i:Nat):Bool:=match L[i]? with
 |some x=>rM x&& !(dO w N L==0)&&dO w N (L.set i (2,x.2))==0
 |none=>false
def alL(w:Qh)(N:Nat)(L:List (Int × Bool)):List Nat:=(aj6 w.parts.length).filter (jD w N L)
def rU(v:AV)(l:List Nat)(h:Qa)(lo:Nat):Prop:=(l=[]∧v=.nils)∨(l≠[]∧∃b,lo≤b∧v=.slr 1 b 0 l.length∧h[b]?=some (.live 1 true false (l.map Zq)))
theorem rU.app{v:AV}{l:List Nat}{h:Qa}{lo:Nat}(B:rU v l h lo)(x:Qa):rU v l (h++x) lo:=by
 rcases B with h1|⟨h1,b,h2,h3,h4⟩
 ·exact .inl h1
 ·exact .inr ⟨h1,b,h2,h3,Qg h4 x⟩
theorem afO{w:Qh}{N:Nat}(hw:qK w N)(h12:w.parts.length≤12)(hs:w.small)(d:Int)(hb0:(Vw w&&aS d)=true)(o:Tu)(h':Qa)
 (c0:alL w N (Qb w d)=[]→(o,h')=(.ret (.tup [.nils,.int .i64 0]),[])) (c1:alL w N (Qb w d)≠[]→(o,h')=(.ret (.tup [.slr 1 0 0 (alL w N (Qb w d)).length,.int .i64 0]),[.live 1 true false ((alL w N (Qb w d)).map Zq)])):
 Up.call (.fn 23) [.agg [.int .i64 w.rooms,.int .i64 w.need,Rn 9 true w.nn (w.parts.map Qc.cells)],.int .i64 d] []=some (o,h'):=by
 have h1:=yW w hs d
 rw[hb0]at h1
 have hpc:=tQ w d false h12
 have hL:=bJ (d:=d) h12
 have hn0:=dS hw h12 d hL false
 have f0:=Vo (Qb w d)
 have k0:=Vn (Qb w d)
 have v0:=eV (Qb w d)
 have l0:=eD (Qb w d)
 have r0:=aK (Qb w d)
 have p0:=cZ (Qb w d)
 have n0:=kP (Qb w d)
 have i0:=kT (Qb w d)
 have hpl:(Sv (Qb w d)).length=24:=by rw[Rh];omega
 have htk24:=adQ (l:=Sv (Qb w d)) (i:=24) (by omega)
 have hen:=fun(L:List (Int × Bool)) (hL:L.length=12)=>dS hw h12 d hL false
 have hel:∀i x,(Qb w d)[i]?=some x→jD w N (Qb w d) i=(rM x&& !(dO w N (Qb w d)==0)&&dO w N ((Qb w d).set i (2,x.2))==0):=fun i x hx=>by unfold jD;rw[hx]
 have hpa:∀i p,w.parts[i]?=some p→(Qb w d)[i]?=some (Re p d,p.opn):=fun i p hp=>bA hp
 unfold alL at c0 c1
 generalize Qb w d=L at *
 (refine ce Tryz.func23 ?_;simp only[Tryz.f23];(have hb:=trivial;with_reducible repeat' (first|simp only[hb,Vc.down,seval,yO.down,h1,hpc,f0,k0,v0,l0,r0,p0,n0,i0,hpl,htk24,aaN]|refine Qp ?_ ?_<;>intro hb|refine fd ?_|fail)))
 refine Wz (lst 57 w.parts (fun i (zz:List Nat × Nat) t h=>t 6=.ptr 1 0 0∧t 8=.ptr 2 0 0∧t 27=.int .i64 (w.parts.length:Nat)∧t 28=.int .i64 i∧(h[1]?=some (.live 4 false false [[.int .i64 w.rooms,.int .i64 w.need,Rn 9 true w.nn (w.parts.map Qc.cells),.int .i64 d]])∧h[2]?=some (.live 24 true true [Sv L])∧zz.2=i∧zz.1.length≤i∧rU (t 9) zz.1 h 3)) (fun rest zz=>zz.1++(aj8 zz.2 rest.length).filter (jD w N L)) (fun r e t h=>e=.exit 0∧rU (t 9) r h 3) ?_ ?_ ([],0) _ _ ?_) (fun e t h hk=>?_)
 ·rintro⟨a,c⟩ t h Q' kQ ⟨h6,h8,h27,h28,⟨hA,hP,hcc,hci,hB⟩⟩
  try dsimp only at *
  (have hb:=trivial;with_reducible repeat' (first|simp only[hb,Vc.down,seval,yO.down,h6,h8,h27,h28,alC,decide_false,hA,aaN]|refine Qp ?_ ?_<;>intro hb|refine fd ?_|fail))
  exact kQ _ _ _ ⟨rfl,by simpa [up]using hB⟩
 ·rintro x rest i ⟨a,c⟩ t h J Q' kJ kQ hx hi ⟨h6,h8,h27,h28,⟨hA,hP,hcc,hci,hB⟩⟩
  have hd:decide ((i:Int)<(w.parts.length:Int))=true:=decide_eq_true (by omega)
  have hw:=Tc hi (by have:=hw.len;unfold maxLen;omega)
  try dsimp only at *
  subst c
  have hy:=hpa i x hx
  have hly:=hel i _ hy
  generalize hyy:(Re x d,x.opn)=y at *
  have htt:=agP y.1 y.2
  rw[show(y.1==0&& !y.2)=rM y from rfl]at htt
  have htk:=gG _ _ _ _ hy
  have hn1:=hen (L.set i (2,y.2)) (by simpa using hL)
  have i12:((i:Int)<12)=True:=eq_true (by omega)
  have hpz:(i*2≤23)=True:=eq_true (by omega)
  have hp24:(i*2+2≤24)=True:=eq_true (by omega)
  have hs1:=lK L i y.1 2 y.2 hy
  have ht1:af8 (24-i*2) [AV.int .i64 2]=[AV.int .i64 2]:=adQ (by simp;omega)
  have f1:=Vo (L.set i (2,y.2))
  have k1:=Vn (L.set i (2,y.2))
  have v1:=eV (L.set i (2,y.2))
  have l1:=eD (L.set i (2,y.2))
  have r1:=aK (L.set i (2,y.2))
  have hpl1:(Sv (L.set i (2,y.2))).length=24:=by rw[Rh];simp;omega
  have htk1:=adQ (l:=Sv (L.set i (2,y.2))) (i:=24) (by omega)
  simp only[aq7,ak0]at hs1
  generalize dO w N (L.set i (2,y.2))=m1 at *
  generalize hm0:dO w N L=m0 at *
  generalize Sv (L.set i (2,y.2))=ps1 at *
  generalize Sv L=ps at *
  have hA1:=Qg hA
  have hP1:=Qg hP
  have no:jD w N L i=false→(aj8 i (rest.length+1)).filter (jD w N L)=(aj8 (i+1) rest.length).filter (jD w N L):=fun e=>by rw[aHN,aY2,e];rfl
  have yes:jD w N L i=true→(aj8 i (rest.length+1)).filter (jD w N L)=i::(aj8 (i+1) rest.length).filter (jD w N L):=fun e=>by rw[aHN,aY2,e];rfl
  have ez:∀n:Nat,((n:Int)==0)=(n==0):=fun n=>by cases n<;>rfl
  have hl2:=Qv hP
  cases t1:rM y
  ·rw[t1]at hly
   (have hb:=trivial;with_reducible repeat' (first|simp only[hb,Vc.down,seval,yO.down,h6,h8,h27,h28,hd,hw,hA,hA1,hP,hP1,htt,t1,htk,hn0,hn1,i12,hpz,hp24,hs1,ht1,f1,k1,v1,l1,r1,hpl,hpl1,htk1,htk24,f0,k0,v0,l0,r0,Tn,aaN]|refine Qp ?_ ?_<;>intro hb|refine fd ?_|fail))
   (refine Qj (kJ _ _ (a,i+1) ⟨?_,?_,?_,?_,⟨hA1 _,hP1 _,rfl,arB hci,hB.app _⟩⟩ ?_);(simp[up,h6]);(simp[up,h8]);(simp[up,h27]);(simp[up]);(rw[ajM,no hly]))
  ·cases z0:(m0==0)
   ·have z0':((m0:Int)==0)=false:=by rw[ez];exact z0
    cases z1:(m1==0)
    ·have z1':((m1:Int)==0)=false:=by rw[ez];exact z1
     rw[t1,z0,z1]at hly
     (have hb:=trivial;with_reducible repeat' (first|simp only[hb,Vc.down,seval,yO.down,z0',z1',bne,h6,h8,h27,h28,hd,hw,hA,hA1,hP,hP1,htt,t1,htk,hn0,hn1,i12,hpz,hp24,hs1,ht1,f1,k1,v1,l1,r1,hpl,hpl1,htk1,htk24,f0,k0,v0,l0,r0,Tn,aaN]|refine Qp ?_ ?_<;>intro hb|refine fd ?_|fail))
     (refine Qj (kJ _ _ (a,i+1) ⟨?_,?_,?_,?_,⟨hA1 _,hP1 _,rfl,arB hci,hB.app _⟩⟩ ?_);(simp[up,h6]);(simp[up,h8]);(simp[up,h27]);(simp[up]);(rw[ajM,no hly]))
    ·have z1':((m1:Int)==0)=true:=by rw[ez];exact z1
     rw[t1,z0,z1]at hly
     have hal:a.length≤i:=hci
     rcases hB with⟨rfl,ho⟩|⟨hne,b,hb3,ho,hb⟩
     ·(have hb:=trivial;with_reducible repeat' (first|simp only[hb,Vc.down,seval,yO.down,ho,z0',z1',bne,h6,h8,h27,h28,hd,hw,hA,hA1,hP,hP1,htt,t1,htk,hn0,hn1,i12,hpz,hp24,hs1,ht1,f1,k1,v1,l1,r1,hpl,hpl1,htk1,htk24,f0,k0,v0,l0,r0,Tn,aaN]|refine Qp ?_ ?_<;>intro hb|refine fd ?_|fail))
      (refine Qj (kJ _ _ ([i],i+1) ⟨?_,?_,?_,?_,⟨hA1 _,hP1 _,rfl,by simp,.inr ⟨by simp,h.length+2,by omega,by simp[up],by rw[arF (by omega),Nat.add_sub_cancel_left];rfl⟩⟩⟩ ?_);(simp[up,h6]);(simp[up,h8]);(simp[up,h27]);(simp[up]);(rw[ajM,yes hly];simp))
     ·have hbl:=Qv hb
      have hB2:=Qg hb
      have hS:=Yg hbl
      have hi39:(a.length+1≤549755813888)=True:=eq_true (by omega)
      (with_reducible repeat' (first|simp only[hb,Vc.down,seval,yO.down,ho,hb,hB2,hS,bP,Zy,List.length_set,hi39,z0',z1',bne,h6,h8,h27,h28,hd,hw,hA,hA1,hP,hP1,htt,t1,htk,hn0,hn1,i12,hpz,hp24,hs1,ht1,f1,k1,v1,l1,r1,hpl,hpl1,htk1,htk24,f0,k0,v0,l0,r0,Tn,aaN]|refine Qp ?_ ?_<;>intro hb|refine fd ?_|fail))
      (refine Qj (kJ _ _ (a++[i],i+1) ⟨?_,?_,?_,?_,⟨qJ _ (by omega) hA _,qJ _ (by omega) hP _,rfl,by simp;omega,.inr ⟨by simp,h.length+2,by omega,by simp[up],by rw[Zy];simp[Zq]⟩⟩⟩ ?_);(simp[up,h6]);(simp[up,h8]);(simp[up,h27]);(simp[up]);(rw[ajM,yes hly];simp))
   ·have z0':((m0:Int)==0)=true:=by rw[ez];exact z0
    rw[t1,z0]at hly
    (have hb:=trivial;with_reducible repeat' (first|simp only[hb,Vc.down,seval,yO.down,z0',bne,h6,h8,h27,h28,hd,hw,hA,hA1,hP,hP1,htt,t1,htk,hn0,hn1,i12,hpz,hp24,hs1,ht1,f1,k1,v1,l1,r1,hpl,hpl1,htk1,htk24,f0,k0,v0,l0,r0,Tn,aaN]|refine Qp ?_ ?_<;>intro hb|refine fd ?_|fail))
    (refine Qj (kJ _ _ (a,i+1) ⟨?_,?_,?_,?_,⟨hA1 _,hP1 _,rfl,arB hci,hB.app _⟩⟩ ?_);(simp[up,h6]);(simp[up,h8]);(simp[up,h27]);(simp[up]);(rw[ajM,no hly]))
 ·exact⟨by simp[up,aU],by simp[up,aU],by simp[up,aU],by simp[up],⟨rfl,rfl,rfl,aoR _,.inl ⟨rfl,by simp[up]⟩⟩⟩
 obtain⟨rfl,hB⟩:=hk
 simp only[ak0,←List.range_eq_range']at hB
 rcases hB with⟨hn,ho⟩|⟨hn,b,hb3,ho,hb⟩
 ·rw[c0 hn]
  (have hb:=trivial;with_reducible repeat' (first|simp only[hb,Vc.down,seval,yO.down,ho]|refine Qp ?_ ?_<;>intro hb|refine fd ?_|fail))
 ·rw[c1 hn]
  generalize hr:List.filter (jD w N L) (aj6 w.parts.length)=r at *
  obtain⟨x,l,rfl⟩:=aA5 hn
  (with_reducible repeat' (first|simp only[hb,Vc.down,seval,yO.down,ho,hb]|refine Qp ?_ ?_<;>intro hb|refine fd ?_|fail))
theorem a8I(l:List Int)(nn:Bool)(n:Int)(hl:l.length≤maxLen):Up.call (.fn 25) [Rn 1 true nn (l.map iv),.int .i64 n] []=some (.ret (.bool (l.any (· ==n))),[]):=by
 (refine ce Tryz.func25 ?_;simp only[Tryz.f25];(have hb:=trivial;with_reducible repeat' (first|simp only[hb,Vc.down,seval,akF.down,aaN]|refine Qp ?_ ?_<;>intro hb|refine fd ?_|fail)))
 refine Wz (lst 18 l (fun i (zz:Unit) t h=>t 0=Rn 1 true nn (l.map iv)∧t 1=.int .i64 n∧t 5=.int .i64 i∧(h=[])) (fun rest zz=>rest.any (· ==n)) (fun r e t h=>h=[]∧((e=.exit 0∧r=false)∨(e=.ret∧t 4=.bool true∧r=true))) ?_ ?_ () _ _ ?_) (fun e t h hk=>?_)
 ·rintro _ t h Q' kQ ⟨h0,h1,h5,rfl⟩
  (have hb:=trivial;with_reducible repeat' (first|simp only[hb,Vc.down,seval,akF.down,h0,h1,h5,alC,decide_false,aaN]|refine Qp ?_ ?_<;>intro hb|refine fd ?_|fail))
  exact kQ _ _ _ ⟨rfl,.inl ⟨rfl,rfl⟩⟩
 ·rintro x rest i _ t h J Q' kJ kQ hx hi ⟨h0,h1,h5,rfl⟩
  have hd:decide ((i:Int)<(l.length:Int))=true:=decide_eq_true (by omega)
  have hw:=Tc hi hl
  cases q:(x==n)
  ·(have hb:=trivial;with_reducible repeat' (first|simp only[hb,Vc.down,seval,akF.down,h0,h1,h5,hd,hw,hx,iv,q,aaN]|refine Qp ?_ ?_<;>intro hb|refine fd ?_|fail))
   (refine Qj (kJ _ _ () ⟨?_,?_,?_,rfl⟩ ?_);(simp[up,h0]);(simp[up,h1]);(simp[up]);(simp[q]))
  ·(have hb:=trivial;with_reducible repeat' (first|simp only[hb,Vc.down,seval,akF.down,h0,h1,h5,hd,hw,hx,iv,q,aaN]|refine Qp ?_ ?_<;>intro hb|refine fd ?_|fail))
   exact kQ _ _ _ ⟨rfl,.inr ⟨rfl,by simp[up],by simp[q]⟩⟩
 ·exact⟨by simp[up,aU],by simp[up,aU],by simp[up],rfl⟩
 obtain⟨rfl,⟨rfl,hr⟩|⟨rfl,h4,hr⟩⟩:=hk
 ·rw[hr]
  (have hb:=trivial;with_reducible repeat' (first|simp only[hb,Vc.down,seval,akF.down]|refine Qp ?_ ?_<;>intro hb|refine fd ?_|fail))
 ·rw[hr]
  (have hb:=trivial;with_reducible repeat' (first|simp only[hb,Vc.down,seval,akF.down,h4]|refine Qp ?_ ?_<;>intro hb|refine fd ?_|fail))
theorem axJ(l:List Nat)(nn:Bool)(n:Nat)(hl:l.length≤maxLen):Up.call (.fn 25) [Rn 1 true nn (l.map Zq),.int .i64 (n:Int)] []=some (.ret (.bool (l.contains n)),[]):=by
 have h:=a8I (l.map as4) nn n (by simpa using hl)
 have e:(l.map as4).map iv=l.map Zq:=by rw[List.map_map];rfl
 have e2:(l.map as4).any (· ==(n:Int))=l.contains n:=by
  clear h e hl
  induction l with
  |nil=>rfl
  |cons a l ih=>
   rw[List.map_cons,List.any_cons,ih,List.contains_cons]
   congr 1
   rw[atH];simp
   omega
 rw[e,e2]at h
 exact h
def Qq(w:Qh)(i:Nat)(q:Qc):Qh:={ w with nn:=true,parts:=w.parts.set i q }
theorem Qk(w:Qh)(i:Nat)(q:Qc):(Qq w i q).parts.length=w.parts.length:=by simp[Qq]
theorem pC{w:Qh}{d:Int}{i:Nat}{q:Qc}(hi:i<w.parts.length):Qb (Qq w i q) d=(Qb w d).set i (Re q d,q.opn):=by
 unfold Qb
 rw[Qk,List.set_append_left _ _ (by simpa using hi),←arA]
 rfl
theorem alH{w:Qh}{i:Nat}{p q:Qc}(hp:w.parts[i]?=some p)(h1:q.one=p.one)(h2:q.other=p.other)(ts:List Bool):zE (Qq w i q) ts=zE w ts:=by
 unfold zE Qq
 apply auE
 intro j
 simp only[aY3]
 by_cases e:i=j
 ·subst e
  rw[ak2 (afJ.1 hp).1,hp]
  cases ts[i]? with
  |none=>rfl
  |some t=>simp only[h1,h2]
 ·rw[auG e]
theorem aaV{w:Qh}{N:Nat}{i:Nat}{p q:Qc}(hp:w.parts[i]?=some p)(h1:q.one=p.one)(h2:q.other=p.other)(L:List (Int × Bool)):dO (Qq w i q) N L=dO w N L:=by
 unfold dO
 rw[alH hp h1 h2,Qk]
theorem ahF{w:Qh}{N:Nat}{d:Int}{i:Nat}{p q:Qc}(hp:w.parts[i]?=some p)(h1:q.one=p.one)(h2:q.other=p.other):amY (Qq w i q) N d=dO w N ((Qb w d).set i (Re q d,q.opn)):=by
 rw[←aeV,pC (afJ.1 hp).1,aaV hp h1 h2]
theorem wX{w:Qh}(h:Vw w=true){i:Nat}{q:Qc}(hq:Xa w.rooms q=true):Vw (Qq w i q)=true:=by
 simp only[Vw,abW,ae2]at h ⊢
 obtain⟨⟨⟨h1,h2⟩,h3⟩,h4⟩:=h
 refine⟨⟨⟨h1,h2⟩,by rw[Qk];exact h3⟩,?_⟩
 rw[ajY]at h4 ⊢
 intro x hx
 rcases auQ hx with hx|rfl
 ·exact h4 x hx
 ·exact hq
theorem rR{w:Qh}(hs:w.small){i:Nat}{q:Qc}(hq:q.fits):(Qq w i q).small:=⟨by rw[Qk];exact hs.parts,fun x hx=>by
 rcases auQ hx with hx|rfl
 ·exact hs.fits x hx
 ·exact hq,hs.rooms,hs.need⟩
theorem yB{w:Qh}{N:Nat}(hw:qK w N){L:List (Int × Bool)}{i:Nat}{x y:Int × Bool}(hi:i<L.length)(hxy:rM x=true→rM y=true):dO w N (L.set i x)≤dO w N (L.set i y):=by
 have n2:=hw.n2
 have n8:=hw.n8
 have get:∀(z:Int × Bool) (j:Nat),(zE w (tgt (L.set i z)))[j]?=(w.parts[j]?).bind fun p=>(L[j]?).map fun u=>(p.one.toNat,p.other.toNat,if rM (if i=j then z else u)=true then 1 else 0):=fun z j=>by
  unfold zE tgt
  rw[aY3,aHA]
  by_cases e:i=j
  ·subst e
   rw[ak2 hi,akX hi]
   cases w.parts[i]?<;>simp
  ·rw[auG e]
   cases w.parts[j]? with
   |none=>rfl
   |some p=>cases L[j]?<;>simp[e]
 refine aoX n2 (by omega) (uK hw _) (uK hw _) (fun a b c' hc=>?_) (fun a b c hc=>?_)
 ·obtain⟨j,hj⟩:=avR hc
  rw[get]at hj
  obtain⟨p,h1,hj⟩:=aY5.1 hj
  obtain⟨u,h2,hj⟩:=aq8.1 hj
  refine⟨if rM (if i=j then x else u)=true then 1 else 0,ai0 (i:=j) ?_,?_⟩
  ·rw[get,h1,h2]
   simp only[adC,ag1,awB.injEq,Prod.mk.injEq]at hj ⊢
   exact⟨hj.1,hj.2.1,trivial⟩
  ·simp only[Prod.mk.injEq]at hj
   rw[←hj.2.2]
   by_cases e:i=j
   ·rw[if_pos e,if_pos e]
    by_cases t:rM x=true
    ·rw[if_pos t,if_pos (hxy t)];exact aoR _
    ·rw[if_neg t];exact Nat.zero_le _
   ·rw[if_neg e,if_neg e];exact aoR _
 ·obtain⟨j,hj⟩:=avR hc
  rw[get]at hj
  obtain⟨p,h1,hj⟩:=aY5.1 hj
  obtain⟨u,h2,hj⟩:=aq8.1 hj
  refine⟨if rM (if i=j then y else u)=true then 1 else 0,ai0 (i:=j) ?_⟩
  rw[get,h1,h2]
  simp only[adC,ag1,awB.injEq,Prod.mk.injEq]at hj ⊢
  exact⟨hj.1,hj.2.1,trivial⟩
theorem asF{w:Qh}{N:Nat}(hw:qK w N){L:List (Int × Bool)}{i:Nat}{x y:Int × Bool}(hi:i<L.length)(hxy:rM x=rM y):dO w N (L.set i x)=dO w N (L.set i y):=
 Nat.le_antisymm (yB hw hi (fun h=>hxy▸h)) (yB hw hi (fun h=>hxy▸h))
theorem ac9{α:Type}{L:List α}{i:Nat}{x:α}(hx:L[i]?=some x):L.set i x=L:=by
 apply auE
 intro j
 by_cases e:i=j
 ·subst e;rw[ak2 (afJ.1 hx).1,hx]
 ·rw[auG e]
theorem mR{w:Qh}(h:Vw w=true){i:Nat}{p:Qc}(hp:w.parts[i]?=some p):Xa w.rooms p=true:=by
 simp only[Vw,ae2,ajY]at h
 exact h.2 p (ai0 hp)
theorem ab4{N:Int}{p:Qc}(h:Xa N p=true):(p.opn=true→p.valve=true)∧0≤p.tested∧p.tested≤5000∧0≤p.valid∧p.valid≤5000∧1≤p.test∧1≤p.change:=by
 simp only[Xa,aS,Ye,ae2,decide_eq_true_eq,aY6,Bool.and_eq_false_iff,Bool.not_eq_false']at h
 obtain⟨⟨⟨⟨⟨⟨⟨a1,a2⟩,a3⟩,a4⟩,a5⟩,a6⟩,a7⟩,a8⟩:=h
 refine⟨fun e=>?_,a5.1,a5.2,a6.1,a6.2,a7.1,a8.1⟩
 rcases a4 with a4|a4
 ·rw[e]at a4;cases a4
 ·exact a4
theorem ak7{w:Qh}(h:Vw w=true){i:Nat}{p:Qc}(hp:w.parts[i]?=some p)(d k:Int):aM p (Re p d,p.opn) k=ab5 p d k:=by
 have hv:=(ab4 (mR h hp)).1
 unfold aM ab5
 by_cases k1:k=1
 ·rw[if_pos k1,if_pos k1]
 by_cases k2:k=2
 ·rw[if_neg k1,if_neg k1,if_pos k2,if_pos k2]
  cases ho:p.opn
  ·simp
  ·simp[hv ho]
 rw[if_neg k1,if_neg k1,if_neg k2,if_neg k2]
def abN(p:Qc)(k:Int):Qc:=if k=1 then { p with opn:=true }else if k=4 then { p with bad:=true }else p
theorem abQ(p:Qc)(k:Int):(abN p k).one=p.one∧(abN p k).other=p.other:=by
 unfold abN
 split
 ·exact⟨rfl,rfl⟩
 ·split<;>exact⟨rfl,rfl⟩
theorem aoB(p:Qc)(d k:Int)(b:Bool):(Qw p d k b).one=p.one∧(Qw p d k b).other=p.other:=by
 unfold Qw
 split
 ·exact⟨rfl,rfl⟩
 ·split
  ·exact⟨rfl,rfl⟩
  ·split
   ·split<;>exact⟨rfl,rfl⟩
   ·exact⟨rfl,rfl⟩
theorem aa3{N:Int}{p:Qc}(h:Xa N p=true){d k:Int}(hd:aS d=true)(hc:ab5 p d k=true)(b:Bool):Xa N (Qw p d k b)=true:=by
 unfold Qw
 split
 ·rename_i e
  subst e
  simp only[ab5,if_true,ae2]at hc
  simp only[Xa,hc.1,ae2]at h ⊢
  simpa using h
 ·split
  ·simp only[Xa,ae2]at h ⊢
   simp only[Bool.false_and,Bool.not_false]
   simp_all
  ·split
   ·split
    ·simp only[Xa,ae2]at h ⊢
     simp_all
    ·exact h
   ·simp only[Xa,ae2]at h ⊢
    simp_all
theorem abH{p:Qc}{d:Int}(hd:aS d=true)(hv:0≤p.valid∧p.valid≤5000):Re { p with bad:=false,tested:=d } d=0:=by
 simp only[aS,Ye,ae2,decide_eq_true_eq]at hd
 simp only[Re,akY,if_false]
 rw[Us (by omega) (by omega),if_neg (by omega)]
theorem akH{N:Int}{p:Qc}(h:Xa N p=true){d k:Int}(hk:k=1∨k=2∨k=3∨k=4)(hd:aS d=true)(b:Bool):(Re (Qw p d k b) d,(Qw p d k b).opn)=Tf k b (Re p d,p.opn):=by
 obtain⟨_,_,_,h4,h5,_⟩:=ab4 h
 rcases hk with rfl|rfl|rfl|rfl
 ·rfl
 ·rfl
 ·cases b
  ·show(Re { p with bad:=true } d,p.opn)=(2,p.opn)
   simp[Re]
  ·show(Re { p with bad:=false,tested:=d } d,p.opn)=(0,p.opn)
   rw[abH hd ⟨h4,h5⟩]
 ·show(Re { p with bad:=false,tested:=d } d,p.opn)=(0,p.opn)
  rw[abH hd ⟨h4,h5⟩]
theorem ajS(p:Qc)(d k:Int):(Re (abN p k) d,(abN p k).opn)=if k=1 then(Re p d,true)else if k=4 then(2,p.opn)else(Re p d,p.opn):=by
 unfold abN
 split
 ·rfl
 ·split
  ·simp[Re]
  ·rfl
theorem as8{w:Qh}{N:Nat}{d:Int}{i:Nat}{p:Qc}(hp:w.parts[i]?=some p)(k:Int):amY (Qq w i (abN p k)) N d=dO w N ((Qb w d).set i (if k=1 then(Re p d,true)else if k=4 then(2,p.opn)else(Re p d,p.opn))):=by
 rw[ahF hp (abQ p k).1 (abQ p k).2,ajS]
theorem tZ(w:Qh)(N:Nat)(L:List (Int × Bool)):Uh w N L≤(dO w N L:Int)∧Uh w N L≤w.need:=by
 unfold Uh
 split<;>omega
theorem acH{w:Qh}{N:Nat}(hw:qK w N)(h12:w.parts.length≤12){d:Int}{i:Nat}{p:Qc}(hp:w.parts[i]?=some p){k:Int}(hk:k=1∨k=2∨k=3∨k=4)(b:Bool)(hc:ab5 p d k=true):
 Xq w N (Qb w d) k i b (Re p d,p.opn)=decide ((amY (Qq w i (abN p k)) N d:Int)≥Uh w N (Qb w d)):=by
 have hx:=bA (d:=d) hp
 have hil:i<(Qb w d).length:=(afJ.1 hx).1
 have hll:=(tZ w N (Qb w d)).1
 rw[as8 hp]
 unfold Xq
 have mono:=fun x y=>yB (x:=x) (y:=y) hw hil
 have hself:=ac9 hx
 generalize Uh w N (Qb w d)=lb at *
 generalize Qb w d=L at *
 rcases hk with rfl|rfl|rfl|rfl
 ·rfl
 ·have h1:=mono (Re p d,p.opn) (Re p d,false) (by simp[rM];exact fun h _=>h)
  rw[hself]at h1
  have e1:Tf 2 b (Re p d,p.opn)=(Re p d,false):=rfl
  simp only[e1,hself,aq3,if_false]
  rw[decide_eq_true (by omega:(dO w N (L.set i (Re p d,false)):Int)≥lb),decide_eq_true (by omega:(dO w N L:Int)≥lb)]
  rfl
 ·simp only[ab5,aq3,if_false,if_true,ae2,beq_iff_eq]at hc
  have h1:=mono (Re p d,p.opn) (Tf 3 b (Re p d,p.opn)) (by simp[rM,hc.2])
  rw[hself]at h1
  simp only[hself,aq3,if_false]
  rw[decide_eq_true (by omega:(dO w N (L.set i (Tf 3 b (Re p d,p.opn))):Int)≥lb),decide_eq_true (by omega:(dO w N L:Int)≥lb)]
  rfl
 ·have h1:=mono (2,p.opn) (Tf 4 b (Re p d,p.opn)) (by simp[rM])
  simp only[aq3,if_false,if_true]
  by_cases hq:(dO w N (L.set i (2,p.opn)):Int)≥lb
  ·rw[decide_eq_true hq,decide_eq_true (by omega:(dO w N (L.set i (Tf 4 b (Re p d,p.opn))):Int)≥lb),decide_eq_false (by omega)]
   rfl
  ·rw[decide_eq_false hq,decide_eq_true (by omega:(dO w N (L.set i (2,p.opn)):Int)<lb)]
   rfl
theorem Yb{w:Qh}{N:Nat}(hw:qK w N){d:Int}{i:Nat}{p:Qc}(hp:w.parts[i]?=some p){k:Int}(hk:k=1∨k=4)(b:Bool)(hn:0<w.need)(ha:jD w N (Qb w d) i=true):Xq w N (Qb w d) k i b (Re p d,p.opn)=false:=by
 have hx:=bA (d:=d) hp
 have hil:i<(Qb w d).length:=(afJ.1 hx).1
 unfold jD at ha
 rw[hx]at ha
 simp only[ae2,aY6,beq_eq_false_iff_ne,ne_eq,beq_iff_eq]at ha
 obtain⟨⟨_,h0⟩,h1⟩:=ha
 have hl:1≤Uh w N (Qb w d):=by
  unfold Uh
  split<;>omega
 unfold Xq
 rcases hk with rfl|rfl
 ·have e:Tf 1 b (Re p d,p.opn)=(Re p d,true):=rfl
  rw[e,asF hw hil (x:=(Re p d,true)) (y:=(2,p.opn)) (by simp[rM]),h1]
  rw[decide_eq_false (by omega:¬(((0:Nat):Int)≥Uh w N (Qb w d)))]
  simp
 ·rw[h1,decide_eq_true (by omega:((0:Nat):Int)<Uh w N (Qb w d))]
  rfl
theorem ayO{w:Qh}{N:Nat}{L:List (Int × Bool)}{i:Nat}(hi:i<w.parts.length):(alL w N L).contains i=jD w N L i:=by
 rw[atH,List.contains_iff_mem]
 unfold alL
 rw[List.mem_filter,ajV]
 exact⟨fun h=>h.2,fun h=>⟨hi,h⟩⟩
abbrev St:=List (Int × Bool) × Nat
def Sl(s:St):List AV:=Sv s.1++[.int .i64 (s.2:Int)]
def fU(p:Qc)(k:Int):Int:=if k=3 then p.test else if k=4 then p.change else 1
structure Zh where
 k:Int
 i:Nat
 c:Int
 to:List St
def zW(L:List (Int × Bool))(f:Nat)(k:Int)(i:Nat)(x:Int × Bool):List St:=(L.set i (Tf k true x),f)::if k=3∧0<f then [(L.set i (Tf k false x),f-1)]else []
def qA(w:Qh)(N:Nat)(s:St)(k:Int)(i:Nat):Option Zh:=
 match w.parts[i]?,s.1[i]? with
 |some p,some x=>if(aM p x k&&Xq w N s.1 k i true x)=true then some ⟨k,i,fU p k,zW s.1 s.2 k i x⟩else none
 |_,_=>none
def oI(w:Qh)(N:Nat)(s:St)(k:Int):List Zh:=(aj6 w.parts.length).filterMap (qA w N s k)
def Tj(w:Qh)(N:Nat)(s:St):List Zh:=oI w N s 1++(oI w N s 2++(oI w N s 3++oI w N s 4))
structure Vg where
 part:Int
 opn:Bool
 good:Bool
def Vg.cells(x:Vg):List AV:=[.int .i64 x.part,.bool x.opn,.bool x.good]
def oG(L:List (Int × Bool))(x:Vg):Bool:=match L[x.part.toNat]? with
 |some q=>q.2==x.opn&&(!x.good||q.1==0)
 |none=>false
def kS(L:List (Int × Bool))(l:List Vg):Bool:=l.all (oG L)
def Zx(w:Qh)(N:Nat)(l:List Vg):Go.Ev.qE St:=⟨fun s=>kS s.1 l,fun s=>(Tj w N s).map fun o=>(o.c.toNat,o.to)⟩
def cod(L:List (Int × Bool)):Nat:=L.foldr (fun x a=>2*x.1.toNat+x.2.toNat+6*a) 0
theorem sV(x:Int × Bool)(L:List (Int × Bool)):cod (x::L)=2*x.1.toNat+x.2.toNat+6*cod L:=rfl
theorem aoL(b:Bool):b.toNat≤1:=by cases b<;>decide
theorem aRS:∀a b:Bool,a.toNat=b.toNat→a=b:=by decide
theorem am9:∀{L:List (Int × Bool)},(∀x∈L,0≤x.1∧x.1≤2)→cod L<6 ^ L.length
 | [],_=>by decide
 |x::L,h=>by
  have ih:=am9 (L:=L) fun y hy=>h y (by simp[hy])
  have hx:=h x (by simp)
  have hb:=aoL x.2
  rw[sV,ajM,Nat.pow_succ]
  omega
theorem agK:∀{L M:List (Int × Bool)},L.length=M.length→(∀x∈L,0≤x.1∧x.1≤2)→(∀x∈M,0≤x.1∧x.1≤2)→cod L=cod M→L=M
 | [],[],_,_,_,_=>rfl
 | [],_::_,h,_,_,_=>by simp at h
 |_::_,[],h,_,_,_=>by simp at h
 |x::L,y::M,hl,h1,h2,e=>by
  rw[sV,sV]at e
  have hx:=h1 x (by simp)
  have hy:=h2 y (by simp)
  have bx:=aoL x.2
  have by':=aoL y.2
  have e1:x.1=y.1:=by omega
  have e2:x.2=y.2:=aRS _ _ (by omega)
  have e3:cod L=cod M:=by omega
  have e4:=agK (L:=L) (M:=M) (by simpa using hl) (fun z hz=>h1 z (by simp[hz])) (fun z hz=>h2 z (by simp[hz])) e3
  rw[e4,show x=y from Prod.ext e1 e2]
structure InU(n:Nat)(s0 s:St):Prop where
 l12:s.1.length=12
 dg:∀x∈s.1,0≤x.1∧x.1≤2
 tl:s.1.drop n=s0.1.drop n
 fl:s.2≤s0.2
theorem vW{n:Nat}{s0:St}(hn:n≤6)(h3:s0.2≤3)(L:List St)(hd:L.Nodup)(h:∀s∈L,InU n s0 s):L.length≤186624:=by
 have hpow:6 ^ n≤46656:=Nat.le_trans (Nat.pow_le_pow_right (by decide) hn) (by decide)
 have tk:∀s∈L,(s.1.take n).length=n∧∀x∈s.1.take n,0≤x.1∧x.1≤2:=fun s hs=>⟨by rw[List.length_take,(h s hs).l12];omega,fun x hx=>(h s hs).dg x (List.mem_of_mem_take hx)⟩
 have inj:(L.map fun s=>cod (s.1.take n)*4+s.2).Nodup:=by
  rw[List.nodup_iff_pairwise_ne,List.pairwise_map]
  refine List.Pairwise.imp_of_mem (R:=fun a b=>a≠b) ?_ hd
  intro a b ha hb hab e
  have e:cod (a.1.take n)*4+a.2=cod (b.1.take n)*4+b.2:=e
  have fa:=(h a ha).fl
  have fb:=(h b hb).fl
  have e1:cod (a.1.take n)=cod (b.1.take n):=by omega
  have e2:a.2=b.2:=by omega
  have e3:=agK ((tk a ha).1.trans (tk b hb).1.symm) (tk a ha).2 (tk b hb).2 e1
  have e4:a.1=b.1:=by rw[←aY7 n a.1,←aY7 n b.1,e3,(h a ha).tl,(h b hb).tl]
  exact hab (Prod.ext e4 e2)
 have:=Snake.nodup_sub (m:=aj6 186624) inj fun x hx=>by
  obtain⟨s,hs,rfl⟩:=List.mem_map.1 hx
  have:=am9 (tk s hs).2
  rw[(tk s hs).1]at this
  have hf:=(h s hs).fl
  rw[ajV]
  show cod (s.1.take n)*4+s.2<186624
  omega
 rw[aaN,List.length_range]at this
 exact this
theorem agM{n:Nat}{s0 s:St}(h:InU n s0 s){i:Nat}(hi:i<n){y:Int × Bool}(hy:0≤y.1∧y.1≤2){f:Nat}(hf:f≤s.2):InU n s0 (s.1.set i y,f):=
 ⟨by simpa using h.l12,fun x hx=>by
   rcases auQ hx with hx|rfl
   ·exact h.dg x hx
   ·exact hy,by rw[List.drop_set_of_lt hi];exact h.tl,Nat.le_trans hf h.fl⟩
structure anU(w:Qh)(N:Nat)(s:St)(o:Zh)(p:Qc)(x:Int × Bool):Prop where
 k4:o.k=1∨o.k=2∨o.k=3∨o.k=4
 hp:w.parts[o.i]?=some p
 hx:s.1[o.i]?=some x
 can:aM p x o.k=true
 safe:Xq w N s.1 o.k o.i true x=true
 c:o.c=fU p o.k
 to:o.to=zW s.1 s.2 o.k o.i x
theorem acX{w:Qh}{N:Nat}{s:St}{k:Int}(hk:k=1∨k=2∨k=3∨k=4){i:Nat}{o:Zh}:qA w N s k i=some o↔o.k=k∧o.i=i∧∃p x,anU w N s o p x:=by
 constructor
 ·intro h
  unfold qA at h
  cases hp:w.parts[i]? with
  |none=>rw[hp]at h;cases h
  |some p=>
   cases hx:s.1[i]? with
   |none=>rw[hp,hx]at h;cases h
   |some x=>
    rw[hp,hx]at h
    simp only at h
    split at h
    ·rename_i hc
     simp only[ae2]at hc
     cases h
     exact⟨rfl,rfl,p,x,hk,hp,hx,hc.1,hc.2,rfl,rfl⟩
    ·cases h
 ·rintro⟨rfl,rfl,p,x,I⟩
  unfold qA
  rw[I.hp,I.hx]
  simp only[I.can,I.safe,Bool.and_self,if_true]
  obtain⟨k,i,c,to⟩:=o
  have h1:=I.c
  have h2:=I.to
  simp only at h1 h2
  rw[h1,h2]
theorem lO{w:Qh}{N:Nat}{s:St}{k:Int}(hk:k=1∨k=2∨k=3∨k=4){o:Zh}:o∈oI w N s k↔o.k=k∧∃p x,anU w N s o p x:=by
 unfold oI
 rw[List.mem_filterMap]
 constructor
 ·rintro⟨i,_,h⟩
  obtain⟨h1,_,h3⟩:=(acX hk).1 h
  exact⟨h1,h3⟩
 ·rintro⟨h1,p,x,I⟩
  exact⟨o.i,ajV.2 (afJ.1 I.hp).1,(acX hk).2 ⟨h1,rfl,p,x,I⟩⟩
theorem dE{w:Qh}{N:Nat}{s:St}{o:Zh}:o∈Tj w N s↔∃p x,anU w N s o p x:=by
 unfold Tj
 simp only[aw2,lO (k:=1) (by simp),lO (k:=2) (by simp),lO (k:=3) (by simp),lO (k:=4) (by simp)]
 constructor
 ·rintro(⟨_,h⟩|⟨_,h⟩|⟨_,h⟩|⟨_,h⟩)<;>exact h
 ·rintro⟨p,x,I⟩
  rcases I.k4 with e|e|e|e
  ·exact .inl ⟨e,p,x,I⟩
  ·exact .inr (.inl ⟨e,p,x,I⟩)
  ·exact .inr (.inr (.inl ⟨e,p,x,I⟩))
  ·exact .inr (.inr (.inr ⟨e,p,x,I⟩))
theorem jJ{w:Qh}(h:Vw w=true){i:Nat}{p:Qc}(hp:w.parts[i]?=some p)(k:Int):1≤fU p k∧fU p k≤1000:=by
 have h:=mR h hp
 simp only[Xa,Ye,ae2,decide_eq_true_eq]at h
 obtain⟨⟨_,a7⟩,a8⟩:=h
 unfold fU
 split
 ·exact a7
 ·split
  ·exact a8
  ·decide
theorem anE{k:Int}{b:Bool}{x:Int × Bool}(h:0≤x.1∧x.1≤2):0≤(Tf k b x).1∧(Tf k b x).1≤2:=by
 unfold Tf
 split
 ·exact h
 ·split
  ·exact h
  ·split
   ·split<;>exact⟨by simp,by simp⟩
   ·exact⟨by simp,by simp⟩
theorem avX(L:List (Int × Bool))(f:Nat)(k:Int)(i:Nat)(x:Int × Bool):zW L f k i x≠[]∧(zW L f k i x).length≤2:=by
 unfold zW;split<;>simp
theorem jH{L:List (Int × Bool)}{f:Nat}{k:Int}{i:Nat}{x:Int × Bool}{s:St}:s∈zW L f k i x↔s=(L.set i (Tf k true x),f)∨(k=3∧0<f∧s=(L.set i (Tf k false x),f-1)):=by
 unfold zW
 split
 ·rename_i h;simp[h.1,h.2]
 ·rename_i h
  rw[List.mem_singleton]
  constructor
  ·exact .inl
  ·rintro(h'|⟨a,b,_⟩)
   ·exact h'
   ·exact absurd ⟨a,b⟩ h
theorem rA{w:Qh}{N:Nat}(hb:Vw w=true){s0 s:St}(h:InU w.parts.length s0 s){o:Zh}(ho:o∈Tj w N s):1≤o.c∧o.c≤1000∧o.to≠[]∧o.to.length≤2∧∀x∈o.to,InU w.parts.length s0 x:=by
 obtain⟨p,x,I⟩:=dE.1 ho
 have hv:=jJ hb I.hp o.k
 have hl:=avX s.1 s.2 o.k o.i x
 have hil:=(afJ.1 I.hp).1
 have hxd:=h.dg x (ai0 I.hx)
 refine⟨by rw[I.c];exact hv.1,by rw[I.c];exact hv.2,by rw[I.to];exact hl.1,by rw[I.to];exact hl.2,fun y hy=>?_⟩
 rw[I.to]at hy
 rcases jH.1 hy with rfl|⟨_,_,rfl⟩
 ·exact agM h hil (anE hxd) (aoR _)
 ·exact agM h hil (anE hxd) (Nat.sub_le _ _)
theorem Yf{s:St}(h:s.1.length=12):(Sl s).length=25:=by simp[Sl,Rh,h]
theorem Wj(s:St):(Sl s).all AV.flat=true:=by
 unfold Sl;rw[aY8,Vo];rfl
theorem Ww(s:St):(Sl s).all AV.isCell=true:=by
 unfold Sl;rw[aY8,Vn];rfl
theorem tA{L:List (Int × Bool)}{i:Nat}{x:Int × Bool}(h:L[i]?=some x):Zn.partOf Tryz.prog 80 (Sv L) (i*2)=some (.agg [.int .i64 x.1,.bool x.2]):=by
 have h1:cU Tryz.prog 80=some true:=by kernel_rfl
 have h2:Zo Tryz.prog 80=some 2:=by kernel_rfl
 obtain⟨a,b⟩:=x
 simp only[Zn.partOf,h1,h2,adC,if_true,ag1,gG L i a b h]
theorem ajA(d:Nat)(x y:Int × Bool):Zn Tryz.prog (d+2) 80 (.agg [.int .i64 x.1,.bool x.2]) (.agg [.int .i64 y.1,.bool y.2])=some (decide (x=y)):=by
 have h0:Tryz.prog.stoodInHeld 80=false:=by kernel_rfl
 have h1:cU Tryz.prog 78=some false:=by kernel_rfl
 have h2:cU Tryz.prog 4=some false:=by kernel_rfl
 unfold Zn
 simp only[Tryz.underlying80,h0,akY,if_false,Zn.eqL,Zn.partOf,h1,h2,adC,aY9,aw4]
 unfold Zn
 simp only[Tryz.underlying78,Tryz.underlying4,if_true,adC]
 obtain⟨a,b⟩:=x
 obtain⟨c,e⟩:=y
 by_cases q1:a=c<;>by_cases q2:b=e<;>simp[q1,q2]
theorem af2(d:Nat){a b:List (Int × Bool)}(ha:a.length=12)(hb:b.length=12):∀l:List Nat,(∀i∈l,i<12)→Zn.eqA Tryz.prog (Zn Tryz.prog (d+2) 80) 80 2 (Sv a) (Sv b) l=some (decide (∀i∈l,a[i]?=b[i]?))
 | [],_=>by simp[Zn.eqA]
 |i::l,h=>by
  have hi:=h i (by simp)
  have e1:a[i]?=some a[i]:=akX (by omega)
  have e2:b[i]?=some b[i]:=akX (by omega)
  have ih:=af2 d ha hb l fun j hj=>h j (aw6 _ hj)
  simp only[Zn.eqA,tA e1,tA e2,adC,ajA,ih]
  by_cases q:a[i]=b[i]
  ·simp[q,e1,e2]
  ·simp[q,e1,e2]
theorem aU0{a b:St}(ha:a.1.length=12)(hb:b.1.length=12):Zn Tryz.prog 12 85 (.agg (Sl a)) (.agg (Sl b))=some (decide (a=b)):=by
 have h0:Tryz.prog.stoodInHeld 85=false:=by kernel_rfl
 have h1:cU Tryz.prog 82=some true:=by kernel_rfl
 have h2:cU Tryz.prog 3=some false:=by kernel_rfl
 have h3:Zo Tryz.prog 82=some 24:=by kernel_rfl
 have h4:Zo Tryz.prog 80=some 2:=by kernel_rfl
 have tk:∀s:St,s.1.length=12→af8 24 (Sl s)=Sv s.1:=fun s h=>by
  unfold Sl;rw[aZA (by rw[Rh];omega),adQ (by rw[Rh];omega)]
 have gt:∀s:St,s.1.length=12→(Sl s)[24]?=some (.int .i64 (s.2:Int)):=fun s h=>by
  unfold Sl;rw[arF (by rw[Rh];omega),Rh,h];rfl
 have hA:Zn Tryz.prog 11 82 (.agg (Sv a.1)) (.agg (Sv b.1))=some (decide (a.1=b.1)):=by
  unfold Zn
  simp only[Tryz.underlying82,h4,adC]
  rw[af2 8 ha hb (aj6 12) (fun i hi=>ajV.1 hi)]
  congr 1
  rw[decide_eq_decide]
  constructor
  ·intro h
   refine auE fun i=>?_
   by_cases hi:i<12
   ·exact h i (ajV.2 hi)
   ·rw[aZL (by omega),aZL (by omega)]
  ·intro h i _;rw[h]
 have hI:Zn Tryz.prog 11 3 (.int .i64 (a.2:Int)) (.int .i64 (b.2:Int))=some (decide (a.2=b.2)):=by
  unfold Zn
  simp only[Tryz.underlying3,if_true]
  congr 1
  rw[atH];simp;omega
 unfold Zn
 simp only[Tryz.underlying85,h0,akY,if_false,Zn.eqL,Zn.partOf,h1,h2,h3,adC,if_true,ag1,a0J,tk a ha,tk b hb,gt a ha,gt b hb,hA,hI]
 obtain⟨x,f⟩:=a
 obtain⟨y,g⟩:=b
 by_cases q1:x=y<;>by_cases q2:f=g<;>simp[q1,q2]
def Ua(kvs:List AV):CB:=.lp [] .skip .skip kvs .map
def Vk(L:List St)(v:St→AV):List AV:=L.flatMap fun s=>[.agg (Sl s),v s]
def zQ(L:List St):Prop:=∀s∈L,s.1.length=12
theorem adY(d:Nat)(x:Int × Bool):dW Tryz.prog (d+2) 80 (.agg [.int .i64 x.1,.bool x.2])=true:=by
 have h1:cU Tryz.prog 78=some false:=by kernel_rfl
 have h2:cU Tryz.prog 4=some false:=by kernel_rfl
 unfold dW
 simp only[Tryz.underlying80,Zn.partOf,h1,h2,adC,List.all_cons,List.all_nil,akY,if_false,aY9,aw4,ag1,akZ]
 unfold dW
 simp only[Tryz.underlying78,Tryz.underlying4]
 rfl
theorem kK{s:St}(hs:s.1.length=12):adG Tryz.prog 85 (.agg (Sl s))=true:=by
 have h1:cU Tryz.prog 82=some true:=by kernel_rfl
 have h2:cU Tryz.prog 3=some false:=by kernel_rfl
 have h3:Zo Tryz.prog 82=some 24:=by kernel_rfl
 have h4:Zo Tryz.prog 80=some 2:=by kernel_rfl
 have tk:af8 24 (Sl s)=Sv s.1:=by
  unfold Sl;rw[aZA (by rw[Rh];omega),adQ (by rw[Rh];omega)]
 have gt:(Sl s)[24]?=some (.int .i64 (s.2:Int)):=by
  unfold Sl;rw[arF (by rw[Rh];omega),Rh,hs];rfl
 have hA:dW Tryz.prog 4 82 (.agg (Sv s.1))=true:=by
  unfold dW
  simp only[Tryz.underlying82,h4,ag1,akZ]
  rw[ajY]
  intro i hi
  have hi:=ajV.1 hi
  have e1:s.1[i]?=some s.1[i]:=akX (by omega)
  rw[tA e1,ag1,akZ,adY 1]
 have hI:dW Tryz.prog 4 3 (.int .i64 (s.2:Int))=true:=by
  unfold dW
  simp only[Tryz.underlying3]
  rfl
 unfold adG
 simp only[Wj,Bool.and_true]
 unfold dW
 simp only[Tryz.underlying85,Zn.partOf,h1,h2,h3,adC,List.all_cons,List.all_nil,akY,if_false,if_true,ag1,akZ,a0J,tk,gt,hA,hI,Bool.and_true]
theorem cJ{s:St}(hs:s.1.length=12)(v:St→AV):∀(L:List St) (i:Nat),zQ L→fA Tryz.prog 85 (.agg (Sl s)) (Vk L v) i=some (if s∈L then some (i+L.idxOf s,v s)else none)
 | [],i,_=>rfl
 |a::L,i,h=>by
  have ha:=h a (by simp)
  have ih:=cJ hs v L (i+1) fun x hx=>h x (aw6 _ hx)
  show fA _ _ _ (.agg (Sl a)::v a::Vk L v) i=_
  simp only[fA,aU0 hs ha,adC,ih]
  by_cases e:s=a
  ·subst e;simp
  ·have e2:(a==s)=false:=by simp;exact fun h=>e h.symm
   simp only[decide_eq_true_eq,e,if_false,aq4,false_or,a0K,e2,cond_false,awB.injEq]
   split
   ·rw[show i+1+aq5 s L=i+(aq5 s L+1) by omega]
   ·rfl
theorem amG(v:St→AV):∀(L:List St) (n:Nat),(Vk L v)[2*n]?=L[n]?.map fun s=>.agg (Sl s)
 | [],n=>rfl
 |a::L,0=>rfl
 |a::L,n+1=>by
  show(.agg (Sl a)::v a::Vk L v)[2*(n+1)]?=_
  rw[show 2*(n+1)=2*n+2 by omega]
  simp only[aw4,amG v L n]
theorem al0{v:St→AV}{x:AV}{s:St}:∀{L:List St},L.Nodup→s∈L→(Vk L v).set (2*L.idxOf s+1) x=Vk L fun y=>if y=s then x else v y
 | [],_,h=>by cases h
 |a::L,hn,h=>by
  have hn':=List.nodup_cons.1 hn
  show(.agg (Sl a)::v a::Vk L v).set (2*(a::L).idxOf s+1) x=.agg (Sl a)::(if a=s then x else v a)::Vk L fun y=>if y=s then x else v y
  have same:s∉L→(Vk L fun y=>if y=s then x else v y)=Vk L v:=fun hs=>by
   unfold Vk
   rw[aq6,aq6]
   congr 1
   refine a0L fun y hy=>?_
   simp only[if_neg (show ¬y=s from fun e=>hs (e▸hy))]
  by_cases e:a=s
  ·subst e
   simp[same hn'.1]
  ·have e2:(a==s)=false:=by simpa using e
   rcases aq4.1 h with h|h
   ·exact absurd h.symm e
   ·simp only[a0K,e2,cond_false,if_neg e]
    rw[show 2*(aq5 s L+1)+1=(2*aq5 s L+1)+2 by omega]
    simp only[aAX,al0 hn'.2 h]
theorem ag3(s:St):AV.sameKey (.agg (Sl s)) (.agg (Sl s))=true:=by
 have h:∀x∈Sl s,AV.same x x=true:=fun x hx=>by
  unfold Sl at hx
  rcases aw2.1 hx with hx|hx
  ·rcases Ya s.1 x hx with⟨n,rfl⟩|⟨b,rfl⟩<;>simp[AV.same]
  ·simp at hx;subst hx;simp[AV.same]
 simp only[AV.sameKey,beq_self_eq_true,Bool.true_and,ajY]
 intro ⟨x,y⟩ hxy
 obtain⟨i,hi⟩:=avR hxy
 rw[List.getElem?_zip_eq_some]at hi
 obtain⟨h1,h2⟩:=hi
 simp only at h1 h2
 rw[h1]at h2;cases h2
 exact h x (ai0 h1)
theorem eL{h:Qa}{b:Nat}{kvs:List AV}(hb:h[b]?=some (Ua kvs)):bN (hf h) b=some kvs:=by
 unfold bN
 rw[show hf h b=some (Ua kvs)from hb];rfl
section
variable {h:Qa} {b:Nat} {L:List St} {v:St→AV} {s:St}
theorem xK(hb:h[b]?=some (Ua (Vk L v)))(hL:zQ L)(hs:s∈L):lk Tryz.prog h 86 (some (.mapr b)) (some (.agg (Sl s))) false=some (.ret (v s),[]):=by
 have hz:Vl Tryz.prog 3=some (.int .i64 0):=by kernel_rfl
 simp only[lk,adC,Vd,Tryz.underlying86,kK (hL s hs),if_true,eL hb,cJ (hL s hs) v L 0 hL,if_pos hs,hz,cond_false]
 rfl
theorem aEG(hb:h[b]?=some (Ua (Vk L v)))(hL:zQ L)(hs:s∈L):lk Tryz.prog h 86 (some (.mapr b)) (some (.agg (Sl s))) true=some (.ret (.tup [v s,.bool true]),[]):=by
 have hz:Vl Tryz.prog 3=some (.int .i64 0):=by kernel_rfl
 simp only[lk,adC,Vd,Tryz.underlying86,kK (hL s hs),if_true,eL hb,cJ (hL s hs) v L 0 hL,if_pos hs,hz,cond_true]
 rfl
theorem bcX(hb:h[b]?=some (Ua (Vk L v)))(hL:zQ L)(h12:s.1.length=12)(hs:s∉L):lk Tryz.prog h 86 (some (.mapr b)) (some (.agg (Sl s))) true=some (.ret (.tup [.int .i64 0,.bool false]),[]):=by
 have hz:Vl Tryz.prog 3=some (.int .i64 0):=by kernel_rfl
 simp only[lk,adC,Vd,Tryz.underlying86,kK h12,if_true,eL hb,cJ h12 v L 0 hL,if_neg hs,hz,cond_true]
 rfl
theorem ae8(hb:h[b]?=some (Ua (Vk L v)))(hL:zQ L)(hs:s∈L):lk Tryz.prog h 87 (some (.mapr b)) (some (.agg (Sl s))) false=some (.ret (v s),[]):=by
 have hz:Vl Tryz.prog 91=some .nils:=by kernel_rfl
 simp only[lk,adC,Vd,Tryz.underlying87,kK (hL s hs),if_true,eL hb,cJ (hL s hs) v L 0 hL,if_pos hs,hz,cond_false]
 rfl
theorem adZ(hb:h[b]?=some (Ua (Vk L v)))(hL:zQ L)(hn:L.Nodup)(hs:s∈L)(x:AV):ms Tryz.prog h 86 (some (.mapr b)) (some (.agg (Sl s))) (some x)=some (.ret (.tup []),[.put b (Ua (Vk L fun y=>if y=s then x else v y))]):=by
 have hi:L[L.idxOf s]?=some s:=by
  rw[akX (List.idxOf_lt_length_of_mem hs)];simp
 simp only[ms,adC,Ws,Tryz.underlying86,kK (hL s hs),if_true,eL hb,cJ (hL s hs) v L 0 hL,if_pos hs,Nat.zero_add,amG,hi,ag1,akZ,ag3,al0 hn hs]
 rfl
theorem aqQ(hs:s∉L)(x:AV):Vk L v++[.agg (Sl s),x]=Vk (L++[s]) fun y=>if y=s then x else v y:=by
 unfold Vk
 rw[List.flatMap_append]
 congr 1
 ·rw[aq6,aq6]
  congr 1
  refine a0L fun y hy=>?_
  simp only[if_neg (show ¬y=s from fun e=>hs (e▸hy))]
 ·simp
theorem aL7(hb:h[b]?=some (Ua (Vk L v)))(hL:zQ L)(h12:s.1.length=12)(hs:s∉L)(x:AV):ms Tryz.prog h 86 (some (.mapr b)) (some (.agg (Sl s))) (some x)=some (.ret (.tup []),[.put b (Ua (Vk (L++[s]) fun y=>if y=s then x else v y))]):=by
 rw[←aqQ hs]
 simp only[ms,adC,Ws,Tryz.underlying86,kK h12,if_true,eL hb,cJ h12 v L 0 hL,if_neg hs]
 rfl
theorem aQ4(hb:h[b]?=some (Ua (Vk L v)))(hL:zQ L)(h12:s.1.length=12)(hs:s∉L)(x:AV):ms Tryz.prog h 87 (some (.mapr b)) (some (.agg (Sl s))) (some x)=some (.ret (.tup []),[.put b (Ua (Vk (L++[s]) fun y=>if y=s then x else v y))]):=by
 rw[←aqQ hs]
 simp only[ms,adC,Ws,Tryz.underlying87,kK h12,if_true,eL hb,cJ h12 v L 0 hL,if_neg hs]
 rfl
end
def Ud:Nat:=1099511627776
def cK(f:St→Nat)(s:St):AV:=.int .i64 (f s:Int)
theorem arD(f:St→Nat)(x:St)(m:Nat):(if((f x:Nat):Int)>(m:Int)then((f x:Nat):Int)else(m:Int))=((max m (f x):Nat):Int):=by split<;>omega
theorem av3(L:List St)(f:St→Nat)(d:Nat)(m:List Nat):Rl.refL (Rl (d+2)) m (Vk L (cK f))=some (Vk L (cK f),m):=Vt fun x hx=>by
 unfold Vk at hx
 obtain⟨s,_,hx⟩:=a0M.1 hx
 simp only[aq4,a1K,or_false]at hx
 rcases hx with rfl|rfl
 ·have:∀y∈Sl s,Rl (d+1) m y=some (y,m):=fun y hy=>by
   unfold Sl at hy
   rcases aw2.1 hy with hy|hy
   ·rcases Ya s.1 y hy with⟨n,rfl⟩|⟨b,rfl⟩<;>rfl
   ·simp at hy;subst hy;rfl
  show(Rl.refL (Rl (d+1)) m (Sl s)).map _=_
  rw[Vt this];rfl
 ·rfl
theorem aL(L:List St)(f:St→Nat)(m:List Nat):lL m (Ua (Vk L (cK f)))=some (Ua (Vk L (cK f)),m):=by
 simp[Ua,lL,av3 L f 6]
theorem wZ:∀(l:List AV),(∀x∈l,AV.sameKey x x=true)→AV.sameL l l=true
 | [],_=>rfl
 |x::l,h=>by simp only[AV.sameL,h x (by simp),wZ l fun y hy=>h y (aw6 _ hy),Bool.and_self]
theorem cP(L:List St)(f:St→Nat):CB.same (Ua (Vk L (cK f))) (Ua (Vk L (cK f)))=true:=wZ _ fun x hx=>by
 unfold Vk at hx
 obtain⟨s,_,hx⟩:=a0M.1 hx
 simp only[aq4,a1K,or_false]at hx
 rcases hx with rfl|rfl
 ·exact ag3 s
 ·simp[cK,AV.sameKey,AV.same]
theorem cV(kvs:List AV):(Ua kvs).clean=Ua kvs:=Eq.trans rfl rfl
theorem fH(kvs:List AV):(Ua kvs).isLive=true:=Eq.trans rfl rfl
theorem arS{L:List St}{f:St→Nat}(hL:zQ L)(hf:∀s∈L,f s≤Ud){to:List St}(ht:∀s∈to,s∈L)(hlen:to.length≤2){k:Int}{i:Int}{c:Nat}(hc:c≤1000)(nn:Bool):
 Up.call (.fn 44) [.agg [.int .i64 k,.int .i64 i,.int .i64 (c:Int),Rn 25 true nn (to.map Sl)],.mapr 0] [Ua (Vk L (cK f))]=some (.ret (.int .i64 (min Ud (c+qE.mx f to):Nat)),[Ua (Vk L (cK f))]):=by
 refine ce Tryz.func44 ?_
 simp only[Tryz.f44]
 (have hb:=trivial;with_reducible repeat' (first|simp only[hb,Vc.down,seval,atW.down,aaN]|refine Qp ?_ ?_<;>intro hb|refine fd ?_|fail))
 refine Wz (lst 26 to (fun j (m:Nat) t h=>t 1=.mapr 0∧t 2=.ptr 1 0 0∧t 5=.int .i64 (m:Int)∧t 9=Rn 25 true nn (to.map Sl)∧t 10=.int .i64 (to.length:Nat)∧t 11=.int .i64 (j:Int)∧m≤Ud∧h[0]?=some (Ua (Vk L (cK f)))∧∃fl x,h[1]?=some (.live 4 fl x [[.int .i64 k,.int .i64 i,.int .i64 (c:Int),Rn 25 true nn (to.map Sl)]])) (fun rest m=>rest.foldl (fun m x=>max m (f x)) m)
  (fun r e t h=>e=.exit 0∧t 2=.ptr 1 0 0∧t 5=.int .i64 (r:Int)∧r≤Ud∧h[0]?=some (Ua (Vk L (cK f)))∧∃fl x,h[1]?=some (.live 4 fl x [[.int .i64 k,.int .i64 i,.int .i64 (c:Int),Rn 25 true nn (to.map Sl)]])) ?_ ?_ 0 _ _ ?_) (fun e t h hk=>?_)
 ·rintro m t h Q' kQ ⟨g1,g2,g5,g9,g10,g11,hm,hM,fl,x,hB⟩
  (have hb:=trivial;with_reducible repeat' (first|simp only[hb,Vc.down,seval,atW.down,g10,g11,alC,decide_false]|refine Qp ?_ ?_<;>intro hb|refine fd ?_|fail))
  exact kQ _ _ _ ⟨rfl,by simp[up,g2],by simp[up,g5],hm,hM,fl,x,hB⟩
 ·rintro z rest j m t h J Q' kJ kQ hx hj ⟨g1,g2,g5,g9,g10,g11,hm,hM,fl,x,hB⟩
  have hdd:decide ((j:Int)<(to.length:Int))=true:=decide_eq_true (by omega)
  have hww:=Tc hj (by unfold maxLen;omega)
  have hz:=ht z (ai0 hx)
  have hfz:=hf z hz
  have hM2:=Qg hM
  have hlk:=fun l=>xK (v:=cK f) (hM2 l) hL hz
  have hzl:=Yf (hL z hz)
  have hzf:=Wj z
  have hzc:=Ww z
  have htk:af8 25 (Sl z)=Sl z:=adQ (by omega)
  have hmx:=arD f z m
  (have hb:=trivial;with_reducible repeat' (first|simp only[hb,Vc.down,seval,atW.down,g1,g5,g9,g10,g11,hdd,hww,hx,hM2,hlk,hzl,hzf,hzc,htk,cK,hmx,aaN]|refine Qp ?_ ?_<;>intro hb|refine fd ?_|fail))
  exact Qj (kJ _ _ (max m (f z)) ⟨by simp[up,g1],by simp[up,g2],by simp[up],by simp[up,g9],by simp[up,g10],by simp[up],by omega,hM2 _,fl,x,Qg hB _⟩ rfl)
 ·exact⟨by simp[up,aU],by simp[up],by simp[up],by simp[up],by simp[up],by simp[up],Nat.zero_le _,rfl,_,_,rfl⟩
 obtain⟨rfl,g2,g5,hm,hM,fl,x,hB⟩:=hk
 change t 5=.int .i64 ((qE.mx f to:Nat):Int)at g5
 change qE.mx f to≤Ud at hm
 generalize qE.mx f to=m at *
 have hww:IntKind.i64.wrap ((c:Int)+(m:Int))=((c+m:Nat):Int):=by rw[Us (by unfold Ud at hm;omega) (by unfold Ud at hm;omega)];omega
 have hmn:(if((c+m:Nat):Int)<1099511627776 then((c+m:Nat):Int)else 1099511627776)=((min Ud (c+m):Nat):Int):=by unfold Ud;split<;>omega
 (have hb:=trivial;with_reducible repeat' (first|simp only[hb,Vc.down,seval,atW.down,g2,g5,hB,hM,hww,hmn,aL]|refine Qp ?_ ?_<;>intro hb|refine fd ?_|fail))
structure COk(L:List St)(o:Zh):Prop where
 c0:0≤o.c
 c1:o.c≤1000
 to:∀s∈o.to,s∈L
 ne:o.to≠[]
 two:o.to.length≤2
def Zh.cells(o:Zh):List AV:=[.int .i64 o.k,.int .i64 (o.i:Int),.int .i64 o.c,Rn 25 true false (o.to.map Sl)]
def kZ(f:St→Nat)(o:Zh):Nat:=min Ud (o.c.toNat+Go.Ev.qE.mx f o.to)
def bZ(f:St→Nat)(n:Nat)(l:List Zh):Nat:=l.foldl (fun m o=>min m (kZ f o)) n
theorem aaE{L:List St}{f:St→Nat}(hL:zQ L)(hf:∀s∈L,f s≤Ud){o:Zh}(ho:COk L o):
 Up.call (.fn 44) [.agg o.cells,.mapr 0] [Ua (Vk L (cK f))]=some (.ret (.int .i64 (kZ f o:Nat)),[Ua (Vk L (cK f))]):=by
 have h:=arS hL hf ho.to ho.two (k:=o.k) (i:=o.i) (c:=o.c.toNat) (by have:=ho.c1;omega) false
 rw[show((o.c.toNat:Nat):Int)=o.c by have:=ho.c0;omega]at h
 exact h
theorem anO{L:List St}{f:St→Nat}(hL:zQ L)(hf:∀s∈L,f s≤Ud){o:Zh}(ho:COk L o)(x:Bool):
 Up.call (.fn 68) [.agg o.cells,.ptr 0 0 0] [.live 1 false x [[.mapr 1]],Ua (Vk L (cK f))]=some (.ret (.int .i64 (kZ f o:Nat)),[.live 1 false x [[.mapr 1]],Ua (Vk L (cK f))]):=by
 have h:=aaE hL hf ho
 have hne:o.to.map Sl≠[]:=by simpa using ho.ne
 simp only[Zh.cells,bS hne]at h ⊢
 refine ce Tryz.func68 ?_
 simp only[Tryz.f68]
 (have hb:=trivial;with_reducible repeat' (first|simp only[hb,Vc.down,seval,bgP.down,h,aL,cP,cV,aT.down]|refine Qp ?_ ?_<;>intro hb|refine fd ?_|fail))
theorem au4(a b:Nat):(if(a:Int)<(b:Int)then(a:Int)else(b:Int))=((min b a:Nat):Int):=by split<;>omega
theorem arI{L:List St}{f:St→Nat}(hL:zQ L)(hf:∀s∈L,f s≤Ud){l:List Zh}(hl:∀o∈l,COk L o)(hlen:l.length≤maxLen)(nn:Bool)(n:Nat)(x:Bool):
 Up.call (.fn 67) [Rn 4 false nn (l.map Zh.cells),.func (.func 68) [] [.ptr 0 0 0],.int .i64 (n:Int)] [.live 1 false x [[.mapr 1]],Ua (Vk L (cK f))]=some (.ret (.int .i64 (bZ f n l:Nat)),[.live 1 false x [[.mapr 1]],Ua (Vk L (cK f))]):=by
 obtain⟨q1,hq1⟩:∃q,Fn.func 68=q:=⟨_,rfl⟩
 refine ce Tryz.func67 ?_
 simp only[Tryz.f67]
 (have hb:=trivial;with_reducible repeat' (first|simp only[hb,Vc.down,seval,avN.down,aaN]|refine Qp ?_ ?_<;>intro hb|refine fd ?_|fail))
 refine Wz (lst 22 l (fun j (m:Nat) t h=>t 1=.func (.func 68) [] [.ptr 0 0 0]∧t 2=.int .i64 (m:Int)∧t 9=Rn 4 false nn (l.map Zh.cells)∧t 10=.int .i64 (l.length:Nat)∧t 11=.int .i64 (j:Int)∧h[0]?=some (.live 1 false x [[.mapr 1]])∧h[1]?=some (Ua (Vk L (cK f)))) (fun rest m=>rest.foldl (fun m o=>min m (kZ f o)) m)
  (fun r e t h=>e=.exit 0∧t 2=.int .i64 (r:Int)∧h[0]?=some (.live 1 false x [[.mapr 1]])∧h[1]?=some (Ua (Vk L (cK f)))) ?_ ?_ n _ _ ?_) (fun e t h hk=>?_)
 ·rintro m t h Q' kQ ⟨g1,g2,g9,g10,g11,hB,hM⟩
  (have hb:=trivial;with_reducible repeat' (first|simp only[hb,Vc.down,seval,avN.down,g10,g11,alC,decide_false]|refine Qp ?_ ?_<;>intro hb|refine fd ?_|fail))
  exact kQ _ _ _ ⟨rfl,by simp[up,g2],hB,hM⟩
 ·rintro o rest j m t h J Q' kJ kQ hx hj ⟨g1,g2,g9,g10,g11,hB,hM⟩
  have hdd:decide ((j:Int)<(l.length:Int))=true:=decide_eq_true (by omega)
  have hww:=Tc hj (by unfold maxLen at hlen;unfold maxLen;omega)
  have ho:=hl o (ai0 hx)
  have hc:=anO hL hf ho false
  have hmn:=au4 (kZ f o) m
  have hB2:=Qg hB
  have hM2:=Qg hM
  have hne:o.to.map Sl≠[]:=by simpa using ho.ne
  simp only[Zh.cells,bS hne]at hc
  have hcs:o.cells=[.int .i64 o.k,.int .i64 (o.i:Int),.int .i64 o.c,.imm 25 true (o.to.map Sl)]:=by simp only[Zh.cells,bS hne]
  (have hb:=trivial;with_reducible repeat' (first|simp only[hb,Vc.down,seval,avN.down,g1,g2,g9,g10,g11,hdd,hww,hx,hB,hM,hB2,hM2,hcs,hc,hmn,aL,cP,cV,aT.down,aaN]|refine Qp ?_ ?_<;>intro hb|refine fd ?_|fail))
  exact Qj (kJ _ _ (min m (kZ f o)) ⟨by simp[up,g1],by simp[up],by simp[up,g9],by simp[up,g10],by simp[up],hB2 _,hM2 _⟩ rfl)
 ·exact⟨by simp[up,aU],by simp[up,aU],by simp[up],by simp[up],by simp[up],rfl,rfl⟩
 obtain⟨rfl,g2,hB,hM⟩:=hk
 change t 2=.int .i64 (bZ f n l:Nat)at g2
 (have hb:=trivial;with_reducible repeat' (first|simp only[hb,Vc.down,seval,avN.down,g2,hB,hM,aL,aT.down]|refine Qp ?_ ?_<;>intro hb|refine fd ?_|fail))
end Go.Proofs.YtcncggaobhbomaaGreatDoor
