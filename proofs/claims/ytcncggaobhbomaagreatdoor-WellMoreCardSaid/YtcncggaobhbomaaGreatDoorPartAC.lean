/- The functions of the layer, walked. -/
import Derived.Test.YtcncggaobhbomaaGreatDoorLibE
import Derived.Test.YtcncggaobhbomaaGreatDoorPartAB
open Option renaming bind_some→abT,map_some→adA,getD_some→aiF,map_eq_some_iff→aoT,some→aqT,bind_eq_some_iff→ayZ,toList_none→aE6
open List renaming length_map→abV,take_of_length_le→acG,take→ac4,getElem?_eq_getElem→adD,mem_of_getElem?→adM,getElem?_append_right→adP,take_append_of_le_length→ahF,all_eq_true→ahS,getElem?_eq_some_iff→ah9,drop→ai4,mem_cons→ai5,idxOf→ajT,flatMap_def→anI,getElem?_append_left→aoP,length_cons→aoQ,length_nil→aoR,nil_append→aoS,ext_getElem?→aoU,getElem?_set_self→aoV,getElem?_set_ne→aoW,mem_or_eq_of_mem_set→apA,getElem?_of_mem→apU,range→asT,getElem?_cons_succ→as3,mem_cons_of_mem→atB,mem_range→atC,map_cons→atT,map_nil→atU,append_assoc→atY,map_append→awV,cons_append→axM,set_cons_succ→axO,set_append_left→ax7,getElem?_zipWith→ayX,getElem?_map→ayY,all_append→ay0,getElem?_cons_zero→ay1,getElem?_eq_none→ay2,drop_zero→ay3,idxOf_cons→ay4,map_congr_left→ay5,mem_append→ay6,mem_flatMap→ay7,not_mem_nil→ay8,length_append→azA,length_replicate→aA1,append_nil→aJ9,drop_eq_nil_of_le→aT3
open Nat renaming le_refl→ad8,zero_le→aq9,add_sub_cancel_left→awX
open Bool renaming false_eq_true→agF,and_eq_true→ao1
open Int renaming lt_irrefl→ai3
set_option linter.unusedSimpArgs false
set_option linter.unusedVariables false
namespace Go.Proofs.YtcncggaobhbomaaGreatDoor
open Go.Ev Go Go.Ev.Net
set_option maxRecDepth 100000
set_option maxHeartbeats 16000000
theorem aa8:∀(L:List (Int × Bool)) (i:Nat) (a:Int) (b:Bool),i<L.length→ac4 (i*2) (Sm L)++(.int .i64 a::.bool b::ai4 (i*2+2) (Sm L))=Sm (L.set i (a,b))
 | [],i,a,b,h=>by simp at h
 |x::L,0,a,b,h=>by simp[Sm]
 |x::L,i+1,a,b,h=>by
  have ih:=aa8 L i a b (by simpa using h)
  rw[show(i+1)*2=(i*2)+1+1 by omega,show(i*2)+1+1+2=(i*2+2)+1+1 by omega]
  simp only[Sm,List.flatMap_cons,axM,aoS,List.take_succ_cons,List.drop_succ_cons,axO]at ih ⊢
  rw[←ih]
theorem eV(L:List (Int × Bool))(d:Nat):(Sm L).all (Qo (d+1))=true:=ahS.2 fun x hx=>by rcases Xo L x hx with⟨n,rfl⟩|⟨b,rfl⟩<;>rfl
def Tv(k:Int)(b:Bool)(x:Int × Bool):Int × Bool:=if k=1 then(x.1,true)else if k=2 then(x.1,false)else if k=3 then(if b=true then(0,x.2)else(2,x.2))else(0,x.2)
theorem akJ(c:Int)(o b:Bool):Uu.call (.fn 112) [.agg [.int .i64 c,.bool o],.bool b] []=some (.ret (.agg [.int .i64 c,.bool true]),[]):=by
 (refine ce Tryz.func112 ?_;simp only[Tryz.f112];(have hb:=trivial;with_reducible repeat' (first|simp only[hb,Vc.down,seval,a3Z.down]|refine Qs ?_ ?_<;>intro hb|refine fd ?_|fail)))
theorem ajH(c:Int)(o b:Bool):Uu.call (.fn 113) [.agg [.int .i64 c,.bool o],.bool b] []=some (.ret (.agg [.int .i64 c,.bool false]),[]):=by
 (refine ce Tryz.func113 ?_;simp only[Tryz.f113];(have hb:=trivial;with_reducible repeat' (first|simp only[hb,Vc.down,seval,a78.down]|refine Qs ?_ ?_<;>intro hb|refine fd ?_|fail)))
theorem amP(c:Int)(o b:Bool):Uu.call (.fn 114) [.agg [.int .i64 c,.bool o],.bool b] []=some (.ret (.agg [.int .i64 (if b=true then 0 else 2),.bool o]),[]):=by
 cases b<;>(refine ce Tryz.func114 ?_;simp only[Tryz.f114];(have hb:=trivial;with_reducible repeat' (first|simp only[hb,Vc.down,seval,aNV.down]|refine Qs ?_ ?_<;>intro hb|refine fd ?_|fail)))
theorem ahO(c:Int)(o b:Bool):Uu.call (.fn 115) [.agg [.int .i64 c,.bool o],.bool b] []=some (.ret (.agg [.int .i64 0,.bool o]),[]):=by
 (refine ce Tryz.func115 ?_;simp only[Tryz.f115];(have hb:=trivial;with_reducible repeat' (first|simp only[hb,Vc.down,seval,aHS.down]|refine Qs ?_ ?_<;>intro hb|refine fd ?_|fail)))
def tK:CB:=.lp [] .skip .skip [.int .i64 1,.func (.func 112) [] [],.int .i64 2,.func (.func 113) [] [],.int .i64 3,.func (.func 114) [] [],.int .i64 4,.func (.func 115) [] []] .map
theorem wK:Uu.call (.fn 92) [] []=some (.ret (.mapr 0),[tK]):=by
 exact aaY (pr:=pr) (pr2:=pr) (n:=10) rfl (fun f hf=>hf) (fun f p hp a h r hr=>afQ hp hr) (by kernel_rfl)
def fnD(k:Int):Nat:=if k=1 then 112 else if k=2 then 113 else if k=3 then 114 else 115
theorem arX{h:Qa}{b:Nat}(hb:h[b]?=some tK){k:Int}(hk:k=1∨k=2∨k=3∨k=4):lk Tryz.prog h 146 (some (.mapr b)) (some (.int .i64 k)) false=some (.ret (.func (.func (fnD k)) [] []),[]):=by
 have key:∀k:Int,k=1∨k=2∨k=3∨k=4→(Ur Tryz.prog (fun _=>some tK) 146 (.mapr 0) (.int .i64 k) false).map (fun d=>(d.v,d.es))=some (.func (.func (fnD k)) [] [],[]):=fun k hk=>by
  rcases hk with rfl|rfl|rfl|rfl<;>kernel_rfl
 have e:(Ur Tryz.prog (hf h) 146 (.mapr b) (.int .i64 k) false).map (fun d=>(d.v,d.es))=(Ur Tryz.prog (fun _=>some tK) 146 (.mapr 0) (.int .i64 k) false).map (fun d=>(d.v,d.es)):=by
  unfold Ur
  simp only[Tryz.underlying146]
  have hm:aQ (hf h) b=aQ (fun _=>some tK) 0:=by simp only[aQ,hf,hb]
  simp only[hm]
  split
  ·generalize aQ (fun _=>some tK) 0=m
   cases m with
   |none=>rfl
   |some kvs=>
    simp only[abT]
    generalize dR _ _ _ kvs 0=r
    cases r with
    |none=>rfl
    |some r=>
     simp only[abT]
     generalize Uz _ _=z
     cases z<;>rfl
  ·rfl
 rw[key k hk]at e
 simp only[lk,abT]
 obtain⟨d,hd,h2⟩:=aoT.1 e
 rw[hd]
 simp only[Prod.mk.injEq]at h2
 obtain⟨v,es,fs⟩:=d
 obtain⟨rfl,rfl⟩:=h2
 rfl
theorem wR{L:List (Int × Bool)}(hL:L.length=12){i:Nat}{x:Int × Bool}(hx:L[i]?=some x){k:Int}(hk:k=1∨k=2∨k=3∨k=4)(b:Bool):
 Uu.call (.fn 74) [.agg (Sm L),.agg [.int .i64 k,.int .i64 (i:Int)],.bool b] []=some (.ret (.agg (Sm (L.set i (Tv k b x)))),[]):=by
 have hi:i<L.length:=(ah9.1 hx).1
 have hpl:(Sm L).length=24:=by rw[Rh];omega
 have hf1:=Vy L
 have hf2:=Vw L
 have htk:=lV _ _ _ _ hx
 have hst:=fun a b=>aa8 L i a b hi
 have hpl2:∀a b,(Sm (L.set i (a,b))).length=24:=fun a b=>by rw[Rh];simp;omega
 have hfl2:=fun a b=>Vy (L.set i (a,b))
 have hce2:=fun a b=>Vw (L.set i (a,b))
 have hrf2:=fun a b=>bJ (L.set i (a,b))
 have hpv2:=fun a b=>eV (L.set i (a,b))
 have i12:((i:Int)<12)=True:=eq_true (by omega)
 have hp24:(i*2+2≤24)=True:=eq_true (by omega)
 have htk24:ac4 24 (Sm L)=Sm L:=acG (by omega)
 have htk2:∀a b,ac4 (24-i*2) [AV.int .i64 a,AV.bool b]=[AV.int .i64 a,AV.bool b]:=fun a b=>acG (by simp;omega)
 have htk3:∀a b,ac4 24 (Sm (L.set i (a,b)))=Sm (L.set i (a,b)):=fun a b=>acG (by rw[hpl2];omega)
 obtain⟨a,o⟩:=x
 have hrm:∀f,Xf f tK=some tK:=fun f=>rfl
 have him:tK.hasImm=false:=rfl
 have rv:∀(f:Nat→Nat) (b:Nat),Si 8 f (.mapr b)=some (.mapr (f b)):=fun _ _=>rfl
 have hlk:=fun(h:Qa) (b':Nat) (hb':h[b']?=some tK)=>arX hb' hk
 have q1:=akJ a o b
 have q2:=ajH a o b
 have q3:=amP a o b
 have q4:=ahO a o b
 rcases hk with rfl|rfl|rfl|rfl
 ·rw[show fnD 1=112 from rfl]at hlk
  rw[show Tv 1 b (a,o)=(a,true)from rfl]
  refine ce Tryz.func74 ?_
  simp only[Tryz.f74]
  (have hb:=trivial;with_reducible repeat' (first|simp only[hb,Vc.down,seval,arV.down,hpl,hf1,hf2,htk,wK,i12,hp24,hrm,him,rv,hlk,q1,Vv,hst,hpl2,hfl2,hce2,hrf2,htk24,htk2,htk3,hpv2]|refine Qs ?_ ?_<;>intro hb|refine fd ?_|fail))
 ·rw[show fnD 2=113 from rfl]at hlk
  rw[show Tv 2 b (a,o)=(a,false)from rfl]
  refine ce Tryz.func74 ?_
  simp only[Tryz.f74]
  (have hb:=trivial;with_reducible repeat' (first|simp only[hb,Vc.down,seval,arV.down,hpl,hf1,hf2,htk,wK,i12,hp24,hrm,him,rv,hlk,q2,Vv,hst,hpl2,hfl2,hce2,hrf2,htk24,htk2,htk3,hpv2]|refine Qs ?_ ?_<;>intro hb|refine fd ?_|fail))
 ·rw[show fnD 3=114 from rfl]at hlk
  rw[show Tv 3 b (a,o)=(if b=true then(0,o)else(2,o))from rfl]
  rw[show(if b=true then((0:Int),o)else(2,o))=((if b=true then 0 else 2),o) by cases b<;>rfl]
  refine ce Tryz.func74 ?_
  simp only[Tryz.f74]
  (have hb:=trivial;with_reducible repeat' (first|simp only[hb,Vc.down,seval,arV.down,hpl,hf1,hf2,htk,wK,i12,hp24,hrm,him,rv,hlk,q3,Vv,hst,hpl2,hfl2,hce2,hrf2,htk24,htk2,htk3,hpv2]|refine Qs ?_ ?_<;>intro hb|refine fd ?_|fail))
 ·rw[show fnD 4=115 from rfl]at hlk
  rw[show Tv 4 b (a,o)=(0,o)from rfl]
  refine ce Tryz.func74 ?_
  simp only[Tryz.f74]
  (have hb:=trivial;with_reducible repeat' (first|simp only[hb,Vc.down,seval,arV.down,hpl,hf1,hf2,htk,wK,i12,hp24,hrm,him,rv,hlk,q4,Vv,hst,hpl2,hfl2,hce2,hrf2,htk24,htk2,htk3,hpv2]|refine Qs ?_ ?_<;>intro hb|refine fd ?_|fail))
def agE(p:Qd)(x:Int × Bool)(k:Int):Bool:=if k=1 then p.valve&& !x.2 else if k=2 then p.valve&&x.2 else if k=3 then !x.2&&x.1==1 else !x.2
theorem aY3(p:Qd)(x:Int × Bool){k:Int}(hk:k=1∨k=2∨k=3∨k=4):Uu.call (.fn 54) [.agg p.cells,.agg [.int .i64 x.1,.bool x.2],.int .i64 k] []=some (.ret (.bool (agE p x k)),[]):=by
 obtain⟨a,o⟩:=x
 obtain⟨p1,p2,p3,p4,p5,p6,p7,p8,p9⟩:=p
 simp only[Qd.cells]
 rcases hk with rfl|rfl|rfl|rfl
 ·cases p3<;>cases o<;>(refine ce Tryz.func54 ?_;simp only[Tryz.f54];(have hb:=trivial;with_reducible repeat' (first|simp only[hb,Vc.down,seval,atF.down]|refine Qs ?_ ?_<;>intro hb|refine fd ?_|fail)))
  all_goals rfl
 ·cases p3<;>cases o<;>(refine ce Tryz.func54 ?_;simp only[Tryz.f54];(have hb:=trivial;with_reducible repeat' (first|simp only[hb,Vc.down,seval,atF.down]|refine Qs ?_ ?_<;>intro hb|refine fd ?_|fail)))
  all_goals rfl
 ·cases o<;>cases h:(a==1)<;>(refine ce Tryz.func54 ?_;simp only[Tryz.f54];(have hb:=trivial;with_reducible repeat' (first|simp only[hb,Vc.down,seval,atF.down,h]|refine Qs ?_ ?_<;>intro hb|refine fd ?_|fail)))
  all_goals (simp only[agE,h];rfl)
 ·cases o<;>(refine ce Tryz.func54 ?_;simp only[Tryz.f54];(have hb:=trivial;with_reducible repeat' (first|simp only[hb,Vc.down,seval,atF.down]|refine Qs ?_ ?_<;>intro hb|refine fd ?_|fail)))
  all_goals rfl
theorem aqM(p:Qd){k:Int}(hk:k=1∨k=2∨k=3∨k=4):Uu.call (.fn 57) [.agg p.cells,.int .i64 k] []=some (.ret (.int .i64 (if k=3 then p.test else if k=4 then p.change else 1)),[]):=by
 simp only[Qd.cells]
 rcases hk with rfl|rfl|rfl|rfl<;>(refine ce Tryz.func57 ?_;simp only[Tryz.f57];(have hb:=trivial;with_reducible repeat' (first|simp only[hb,Vc.down,seval,bcP.down]|refine Qs ?_ ?_<;>intro hb|refine fd ?_|fail)))
 all_goals rfl
def jC(w:Qj)(N:Nat)(L:List (Int × Bool)):Int:=if(pS w N L:Int)<w.need then(pS w N L:Int)else w.need
def uE(w:Qj)(N:Nat)(L:List (Int × Bool))(k:Int)(i:Nat)(b:Bool)(x:Int × Bool):Bool:=
 (!(k==4)|| !decide ((pS w N (L.set i (2,x.2)):Int)<jC w N L))&&decide ((pS w N (L.set i (Tv k b x)):Int)≥jC w N L)
theorem axT{w:Qj}{N:Nat}(hw:xP w N)(h12:w.parts.length≤12)(d:Int){L:List (Int × Bool)}(hL:L.length=12){i:Nat}{x:Int × Bool}(hx:L[i]?=some x){k:Int}(hk:k=1∨k=2∨k=3∨k=4)(b:Bool)(wf:Bool):
 Uu.call (.fn 55) [.ptr 0 0 0,.agg (Sm L),.agg [.int .i64 k,.int .i64 (i:Int)],.bool b] [.live 4 false wf [[.int .i64 w.rooms,.int .i64 w.need,Rw 9 true w.nn (w.parts.map Qd.cells),.int .i64 d]]]=some (.ret (.bool (uE w N L k i b x)),[.live 4 false wf [[.int .i64 w.rooms,.int .i64 w.need,Rw 9 true w.nn (w.parts.map Qd.cells),.int .i64 d]]]):=by
 have hi:i<L.length:=(ah9.1 hx).1
 have hn0:=eI hw h12 d hL false
 have hn1:=eI hw h12 d (L:=L.set i (2,x.2)) (by simpa using hL) false
 have hn2:=eI hw h12 d (L:=L.set i (Tv k b x)) (by simpa using hL) false
 have ha:=wR hL hx hk b
 have hlb:jC w N L=if(pS w N L:Int)<w.need then(pS w N L:Int)else w.need:=rfl
 have hsf:uE w N L k i b x=((!(k==4)|| !decide ((pS w N (L.set i (2,x.2)):Int)<jC w N L))&&decide ((pS w N (L.set i (Tv k b x)):Int)≥jC w N L)):=rfl
 rw[hsf]
 have hmn:nA (.int .i64 w.need) (.int .i64 (pS w N L:Nat))=some (.int .i64 (jC w N L)):=rfl
 generalize jC w N L=lb at *
 generalize(pS w N L:Nat)=n0 at *
 generalize(pS w N (L.set i (2,x.2)):Nat)=n1 at *
 generalize(pS w N (L.set i (Tv k b x)):Nat)=n2 at *
 have f0:=Vy L
 have c0:=Vw L
 have v0:=jH L
 have l0:=iW L
 have r0:=bJ L
 have p0:=eV L
 have hpl:(Sm L).length=24:=by rw[Rh];omega
 have htk:=acG (l:=Sm L) (i:=24) (by omega)
 have f2:=Vy (L.set i (Tv k b x))
 have c2:=Vw (L.set i (Tv k b x))
 have v2:=jH (L.set i (Tv k b x))
 have l2:=iW (L.set i (Tv k b x))
 have r2:=bJ (L.set i (Tv k b x))
 have p2:=eV (L.set i (Tv k b x))
 have n2':=lX (L.set i (Tv k b x))
 have i2:=mM (L.set i (Tv k b x))
 generalize Sm (L.set i (Tv k b x))=ps2 at *
 have i12:((i:Int)<12)=True:=eq_true (by omega)
 have hpz:(i*2≤23)=True:=eq_true (by omega)
 have hs1:=rB L i x.1 2 x.2 hx
 have ht1:ac4 (24-i*2) [AV.int .i64 2]=[AV.int .i64 2]:=acG (by simp;omega)
 have f1:=Vy (L.set i (2,x.2))
 have c1:=Vw (L.set i (2,x.2))
 have v1:=jH (L.set i (2,x.2))
 have l1:=iW (L.set i (2,x.2))
 have r1:=bJ (L.set i (2,x.2))
 have hpl1:(Sm (L.set i (2,x.2))).length=24:=by rw[Rh];simp;omega
 have htk1:=acG (l:=Sm (L.set i (2,x.2))) (i:=24) (by omega)
 simp only[axM,aoS]at hs1
 generalize Sm (L.set i (2,x.2))=ps1 at *
 generalize Sm L=ps at *
 refine ce Tryz.func55 ?_
 simp only[Tryz.f55]
 rw[hlb]
 cases q4:(k==4)
 ·cases q2:decide ((n2:Int)≥if(n0:Int)<w.need then(n0:Int)else w.need)
  all_goals (have hb:=trivial;with_reducible repeat' (first|simp only[hb,Vc.down,seval,av7.down,q4,hn0,hn2,ha,hmn,f0,c0,v0,l0,r0,p0,hpl,htk,f2,c2,v2,l2,r2,p2,n2',i2]|refine Qs ?_ ?_<;>intro hb|refine fd ?_|fail))
  all_goals simp only[ge_iff_le]at q2
  all_goals rw[q2]
 ·cases q1:decide ((n1:Int)<if(n0:Int)<w.need then(n0:Int)else w.need)
  ·cases q2:decide ((n2:Int)≥if(n0:Int)<w.need then(n0:Int)else w.need)
   all_goals (have hb:=trivial;with_reducible repeat' (first|simp only[hb,Vc.down,seval,av7.down,q1,q4,hn0,hn1,hn2,ha,hmn,f0,c0,v0,l0,r0,p0,hpl,htk,f1,c1,v1,l1,r1,hpl1,htk1,f2,c2,v2,l2,r2,p2,n2',i2,Vv,i12,hpz,hs1,ht1]|refine Qs ?_ ?_<;>intro hb|refine fd ?_|fail))
   all_goals simp only[ge_iff_le]at q2
   all_goals rw[q2]
  ·(have hb:=trivial;with_reducible repeat' (first|simp only[hb,Vc.down,seval,av7.down,q1,q4,hn0,hn1,hn2,ha,hmn,f0,c0,v0,l0,r0,p0,hpl,htk,f1,c1,v1,l1,r1,hpl1,htk1,f2,c2,v2,l2,r2,p2,n2',i2,Vv,i12,hpz,hs1,ht1]|refine Qs ?_ ?_<;>intro hb|refine fd ?_|fail))
theorem amG(w:Qj)(i:Int):Uu.call (.fn 19) [.agg [.int .i64 w.rooms,.int .i64 w.need,Rw 9 true w.nn (w.parts.map Qd.cells)],.int .i64 i] []=some (.ret (.bool (Xw i 0 (IntKind.i64.wrap ((w.parts.length:Int)-1)))),[]):=by
 have h:=wP i 0 (IntKind.i64.wrap ((w.parts.length:Int)-1))
 (refine ce Tryz.func19 ?_;simp only[Tryz.f19];(have hb:=trivial;with_reducible repeat' (first|simp only[hb,Vc.down,seval,bb5.down,h,abV]|refine Qs ?_ ?_<;>intro hb|refine fd ?_|fail)))
theorem akD{w:Qj}(hne:w.parts≠[])(hl:w.parts.length≤1000){i:Nat}(hi:i<w.parts.length)(q:Qd):∃wf,Uu.call (.fn 21) [.agg [.int .i64 w.rooms,.int .i64 w.need,Rw 9 true w.nn (w.parts.map Qd.cells)],.int .i64 (i:Int),.agg [.int .i64 q.one,.int .i64 q.other,.bool q.valve,.bool q.opn,.int .i64 q.tested,.int .i64 q.valid,.bool q.bad,.int .i64 q.test,.int .i64 q.change]] []=some (.ret (.agg [.int .i64 w.rooms,.int .i64 w.need,.slr 9 0 0 w.parts.length]),[.live 9 true wf ((w.parts.set i q).map Qd.cells)]):=by
 have h2:w.parts.map Qd.cells≠[]:=by simpa using hne
 have h3:(w.parts.length≤549755813888)=True:=eq_true (by omega)
 have h4:=fun(h:Qa)=>ad2 (n:=9) (h:=h) (nfl:=true) h2 (by simp;omega)
 have hs:Rw 9 true w.nn (w.parts.map Qd.cells)=.imm 9 true (w.parts.map Qd.cells):=Yw h2
 have iln:((i:Int)<(w.parts.length:Int))=True:=eq_true (by omega)
 obtain⟨p,hp⟩:∃p,w.parts[i]?=some p:=⟨_,adD hi⟩
 have hset:∀a1 a2 a3 a4 a5 a6 a7 a8 a9,(w.parts.map Qd.cells).set i [.int .i64 a1,.int .i64 a2,.bool a3,.bool a4,.int .i64 a5,.int .i64 a6,.bool a7,.int .i64 a8,.int .i64 a9]=(w.parts.set i ⟨a1,a2,a3,a4,a5,a6,a7,a8,a9⟩).map Qd.cells:=fun a1 a2 a3 a4 a5 a6 a7 a8 a9=>by rw[List.map_set];rfl
 rw[hs]
 refine⟨true,?_⟩
 (refine ce Tryz.func21 ?_;simp only[Tryz.f21];(have hb:=trivial;with_reducible repeat' (first|simp only[hb,Vc.down,seval,bb4.down,h3,h4,hp,Qd.cells,iln,hset,abV]|refine Qs ?_ ?_<;>intro hb|refine fd ?_|fail)))
 try rfl
def dY(w:Qj)(i:Nat)(q:Qd):Qj:={ w with nn:=true,parts:=w.parts.set i q }
theorem aH(w:Qj)(i:Nat)(q:Qd):(dY w i q).parts.length=w.parts.length:=by simp[dY]
theorem aa4{w:Qj}{d:Int}{i:Nat}{q:Qd}(hi:i<w.parts.length):Qh (dY w i q) d=(Qh w d).set i (Xq q d,q.opn):=by
 unfold Qh
 rw[aH,ax7 _ _ (by simpa using hi),←List.map_set]
 rfl
theorem amI{w:Qj}{i:Nat}{p q:Qd}(hp:w.parts[i]?=some p)(h1:q.one=p.one)(h2:q.other=p.other)(ts:List Bool):xO (dY w i q) ts=xO w ts:=by
 unfold xO dY
 apply aoU
 intro j
 simp only[ayX]
 by_cases e:i=j
 ·subst e
  rw[aoV (ah9.1 hp).1,hp]
  cases ts[i]? with
  |none=>rfl
  |some t=>simp only[h1,h2]
 ·rw[aoW e]
theorem an8{w:Qj}{N:Nat}{i:Nat}{p q:Qd}(hp:w.parts[i]?=some p)(h1:q.one=p.one)(h2:q.other=p.other)(L:List (Int × Bool)):pS (dY w i q) N L=pS w N L:=by
 unfold pS
 rw[amI hp h1 h2,aH]
theorem mO{w:Qj}{N:Nat}{d:Int}{i:Nat}{p q:Qd}(hp:w.parts[i]?=some p)(h1:q.one=p.one)(h2:q.other=p.other):nZ (dY w i q) N d=pS w N ((Qh w d).set i (Xq q d,q.opn)):=by
 rw[←iY,aa4 (ah9.1 hp).1,an8 hp h1 h2]
theorem ag9{w:Qj}(h:Wj w=true){i:Nat}{q:Qd}(hq:Xp w.rooms q=true):Wj (dY w i q)=true:=by
 simp only[Wj,aaV,ao1]at h ⊢
 obtain⟨⟨⟨h1,h2⟩,h3⟩,h4⟩:=h
 refine⟨⟨⟨h1,h2⟩,by rw[aH];exact h3⟩,?_⟩
 rw[ahS]at h4 ⊢
 intro x hx
 rcases apA hx with hx|rfl
 ·exact h4 x hx
 ·exact hq
theorem acW{w:Qj}(hs:w.small){i:Nat}{q:Qd}(hq:q.fits):(dY w i q).small:=⟨by rw[aH];exact hs.parts,fun x hx=>by
 rcases apA hx with hx|rfl
 ·exact hs.fits x hx
 ·exact hq,hs.rooms,hs.need⟩
theorem afD{w:Qj}{N:Nat}(hw:xP w N){L:List (Int × Bool)}{i:Nat}{x y:Int × Bool}(hi:i<L.length)(hxy:yS x=true→yS y=true):pS w N (L.set i x)≤pS w N (L.set i y):=by
 have n2:=hw.n2
 have n8:=hw.n8
 have get:∀(z:Int × Bool) (j:Nat),(xO w (tgt (L.set i z)))[j]?=(w.parts[j]?).bind fun p=>(L[j]?).map fun u=>(p.one.toNat,p.other.toNat,if yS (if i=j then z else u)=true then 1 else 0):=fun z j=>by
  unfold xO tgt
  rw[ayX,ayY]
  by_cases e:i=j
  ·subst e
   rw[aoV hi,adD hi]
   cases w.parts[i]?<;>simp
  ·rw[aoW e]
   cases w.parts[j]? with
   |none=>rfl
   |some p=>cases L[j]?<;>simp[e]
 refine an9 n2 (by omega) (sN hw _) (sN hw _) (fun a b c' hc=>?_) (fun a b c hc=>?_)
 ·obtain⟨j,hj⟩:=apU hc
  rw[get]at hj
  obtain⟨p,h1,hj⟩:=ayZ.1 hj
  obtain⟨u,h2,hj⟩:=aoT.1 hj
  refine⟨if yS (if i=j then x else u)=true then 1 else 0,adM (i:=j) ?_,?_⟩
  ·rw[get,h1,h2]
   simp only[abT,adA,aqT.injEq,Prod.mk.injEq]at hj ⊢
   exact⟨hj.1,hj.2.1,trivial⟩
  ·simp only[Prod.mk.injEq]at hj
   rw[←hj.2.2]
   by_cases e:i=j
   ·rw[if_pos e,if_pos e]
    by_cases t:yS x=true
    ·rw[if_pos t,if_pos (hxy t)];exact ad8 _
    ·rw[if_neg t];exact aq9 _
   ·rw[if_neg e,if_neg e];exact ad8 _
 ·obtain⟨j,hj⟩:=apU hc
  rw[get]at hj
  obtain⟨p,h1,hj⟩:=ayZ.1 hj
  obtain⟨u,h2,hj⟩:=aoT.1 hj
  refine⟨if yS (if i=j then y else u)=true then 1 else 0,adM (i:=j) ?_⟩
  rw[get,h1,h2]
  simp only[abT,adA,aqT.injEq,Prod.mk.injEq]at hj ⊢
  exact⟨hj.1,hj.2.1,trivial⟩
theorem ajJ{α:Type}{L:List α}{i:Nat}{x:α}(hx:L[i]?=some x):L.set i x=L:=by
 apply aoU
 intro j
 by_cases e:i=j
 ·subst e;rw[aoV (ah9.1 hx).1,hx]
 ·rw[aoW e]
theorem wU{w:Qj}(h:Wj w=true){i:Nat}{p:Qd}(hp:w.parts[i]?=some p):Xp w.rooms p=true:=by
 simp only[Wj,ao1,ahS]at h
 exact h.2 p (adM hp)
theorem ajY{N:Int}{p:Qd}(h:Xp N p=true):(p.opn=true→p.valve=true)∧0≤p.tested∧p.tested≤5000∧0≤p.valid∧p.valid≤5000∧1≤p.test∧1≤p.change:=by
 simp only[Xp,dA,Xw,ao1,decide_eq_true_eq,Bool.not_eq_true',Bool.and_eq_false_iff,Bool.not_eq_false']at h
 obtain⟨⟨⟨⟨⟨⟨⟨a1,a2⟩,a3⟩,a4⟩,a5⟩,a6⟩,a7⟩,a8⟩:=h
 refine⟨fun e=>?_,a5.1,a5.2,a6.1,a6.2,a7.1,a8.1⟩
 rcases a4 with a4|a4
 ·rw[e]at a4;cases a4
 ·exact a4
theorem aqO{w:Qj}{N:Nat}(hw:xP w N){i:Nat}{p q:Qd}(hp:w.parts[i]?=some p)(h1:q.one=p.one)(h2:q.other=p.other):xP (dY w i q) N:=
 ⟨hw.rooms,hw.n2,hw.n8,by rw[aH];exact hw.len,fun e=>hw.ne (by have:=congrArg List.length e;rw[aH]at this;exact List.length_eq_zero_iff.1 this),fun x hx=>by
   rcases apA hx with hx|rfl
   ·exact hw.part x hx
   ·rw[h1,h2];exact hw.part p (adM hp)⟩
abbrev St:=List (Int × Bool) × Nat
def Rr(s:St):List AV:=Sm s.1++[.int .i64 (s.2:Int)]
def ag8(p:Qd)(k:Int):Int:=if k=3 then p.test else if k=4 then p.change else 1
structure Yt where
 k:Int
 i:Nat
 c:Int
 to:List St
def toF(L:List (Int × Bool))(f:Nat)(k:Int)(i:Nat)(x:Int × Bool):List St:=(L.set i (Tv k true x),f)::if k=3∧0<f then [(L.set i (Tv k false x),f-1)]else []
def wT(w:Qj)(N:Nat)(s:St)(k:Int)(i:Nat):Option Yt:=
 match w.parts[i]?,s.1[i]? with
 |some p,some x=>if(agE p x k&&uE w N s.1 k i true x)=true then some ⟨k,i,ag8 p k,toF s.1 s.2 k i x⟩else none
 |_,_=>none
def tJ(w:Qj)(N:Nat)(s:St)(k:Int):List Yt:=(asT w.parts.length).filterMap (wT w N s k)
def Tn(w:Qj)(N:Nat)(s:St):List Yt:=tJ w N s 1++(tJ w N s 2++(tJ w N s 3++tJ w N s 4))
structure Up where
 part:Int
 opn:Bool
 good:Bool
def Up.cells(x:Up):List AV:=[.int .i64 x.part,.bool x.opn,.bool x.good]
def acO(L:List (Int × Bool))(x:Up):Bool:=match L[x.part.toNat]? with
 |some q=>q.2==x.opn&&(!x.good||q.1==0)
 |none=>false
def oM(L:List (Int × Bool))(l:List Up):Bool:=l.all (acO L)
def Yq(w:Qj)(N:Nat)(l:List Up):Go.Ev.pY St:=⟨fun s=>oM s.1 l,fun s=>(Tn w N s).map fun o=>(o.c.toNat,o.to)⟩
theorem Xs{s:St}(h:s.1.length=12):(Rr s).length=25:=by simp[Rr,Rh,h]
theorem Vx(s:St):(Rr s).all AV.flat=true:=by
 unfold Rr;rw[ay0,Vy];rfl
theorem Wi(s:St):(Rr s).all AV.isCell=true:=by
 unfold Rr;rw[ay0,Vw];rfl
theorem qY{L:List (Int × Bool)}{i:Nat}{x:Int × Bool}(h:L[i]?=some x):Zc.partOf Tryz.prog 80 (Sm L) (i*2)=some (.agg [.int .i64 x.1,.bool x.2]):=by
 have h1:bL Tryz.prog 80=some true:=by kernel_rfl
 have h2:Ze Tryz.prog 80=some 2:=by kernel_rfl
 obtain⟨a,b⟩:=x
 simp only[Zc.partOf,h1,h2,abT,if_true,adA,lV L i a b h]
theorem agO(d:Nat)(x y:Int × Bool):Zc Tryz.prog (d+2) 80 (.agg [.int .i64 x.1,.bool x.2]) (.agg [.int .i64 y.1,.bool y.2])=some (decide (x=y)):=by
 have h0:Tryz.prog.stoodInHeld 80=false:=by kernel_rfl
 have h1:bL Tryz.prog 78=some false:=by kernel_rfl
 have h2:bL Tryz.prog 4=some false:=by kernel_rfl
 unfold Zc
 simp only[Tryz.underlying80,h0,agF,if_false,Zc.eqL,Zc.partOf,h1,h2,abT,ay1,as3]
 unfold Zc
 simp only[Tryz.underlying78,Tryz.underlying4,if_true,abT]
 obtain⟨a,b⟩:=x
 obtain⟨c,e⟩:=y
 by_cases q1:a=c<;>by_cases q2:b=e<;>simp[q1,q2]
theorem ad7(d:Nat){a b:List (Int × Bool)}(ha:a.length=12)(hb:b.length=12):∀l:List Nat,(∀i∈l,i<12)→Zc.eqA Tryz.prog (Zc Tryz.prog (d+2) 80) 80 2 (Sm a) (Sm b) l=some (decide (∀i∈l,a[i]?=b[i]?))
 | [],_=>by simp[Zc.eqA]
 |i::l,h=>by
  have hi:=h i (by simp)
  have e1:a[i]?=some a[i]:=adD (by omega)
  have e2:b[i]?=some b[i]:=adD (by omega)
  have ih:=ad7 d ha hb l fun j hj=>h j (atB _ hj)
  simp only[Zc.eqA,qY e1,qY e2,abT,agO,ih]
  by_cases q:a[i]=b[i]
  ·simp[q,e1,e2]
  ·simp[q,e1,e2]
theorem atZ{a b:St}(ha:a.1.length=12)(hb:b.1.length=12):Zc Tryz.prog 12 85 (.agg (Rr a)) (.agg (Rr b))=some (decide (a=b)):=by
 have h0:Tryz.prog.stoodInHeld 85=false:=by kernel_rfl
 have h1:bL Tryz.prog 82=some true:=by kernel_rfl
 have h2:bL Tryz.prog 3=some false:=by kernel_rfl
 have h3:Ze Tryz.prog 82=some 24:=by kernel_rfl
 have h4:Ze Tryz.prog 80=some 2:=by kernel_rfl
 have tk:∀s:St,s.1.length=12→ac4 24 (Rr s)=Sm s.1:=fun s h=>by
  unfold Rr;rw[ahF (by rw[Rh];omega),acG (by rw[Rh];omega)]
 have gt:∀s:St,s.1.length=12→(Rr s)[24]?=some (.int .i64 (s.2:Int)):=fun s h=>by
  unfold Rr;rw[adP (by rw[Rh];omega),Rh,h];rfl
 have hA:Zc Tryz.prog 11 82 (.agg (Sm a.1)) (.agg (Sm b.1))=some (decide (a.1=b.1)):=by
  unfold Zc
  simp only[Tryz.underlying82,h4,abT]
  rw[ad7 8 ha hb (asT 12) (fun i hi=>atC.1 hi)]
  congr 1
  rw[decide_eq_decide]
  constructor
  ·intro h
   refine aoU fun i=>?_
   by_cases hi:i<12
   ·exact h i (atC.2 hi)
   ·rw[ay2 (by omega),ay2 (by omega)]
  ·intro h i _;rw[h]
 have hI:Zc Tryz.prog 11 3 (.int .i64 (a.2:Int)) (.int .i64 (b.2:Int))=some (decide (a.2=b.2)):=by
  unfold Zc
  simp only[Tryz.underlying3,if_true]
  congr 1
  rw[Bool.eq_iff_iff];simp;omega
 unfold Zc
 simp only[Tryz.underlying85,h0,agF,if_false,Zc.eqL,Zc.partOf,h1,h2,h3,abT,if_true,adA,ay3,tk a ha,tk b hb,gt a ha,gt b hb,hA,hI]
 obtain⟨x,f⟩:=a
 obtain⟨y,g⟩:=b
 by_cases q1:x=y<;>by_cases q2:f=g<;>simp[q1,q2]
def Sz(kvs:List AV):CB:=.lp [] .skip .skip kvs .map
def Uy(L:List St)(v:St→AV):List AV:=L.flatMap fun s=>[.agg (Rr s),v s]
def zI(L:List St):Prop:=∀s∈L,s.1.length=12
theorem acS(d:Nat)(x:Int × Bool):dM Tryz.prog (d+2) 80 (.agg [.int .i64 x.1,.bool x.2])=true:=by
 have h1:bL Tryz.prog 78=some false:=by kernel_rfl
 have h2:bL Tryz.prog 4=some false:=by kernel_rfl
 unfold dM
 simp only[Tryz.underlying80,Zc.partOf,h1,h2,abT,List.all_cons,List.all_nil,agF,if_false,ay1,as3,adA,aiF]
 unfold dM
 simp only[Tryz.underlying78,Tryz.underlying4]
 rfl
theorem iT{s:St}(hs:s.1.length=12):aa9 Tryz.prog 85 (.agg (Rr s))=true:=by
 have h1:bL Tryz.prog 82=some true:=by kernel_rfl
 have h2:bL Tryz.prog 3=some false:=by kernel_rfl
 have h3:Ze Tryz.prog 82=some 24:=by kernel_rfl
 have h4:Ze Tryz.prog 80=some 2:=by kernel_rfl
 have tk:ac4 24 (Rr s)=Sm s.1:=by
  unfold Rr;rw[ahF (by rw[Rh];omega),acG (by rw[Rh];omega)]
 have gt:(Rr s)[24]?=some (.int .i64 (s.2:Int)):=by
  unfold Rr;rw[adP (by rw[Rh];omega),Rh,hs];rfl
 have hA:dM Tryz.prog 4 82 (.agg (Sm s.1))=true:=by
  unfold dM
  simp only[Tryz.underlying82,h4,adA,aiF]
  rw[ahS]
  intro i hi
  have hi:=atC.1 hi
  have e1:s.1[i]?=some s.1[i]:=adD (by omega)
  rw[qY e1,adA,aiF,acS 1]
 have hI:dM Tryz.prog 4 3 (.int .i64 (s.2:Int))=true:=by
  unfold dM
  simp only[Tryz.underlying3]
  rfl
 unfold aa9
 simp only[Vx,Bool.and_true]
 unfold dM
 simp only[Tryz.underlying85,Zc.partOf,h1,h2,h3,abT,List.all_cons,List.all_nil,agF,if_false,if_true,adA,aiF,ay3,tk,gt,hA,hI,Bool.and_true]
theorem bI{s:St}(hs:s.1.length=12)(v:St→AV):∀(L:List St) (i:Nat),zI L→dR Tryz.prog 85 (.agg (Rr s)) (Uy L v) i=some (if s∈L then some (i+L.idxOf s,v s)else none)
 | [],i,_=>rfl
 |a::L,i,h=>by
  have ha:=h a (by simp)
  have ih:=bI hs v L (i+1) fun x hx=>h x (atB _ hx)
  show dR _ _ _ (.agg (Rr a)::v a::Uy L v) i=_
  simp only[dR,atZ hs ha,abT,ih]
  by_cases e:s=a
  ·subst e;simp
  ·have e2:(a==s)=false:=by simp;exact fun h=>e h.symm
   simp only[decide_eq_true_eq,e,if_false,ai5,false_or,ay4,e2,cond_false,aqT.injEq]
   split
   ·rw[show i+1+ajT s L=i+(ajT s L+1) by omega]
   ·rfl
theorem amR(v:St→AV):∀(L:List St) (n:Nat),(Uy L v)[2*n]?=L[n]?.map fun s=>.agg (Rr s)
 | [],n=>rfl
 |a::L,0=>rfl
 |a::L,n+1=>by
  show(.agg (Rr a)::v a::Uy L v)[2*(n+1)]?=_
  rw[show 2*(n+1)=2*n+2 by omega]
  simp only[as3,amR v L n]
theorem aj7{v:St→AV}{x:AV}{s:St}:∀{L:List St},L.Nodup→s∈L→(Uy L v).set (2*L.idxOf s+1) x=Uy L fun y=>if y=s then x else v y
 | [],_,h=>by cases h
 |a::L,hn,h=>by
  have hn':=List.nodup_cons.1 hn
  show(.agg (Rr a)::v a::Uy L v).set (2*(a::L).idxOf s+1) x=.agg (Rr a)::(if a=s then x else v a)::Uy L fun y=>if y=s then x else v y
  have same:s∉L→(Uy L fun y=>if y=s then x else v y)=Uy L v:=fun hs=>by
   unfold Uy
   rw[anI,anI]
   congr 1
   refine ay5 fun y hy=>?_
   simp only[if_neg (show ¬y=s from fun e=>hs (e▸hy))]
  by_cases e:a=s
  ·subst e
   simp[same hn'.1]
  ·have e2:(a==s)=false:=by simpa using e
   rcases ai5.1 h with h|h
   ·exact absurd h.symm e
   ·simp only[ay4,e2,cond_false,if_neg e]
    rw[show 2*(ajT s L+1)+1=(2*ajT s L+1)+2 by omega]
    simp only[axO,aj7 hn'.2 h]
theorem aeS(s:St):AV.sameKey (.agg (Rr s)) (.agg (Rr s))=true:=by
 have h:∀x∈Rr s,AV.same x x=true:=fun x hx=>by
  unfold Rr at hx
  rcases ay6.1 hx with hx|hx
  ·rcases Xo s.1 x hx with⟨n,rfl⟩|⟨b,rfl⟩<;>simp[AV.same]
  ·simp at hx;subst hx;simp[AV.same]
 simp only[AV.sameKey,beq_self_eq_true,Bool.true_and,ahS]
 intro ⟨x,y⟩ hxy
 obtain⟨i,hi⟩:=apU hxy
 rw[List.getElem?_zip_eq_some]at hi
 obtain⟨h1,h2⟩:=hi
 simp only at h1 h2
 rw[h1]at h2;cases h2
 exact h x (adM h1)
theorem dE{h:Qa}{b:Nat}{kvs:List AV}(hb:h[b]?=some (Sz kvs)):aQ (hf h) b=some kvs:=by
 unfold aQ
 rw[show hf h b=some (Sz kvs)from hb];rfl
section
variable {h:Qa} {b:Nat} {L:List St} {v:St→AV} {s:St}
theorem wH(hb:h[b]?=some (Sz (Uy L v)))(hL:zI L)(hs:s∈L):lk Tryz.prog h 86 (some (.mapr b)) (some (.agg (Rr s))) false=some (.ret (v s),[]):=by
 have hz:Uz Tryz.prog 3=some (.int .i64 0):=by kernel_rfl
 simp only[lk,abT,Ur,Tryz.underlying86,iT (hL s hs),if_true,dE hb,bI (hL s hs) v L 0 hL,if_pos hs,hz,cond_false]
 rfl
theorem auW(hb:h[b]?=some (Sz (Uy L v)))(hL:zI L)(hs:s∈L):lk Tryz.prog h 86 (some (.mapr b)) (some (.agg (Rr s))) true=some (.ret (.tup [v s,.bool true]),[]):=by
 have hz:Uz Tryz.prog 3=some (.int .i64 0):=by kernel_rfl
 simp only[lk,abT,Ur,Tryz.underlying86,iT (hL s hs),if_true,dE hb,bI (hL s hs) v L 0 hL,if_pos hs,hz,cond_true]
 rfl
theorem a0N(hb:h[b]?=some (Sz (Uy L v)))(hL:zI L)(h12:s.1.length=12)(hs:s∉L):lk Tryz.prog h 86 (some (.mapr b)) (some (.agg (Rr s))) true=some (.ret (.tup [.int .i64 0,.bool false]),[]):=by
 have hz:Uz Tryz.prog 3=some (.int .i64 0):=by kernel_rfl
 simp only[lk,abT,Ur,Tryz.underlying86,iT h12,if_true,dE hb,bI h12 v L 0 hL,if_neg hs,hz,cond_true]
 rfl
theorem adY(hb:h[b]?=some (Sz (Uy L v)))(hL:zI L)(hs:s∈L):lk Tryz.prog h 87 (some (.mapr b)) (some (.agg (Rr s))) false=some (.ret (v s),[]):=by
 have hz:Uz Tryz.prog 91=some .nils:=by kernel_rfl
 simp only[lk,abT,Ur,Tryz.underlying87,iT (hL s hs),if_true,dE hb,bI (hL s hs) v L 0 hL,if_pos hs,hz,cond_false]
 rfl
theorem acX(hb:h[b]?=some (Sz (Uy L v)))(hL:zI L)(hn:L.Nodup)(hs:s∈L)(x:AV):ms Tryz.prog h 86 (some (.mapr b)) (some (.agg (Rr s))) (some x)=some (.ret (.tup []),[.put b (Sz (Uy L fun y=>if y=s then x else v y))]):=by
 have hi:L[L.idxOf s]?=some s:=by
  rw[adD (List.idxOf_lt_length_of_mem hs)];simp
 simp only[ms,abT,Wg,Tryz.underlying86,iT (hL s hs),if_true,dE hb,bI (hL s hs) v L 0 hL,if_pos hs,Nat.zero_add,amR,hi,adA,aiF,aeS,aj7 hn hs]
 rfl
theorem akL(hs:s∉L)(x:AV):Uy L v++[.agg (Rr s),x]=Uy (L++[s]) fun y=>if y=s then x else v y:=by
 unfold Uy
 rw[List.flatMap_append]
 congr 1
 ·rw[anI,anI]
  congr 1
  refine ay5 fun y hy=>?_
  simp only[if_neg (show ¬y=s from fun e=>hs (e▸hy))]
 ·simp
theorem auS(hb:h[b]?=some (Sz (Uy L v)))(hL:zI L)(h12:s.1.length=12)(hs:s∉L)(x:AV):ms Tryz.prog h 86 (some (.mapr b)) (some (.agg (Rr s))) (some x)=some (.ret (.tup []),[.put b (Sz (Uy (L++[s]) fun y=>if y=s then x else v y))]):=by
 rw[←akL hs]
 simp only[ms,abT,Wg,Tryz.underlying86,iT h12,if_true,dE hb,bI h12 v L 0 hL,if_neg hs]
 rfl
theorem axX(hb:h[b]?=some (Sz (Uy L v)))(hL:zI L)(h12:s.1.length=12)(hs:s∉L)(x:AV):ms Tryz.prog h 87 (some (.mapr b)) (some (.agg (Rr s))) (some x)=some (.ret (.tup []),[.put b (Sz (Uy (L++[s]) fun y=>if y=s then x else v y))]):=by
 rw[←akL hs]
 simp only[ms,abT,Wg,Tryz.underlying87,iT h12,if_true,dE hb,bI h12 v L 0 hL,if_neg hs]
 rfl
end
def Ue:Nat:=1099511627776
def bA(f:St→Nat)(s:St):AV:=.int .i64 (f s:Int)
theorem asK(f:St→Nat)(x:St)(m:Nat):(if((f x:Nat):Int)>(m:Int)then((f x:Nat):Int)else(m:Int))=((max m (f x):Nat):Int):=by split<;>omega
theorem asE(L:List St)(f:St→Nat)(d:Nat)(m:List Nat):Qz.refL (Qz (d+2)) m (Uy L (bA f))=some (Uy L (bA f),m):=Vj fun x hx=>by
 unfold Uy at hx
 obtain⟨s,_,hx⟩:=ay7.1 hx
 simp only[ai5,ay8,or_false]at hx
 rcases hx with rfl|rfl
 ·have:∀y∈Rr s,Qz (d+1) m y=some (y,m):=fun y hy=>by
   unfold Rr at hy
   rcases ay6.1 hy with hy|hy
   ·rcases Xo s.1 y hy with⟨n,rfl⟩|⟨b,rfl⟩<;>rfl
   ·simp at hy;subst hy;rfl
  show(Qz.refL (Qz (d+1)) m (Rr s)).map _=_
  rw[Vj this];rfl
 ·rfl
theorem Zs(L:List St)(f:St→Nat)(m:List Nat):kS m (Sz (Uy L (bA f)))=some (Sz (Uy L (bA f)),m):=by
 simp[Sz,kS,asE L f 6]
theorem tN:∀(l:List AV),(∀x∈l,AV.sameKey x x=true)→AV.sameL l l=true
 | [],_=>rfl
 |x::l,h=>by simp only[AV.sameL,h x (by simp),tN l fun y hy=>h y (atB _ hy),Bool.and_self]
theorem bN(L:List St)(f:St→Nat):CB.same (Sz (Uy L (bA f))) (Sz (Uy L (bA f)))=true:=tN _ fun x hx=>by
 unfold Uy at hx
 obtain⟨s,_,hx⟩:=ay7.1 hx
 simp only[ai5,ay8,or_false]at hx
 rcases hx with rfl|rfl
 ·exact aeS s
 ·simp[bA,AV.sameKey,AV.same]
theorem bR(kvs:List AV):(Sz kvs).clean=Sz kvs:=Eq.trans rfl rfl
theorem eJ(kvs:List AV):(Sz kvs).isLive=true:=Eq.trans rfl rfl
theorem aqL{L:List St}{f:St→Nat}(hL:zI L)(hf:∀s∈L,f s≤Ue){to:List St}(ht:∀s∈to,s∈L)(hlen:to.length≤2){k:Int}{i:Int}{c:Nat}(hc:c≤1000)(nn:Bool):
 Uu.call (.fn 44) [.agg [.int .i64 k,.int .i64 i,.int .i64 (c:Int),Rw 25 true nn (to.map Rr)],.mapr 0] [Sz (Uy L (bA f))]=some (.ret (.int .i64 (min Ue (c+pY.mx f to):Nat)),[Sz (Uy L (bA f))]):=by
 refine ce Tryz.func44 ?_
 simp only[Tryz.f44]
 (have hb:=trivial;with_reducible repeat' (first|simp only[hb,Vc.down,seval,asG.down,abV]|refine Qs ?_ ?_<;>intro hb|refine fd ?_|fail))
 refine Xz (lst 26 to (fun j (m:Nat) t h=>t 1=.mapr 0∧t 2=.ptr 1 0 0∧t 5=.int .i64 (m:Int)∧t 9=Rw 25 true nn (to.map Rr)∧t 10=.int .i64 (to.length:Nat)∧t 11=.int .i64 (j:Int)∧m≤Ue∧h[0]?=some (Sz (Uy L (bA f)))∧∃fl x,h[1]?=some (.live 4 fl x [[.int .i64 k,.int .i64 i,.int .i64 (c:Int),Rw 25 true nn (to.map Rr)]])) (fun rest m=>rest.foldl (fun m x=>max m (f x)) m)
  (fun r e t h=>e=.exit 0∧t 2=.ptr 1 0 0∧t 5=.int .i64 (r:Int)∧r≤Ue∧h[0]?=some (Sz (Uy L (bA f)))∧∃fl x,h[1]?=some (.live 4 fl x [[.int .i64 k,.int .i64 i,.int .i64 (c:Int),Rw 25 true nn (to.map Rr)]])) ?_ ?_ 0 _ _ ?_) (fun e t h hk=>?_)
 ·rintro m t h Q' kQ ⟨g1,g2,g5,g9,g10,g11,hm,hM,fl,x,hB⟩
  (have hb:=trivial;with_reducible repeat' (first|simp only[hb,Vc.down,seval,asG.down,g10,g11,ai3,decide_false]|refine Qs ?_ ?_<;>intro hb|refine fd ?_|fail))
  exact kQ _ _ _ ⟨rfl,by simp[up,g2],by simp[up,g5],hm,hM,fl,x,hB⟩
 ·rintro z rest j m t h J Q' kJ kQ hx hj ⟨g1,g2,g5,g9,g10,g11,hm,hM,fl,x,hB⟩
  have hdd:decide ((j:Int)<(to.length:Int))=true:=decide_eq_true (by omega)
  have hww:=To hj (by unfold maxLen;omega)
  have hz:=ht z (adM hx)
  have hfz:=hf z hz
  have hM2:=Qi hM
  have hlk:=fun l=>wH (v:=bA f) (hM2 l) hL hz
  have hzl:=Xs (hL z hz)
  have hzf:=Vx z
  have hzc:=Wi z
  have htk:ac4 25 (Rr z)=Rr z:=acG (by omega)
  have hmx:=asK f z m
  (have hb:=trivial;with_reducible repeat' (first|simp only[hb,Vc.down,seval,asG.down,g1,g5,g9,g10,g11,hdd,hww,hx,hM2,hlk,hzl,hzf,hzc,htk,bA,hmx,abV]|refine Qs ?_ ?_<;>intro hb|refine fd ?_|fail))
  exact Ru (kJ _ _ (max m (f z)) ⟨by simp[up,g1],by simp[up,g2],by simp[up],by simp[up,g9],by simp[up,g10],by simp[up],by omega,hM2 _,fl,x,Qi hB _⟩ rfl)
 ·exact⟨by simp[up,dU],by simp[up],by simp[up],by simp[up],by simp[up],by simp[up],aq9 _,rfl,_,_,rfl⟩
 obtain⟨rfl,g2,g5,hm,hM,fl,x,hB⟩:=hk
 change t 5=.int .i64 ((pY.mx f to:Nat):Int)at g5
 change pY.mx f to≤Ue at hm
 generalize pY.mx f to=m at *
 have hww:IntKind.i64.wrap ((c:Int)+(m:Int))=((c+m:Nat):Int):=by rw[Uf (by unfold Ue at hm;omega) (by unfold Ue at hm;omega)];omega
 have hmn:(if((c+m:Nat):Int)<1099511627776 then((c+m:Nat):Int)else 1099511627776)=((min Ue (c+m):Nat):Int):=by unfold Ue;split<;>omega
 (have hb:=trivial;with_reducible repeat' (first|simp only[hb,Vc.down,seval,asG.down,g2,g5,hB,hM,hww,hmn,Zs]|refine Qs ?_ ?_<;>intro hb|refine fd ?_|fail))
structure COk(L:List St)(o:Yt):Prop where
 c0:0≤o.c
 c1:o.c≤1000
 to:∀s∈o.to,s∈L
 ne:o.to≠[]
 two:o.to.length≤2
def Yt.cells(o:Yt):List AV:=[.int .i64 o.k,.int .i64 (o.i:Int),.int .i64 o.c,Rw 25 true false (o.to.map Rr)]
def lQ(f:St→Nat)(o:Yt):Nat:=min Ue (o.c.toNat+Go.Ev.pY.mx f o.to)
def aV(f:St→Nat)(n:Nat)(l:List Yt):Nat:=l.foldl (fun m o=>min m (lQ f o)) n
theorem xT{L:List St}{f:St→Nat}(hL:zI L)(hf:∀s∈L,f s≤Ue){o:Yt}(ho:COk L o):
 Uu.call (.fn 44) [.agg o.cells,.mapr 0] [Sz (Uy L (bA f))]=some (.ret (.int .i64 (lQ f o:Nat)),[Sz (Uy L (bA f))]):=by
 have h:=aqL hL hf ho.to ho.two (k:=o.k) (i:=o.i) (c:=o.c.toNat) (by have:=ho.c1;omega) false
 rw[show((o.c.toNat:Nat):Int)=o.c by have:=ho.c0;omega]at h
 exact h
theorem akN{L:List St}{f:St→Nat}(hL:zI L)(hf:∀s∈L,f s≤Ue){o:Yt}(ho:COk L o)(x:Bool):
 Uu.call (.fn 68) [.agg o.cells,.ptr 0 0 0] [.live 1 false x [[.mapr 1]],Sz (Uy L (bA f))]=some (.ret (.int .i64 (lQ f o:Nat)),[.live 1 false x [[.mapr 1]],Sz (Uy L (bA f))]):=by
 have h:=xT hL hf ho
 have hne:o.to.map Rr≠[]:=by simpa using ho.ne
 simp only[Yt.cells,Yw hne]at h ⊢
 refine ce Tryz.func68 ?_
 simp only[Tryz.f68]
 (have hb:=trivial;with_reducible repeat' (first|simp only[hb,Vc.down,seval,bcL.down,h,Zs,bN,bR,Zy.down]|refine Qs ?_ ?_<;>intro hb|refine fd ?_|fail))
theorem as0(a b:Nat):(if(a:Int)<(b:Int)then(a:Int)else(b:Int))=((min b a:Nat):Int):=by split<;>omega
theorem as9{L:List St}{f:St→Nat}(hL:zI L)(hf:∀s∈L,f s≤Ue){l:List Yt}(hl:∀o∈l,COk L o)(hlen:l.length≤maxLen)(nn:Bool)(n:Nat)(x:Bool):
 Uu.call (.fn 67) [Rw 4 false nn (l.map Yt.cells),.func (.func 68) [] [.ptr 0 0 0],.int .i64 (n:Int)] [.live 1 false x [[.mapr 1]],Sz (Uy L (bA f))]=some (.ret (.int .i64 (aV f n l:Nat)),[.live 1 false x [[.mapr 1]],Sz (Uy L (bA f))]):=by
 obtain⟨q1,hq1⟩:∃q,Fn.func 68=q:=⟨_,rfl⟩
 refine ce Tryz.func67 ?_
 simp only[Tryz.f67]
 (have hb:=trivial;with_reducible repeat' (first|simp only[hb,Vc.down,seval,arW.down,abV]|refine Qs ?_ ?_<;>intro hb|refine fd ?_|fail))
 refine Xz (lst 22 l (fun j (m:Nat) t h=>t 1=.func (.func 68) [] [.ptr 0 0 0]∧t 2=.int .i64 (m:Int)∧t 9=Rw 4 false nn (l.map Yt.cells)∧t 10=.int .i64 (l.length:Nat)∧t 11=.int .i64 (j:Int)∧h[0]?=some (.live 1 false x [[.mapr 1]])∧h[1]?=some (Sz (Uy L (bA f)))) (fun rest m=>rest.foldl (fun m o=>min m (lQ f o)) m)
  (fun r e t h=>e=.exit 0∧t 2=.int .i64 (r:Int)∧h[0]?=some (.live 1 false x [[.mapr 1]])∧h[1]?=some (Sz (Uy L (bA f)))) ?_ ?_ n _ _ ?_) (fun e t h hk=>?_)
 ·rintro m t h Q' kQ ⟨g1,g2,g9,g10,g11,hB,hM⟩
  (have hb:=trivial;with_reducible repeat' (first|simp only[hb,Vc.down,seval,arW.down,g10,g11,ai3,decide_false]|refine Qs ?_ ?_<;>intro hb|refine fd ?_|fail))
  exact kQ _ _ _ ⟨rfl,by simp[up,g2],hB,hM⟩
 ·rintro o rest j m t h J Q' kJ kQ hx hj ⟨g1,g2,g9,g10,g11,hB,hM⟩
  have hdd:decide ((j:Int)<(l.length:Int))=true:=decide_eq_true (by omega)
  have hww:=To hj (by unfold maxLen at hlen;unfold maxLen;omega)
  have ho:=hl o (adM hx)
  have hc:=akN hL hf ho false
  have hmn:=as0 (lQ f o) m
  have hB2:=Qi hB
  have hM2:=Qi hM
  have hne:o.to.map Rr≠[]:=by simpa using ho.ne
  simp only[Yt.cells,Yw hne]at hc
  have hcs:o.cells=[.int .i64 o.k,.int .i64 (o.i:Int),.int .i64 o.c,.imm 25 true (o.to.map Rr)]:=by simp only[Yt.cells,Yw hne]
  (have hb:=trivial;with_reducible repeat' (first|simp only[hb,Vc.down,seval,arW.down,g1,g2,g9,g10,g11,hdd,hww,hx,hB,hM,hB2,hM2,hcs,hc,hmn,Zs,bN,bR,Zy.down,abV]|refine Qs ?_ ?_<;>intro hb|refine fd ?_|fail))
  exact Ru (kJ _ _ (min m (lQ f o)) ⟨by simp[up,g1],by simp[up],by simp[up,g9],by simp[up,g10],by simp[up],hB2 _,hM2 _⟩ rfl)
 ·exact⟨by simp[up,dU],by simp[up,dU],by simp[up],by simp[up],by simp[up],rfl,rfl⟩
 obtain⟨rfl,g2,hB,hM⟩:=hk
 change t 2=.int .i64 (aV f n l:Nat)at g2
 (have hb:=trivial;with_reducible repeat' (first|simp only[hb,Vc.down,seval,arW.down,g2,hB,hM,Zs,Zy.down]|refine Qs ?_ ?_<;>intro hb|refine fd ?_|fail))
def rP(w:Qj)(d:Int)(x:Bool):CB:=.live 4 false x [[.int .i64 w.rooms,.int .i64 w.need,Rw 9 true w.nn (w.parts.map Qd.cells),.int .i64 d]]
def lJ(w:Qj)(N:Nat)(s:St):Nat→List Yt
 |0=>[]
 |i+1=>lJ w N s i++tJ w N s ((i:Int)+1)
theorem auV(w:Qj)(N:Nat)(s:St):lJ w N s 4=Tn w N s:=by
 simp[lJ,Tn]
def sG(w:Qj)(N:Nat)(s:St)(k:Int)(j:Nat):List Yt:=(asT j).filterMap (wT w N s k)
theorem af0(w:Qj)(N:Nat)(s:St)(k:Int)(j:Nat):sG w N s k (j+1)=sG w N s k j++(wT w N s k j).toList:=by
 unfold sG
 rw[List.range_succ,List.filterMap_append]
 congr 1
theorem asF{H h:Qa}(k:Xl [] H h)(l:Qa):Xl [] H (h++l):=k.trans (Xl.app h l)
theorem _root_.Go.Ev.tM.app{st lo:Nat}{ov:AV}{h:Qa}{rows Q:List (List AV)}{Ro:List Nat}(I:tM st lo ov h rows Q Ro)(l:Qa):tM st lo ov (h++l) rows Q Ro:=I.keep (by simp) fun b _ hb=>aoP hb
theorem adG{st lo:Nat}{ov:AV}{h:Qa}{rows Q:List (List AV)}{Ro:List Nat}(I:tM st lo ov h rows Q Ro)(l:Qa):kl 0 ov (h++l)=kl 0 ov h++l:=by
 unfold kl
 split
 ·rename_i a b r n
  have:=(I.dov _ _ _ _ rfl).2.2
  rw[ax7 _ _ (by omega)]
 ·rfl
theorem kKl{H h:Qa}{st:Nat}{ov:AV}{rows Q:List (List AV)}{Ro:List Nat}(hK:Xl [] H h)(I:tM st (H.length+1) ov h rows Q Ro)(l:Qa):Xl [] H (kl 0 ov h++l):=
 ⟨by rw[azA,mG];have:=hK.len;omega,fun b hb hn=>by
   rw[fM _ (by have:=hK.len;omega) fun a c r n e e2=>by have:=(I.dov a c r n e).1;omega]
   exact hK.same b hb hn⟩
theorem ahM{w:Qj}{N:Nat}(hw:xP w N)(h12:w.parts.length≤12)(d:Int){H:Qa}{lb:Nat}{wf:Bool}(hlb:H[lb]?=some (rP w d wf)){s:St}(hs:s.1.length=12)(hf3:s.2≤3):
 yR Uu 65 [.ptr lb 0 0,.agg (Rr s)] H fun o G=>(∃v R,o=.ret v∧rd 6 (hf G) v=some (Rw 4 false false ((Tn w N s).map Yt.cells),R)∧∀b∈R,H.length≤b)∧Xl [] H G:=by
 have hlen:=hw.len
 have hsl:=Xs hs
 have hsf:=Vx s
 have hsc:=Wi s
 have htk:ac4 25 (Rr s)=Rr s:=acG (by omega)
 refine ac9 rfl Tryz.func65 rfl rfl ?_
 simp only[Tryz.f65]
 (have hb:=trivial;with_reducible repeat' (first|simp only[hb,Vc.down,seval,qA.down,hsl,hsf,hsc,htk,abV]|refine Qs ?_ ?_<;>intro hb|refine fd ?_|fail))
 refine Xz (lst 84 (List.replicate 4 ()) (fun i (_:Unit) t h=>t 0=.ptr lb 0 0∧t 3=.ptr H.length 0 0∧t 6=.int .i64 ((i:Int)+1)∧Xl [] H h∧(∃x,h[H.length]?=some (.live 25 true x [Rr s]))∧∃rows Ro,tM 4 (H.length+1) (t 5) h rows ((lJ w N s i).map Yt.cells) Ro∧rows.length≤12*i) (fun _ _=>())
  (fun _ e t h=>e=.exit 0∧Xl [] H h∧∃rows Ro,tM 4 (H.length+1) (t 5) h rows ((lJ w N s 4).map Yt.cells) Ro) ?_ ?_ () _ _ ?_) (fun e t h hk=>?_)
 ·rintro _ t h Q' kQ ⟨g0,g3,g6,hK,hB,rows,Ro,hL,_⟩
  rw[aA1]at g6 hL
  have h5:decide (((4:Nat):Int)+1≤4)=false:=rfl
  (have hb:=trivial;with_reducible repeat' (first|simp only[hb,Vc.down,seval,qA.down,g6,h5]|refine Qs ?_ ?_<;>intro hb|refine fd ?_|fail))
  exact kQ _ _ _ ⟨rfl,hK,rows,Ro,by simpa [up]using hL⟩
 ·rintro _ rest i _ t h J Q' kJ kQ hx hi ⟨g0,g3,g6,hK,⟨x,hB⟩,rows,Ro,hL,hrl0⟩
  rw[aA1]at hi
  obtain⟨k,hk⟩:∃k:Int,(i:Int)+1=k:=⟨_,rfl⟩
  have hk4:k=1∨k=2∨k=3∨k=4:=by omega
  rw[hk]at g6
  have h5:decide (k≤4)=true:=decide_eq_true (by omega)
  have hwk:IntKind.i64.wrap (k+1)=k+1:=Uf (by omega) (by omega)
  have hlh:h[lb]?=some (rP w d wf):=(hK.same lb (Uo hlb) (by simp)).trans hlb
  unfold rP at hlh
  (have hb:=trivial;with_reducible repeat' (first|simp only[hb,Vc.down,seval,qA.down,g0,g3,g6,h5,hlh,abV]|refine Qs ?_ ?_<;>intro hb|refine fd ?_|fail))
  refine Xz (lst 84 w.parts (fun j (_:Unit) t h=>t 0=.ptr lb 0 0∧t 3=.ptr H.length 0 0∧t 6=.int .i64 k∧t 19=Rw 9 true w.nn (w.parts.map Qd.cells)∧t 20=.int .i64 (w.parts.length:Nat)∧t 21=.int .i64 (j:Int)∧Xl [] H h∧(∃x,h[H.length]?=some (.live 25 true x [Rr s]))∧∃rows Ro,tM 4 (H.length+1) (t 5) h rows ((lJ w N s i++sG w N s k j).map Yt.cells) Ro∧rows.length≤12*i+j) (fun _ _=>())
   (fun _ e t h=>e=.exit 2∧t 0=.ptr lb 0 0∧t 3=.ptr H.length 0 0∧t 6=.int .i64 k∧Xl [] H h∧(∃x,h[H.length]?=some (.live 25 true x [Rr s]))∧∃rows Ro,tM 4 (H.length+1) (t 5) h rows ((lJ w N s i++tJ w N s k).map Yt.cells) Ro∧rows.length≤12*i+w.parts.length) ?_ ?_ () _ _ ?_) (fun e t h hk'=>?_)
  ·rintro _ t h Q'' kQ ⟨g0,g3,g6,g19,g20,g21,hK,hB,rows,Ro,hL,hrl⟩
   (have hb:=trivial;with_reducible repeat' (first|simp only[hb,Vc.down,seval,qA.down,g20,g21,ai3,decide_false]|refine Qs ?_ ?_<;>intro hb|refine fd ?_|fail))
   exact kQ _ _ _ ⟨rfl,by simp[up,g0],by simp[up,g3],by simp[up,g6],hK,hB,rows,Ro,by simp only[up];exact hL,hrl⟩
  ·rintro p rest j _ t h J' Q'' kJ' kQ' hx hj ⟨g0,g3,g6,g19,g20,g21,hK,⟨x,hB⟩,rows,Ro,hL,hrl⟩
   obtain⟨ov,g5⟩:∃ov,t 5=ov:=⟨_,rfl⟩
   rw[g5]at hL
   have hdd:decide ((j:Int)<(w.parts.length:Int))=true:=decide_eq_true (by omega)
   have hww:=To hj (by unfold maxLen;omega)
   obtain⟨y,hy⟩:∃y,s.1[j]?=some y:=⟨_,adD (by omega)⟩
   have hC:=aY3 p y hk4
   have hS:=axT hw h12 d hs hy hk4 true false
   have hcf:wT w N s k j=if(agE p y k&&uE w N s.1 k j true y)=true then some ⟨k,j,ag8 p k,toF s.1 s.2 k j y⟩else none:=by
    unfold wT;rw[hx,hy]
   have hnx:=af0 w N s k j
   rw[hcf]at hnx
   have i12:((j:Int)<12)=True:=eq_true (by omega)
   have hpz:(j*2≤23)=True:=eq_true (by omega)
   have hpz2:(j*2≤24)=True:=eq_true (by omega)
   have hp25:(j*2+2≤25)=True:=eq_true (by omega)
   have st2:ac4 2 (ai4 (j*2) (Rr s))=[.int .i64 y.1,.bool y.2]:=by
    unfold Rr
    rw[List.drop_append_of_le_length (by rw[Rh];omega),ahF (by rw[List.length_drop,Rh];omega)]
    obtain⟨a,b⟩:=y
    exact lV s.1 j a b hy
   have st24:ac4 24 (Rr s)=Sm s.1:=by
    unfold Rr;rw[ahF (by rw[Rh];omega),acG (by rw[Rh];omega)]
   have hB2:=Qi hB
   have hlh:h[lb]?=some (rP w d wf):=(hK.same lb (Uo hlb) (by simp)).trans hlb
   unfold rP at hlh
   have hlh2:=Qi hlh
   simp only[Qd.cells]at hC
   have f0:=Vy s.1
   have k0:=Vw s.1
   have v0:=jH s.1
   have l0:=iW s.1
   have r0:=bJ s.1
   have p0:=eV s.1
   have n0:=lX s.1
   have i0:=mM s.1
   have hpl:(Sm s.1).length=24:=by rw[Rh];omega
   cases cC:agE p y k with
   |false=>
    rw[cC]at hC hnx
    simp only[Bool.false_and,agF,if_false,aE6,aJ9]at hnx
    (have hb:=trivial;with_reducible repeat' (first|simp only[hb,Vc.down,seval,qA.down,g0,g3,g6,g19,g20,g21,hdd,hww,hx,hB,hB2,hsl,hC,i12,hpz,hpz2,hp25,st2,st24,Vv,hlh,hlh2,Qd.cells,abV]|refine Qs ?_ ?_<;>intro hb|refine fd ?_|fail))
    exact Ru (kJ' _ _ () ⟨by simp[up,g0],by simp[up,g3],by simp[up,g6],by simp[up,g19],by simp[up,g20],by simp[up],asF hK _,⟨x,hB2 _⟩,rows,Ro,by rw[hnx];simp only[up];rw[g5];exact hL.app _,by omega⟩ rfl)
   |true=>
    rw[cC]at hC hnx
    simp only[Bool.true_and]at hnx
    cases cS:uE w N s.1 k j true y with
    |false=>
     rw[cS]at hS hnx
     simp only[agF,if_false,aE6,aJ9]at hnx
     (have hb:=trivial;with_reducible repeat' (first|simp only[hb,Vc.down,seval,qA.down,g0,g3,g6,g19,g20,g21,hdd,hww,hx,hB,hB2,hsl,hC,i12,hpz,hpz2,hp25,st2,st24,Vv,hlh,hlh2,Qd.cells,abV,hS,f0,k0,v0,l0,r0,p0,n0,i0,hpl]|refine Qs ?_ ?_<;>intro hb|refine fd ?_|fail))
     exact Ru (kJ' _ _ () ⟨by simp[up,g0],by simp[up,g3],by simp[up,g6],by simp[up,g19],by simp[up,g20],by simp[up],asF hK _,⟨x,hB2 _⟩,rows,Ro,by rw[hnx];simp only[up];rw[g5];exact hL.app _,by omega⟩ rfl)
    |true=>
     rw[cS]at hS hnx
     simp only[if_true,Option.toList_some]at hnx
     have hP:=aqM p hk4
     simp only[Qd.cells]at hP
     have hA:=wR hs hy hk4 true
     have hs1:(s.1.set j (Tv k true y)).length=12:=by simpa using hs
     have f1:=Vy (s.1.set j (Tv k true y))
     have k1:=Vw (s.1.set j (Tv k true y))
     have p1:=eV (s.1.set j (Tv k true y))
     have r1:=bJ (s.1.set j (Tv k true y))
     have n1:=lX (s.1.set j (Tv k true y))
     have i1:=mM (s.1.set j (Tv k true y))
     have hpl1:(Sm (s.1.set j (Tv k true y))).length=24:=by rw[Rh];omega
     have stf:(Rr s)[24]?=some (.int .i64 (s.2:Int)):=by
      unfold Rr;rw[adP (by rw[Rh];omega),Rh,hs];rfl
     have b1:ac4 25 (Sm (s.1.set j (Tv k true y)))=Sm (s.1.set j (Tv k true y)):=acG (by omega)
     have b2:∀z,ac4 24 (Sm (s.1.set j (Tv k true y))++[z])=Sm (s.1.set j (Tv k true y)):=fun z=>by rw[ahF (by omega),acG (by omega)]
     have b3:∀z,ai4 25 (Sm (s.1.set j (Tv k true y))++[z])=[]:=fun z=>aT3 (by simp;omega)
     obtain⟨s1,hs1e⟩:∃s1:St,(s.1.set j (Tv k true y),s.2)=s1:=⟨_,rfl⟩
     have hst1:Sm (s.1.set j (Tv k true y))++[AV.int .i64 (s.2:Int)]=Rr s1:=by rw[←hs1e];rfl
     have c1:=Wi s1
     have c2:=Vx s1
     have c3:(Rr s1).length=25:=Xs (by rw[←hs1e];exact hs1)
     have c4:ac4 25 (Rr s1)=Rr s1:=acG (by omega)
     have hHh:H.length<h.length:=Qp hB
     obtain⟨sf,hsf0,hsf1,hsf2⟩:∃sf:Nat→Nat,sf H.length=0∧sf h.length=10∧∀k,sf (h.length+k)=k+10:=⟨fun b=>if b=H.length then 0 else b-h.length+10,by simp,by show(if _ then _ else _)=_;rw[if_neg (by omega)];omega,fun k=>by show(if _ then _ else _)=_;rw[if_neg (by omega)];omega⟩
     have hap:=fun(q:Qa) (r:List AV)=>asV hL.own (pre:=[]) rfl q r [] (by simp;omega)
     have hhp:=fun(q:Qa) (r:List (List AV)) (ba:Nat)=>amT hL.own (pre:=[]) rfl q 4 false r ba
     simp only[aoS,aoQ,azA,aoR,List.length_set,Nat.reduceAdd]at hap hhp
     cases q3:(k==3)with
     |false=>
      (have hb:=trivial;with_reducible repeat' (first|simp only[hb,Vc.down,seval,qA.down,g0,g3,g5,g6,g19,g20,g21,hdd,hww,hx,hB,hB2,hsl,hC,i12,hpz,hpz2,hp25,st2,st24,Vv,hlh,hlh2,Qd.cells,abV,hS,hap,hhp,f0,k0,v0,l0,r0,p0,n0,i0,hpl,hP,hA,f1,k1,p1,r1,n1,i1,hpl1,stf,q3,b1,b2,b3,hst1,c1,c2,c3,c4,ad8]|refine Qs ?_ ?_<;>intro hb|((refine vS (vU (sf) ?_) ?_);(simp (discharger:=decide) only[acU,xC,atT,atU,rO,adB,acF,acC,pE,aoQ,aoR,hsf0,hsf1,hsf2];kernel_rfl);intro _)|refine fdq ?_|fail))
      have hto:toF s.1 s.2 k j y=[s1]:=by
       unfold toF;rw[if_neg (by rintro⟨h3,_⟩;rw[h3]at q3;cases q3),hs1e]
      refine Ru (kJ' _ _ () ⟨by simp[up,g0],by simp[up,g3],by simp[up,g6],by simp[up,g19],by simp[up,g20],by simp[up],?_,⟨x,?_⟩,rows++[[.int .i64 k,.int .i64 (j:Int),.int .i64 (if k=3 then p.test else if k=4 then p.change else 1),.slr 25 (h.length+2) 0 1]],Ro++[h.length+2],?_,by simp;omega⟩ rfl)
      ·exact kKl hK hL _
      ·rw[fM _ hHh fun a b r n e e2=>by have:=(hL.dov a b r n e).1;omega];exact hB
      ·have hQ:(lJ w N s i++sG w N s k (j+1)).map Yt.cells=(lJ w N s i++sG w N s k j).map Yt.cells++[[.int .i64 k,.int .i64 (j:Int),.int .i64 (if k=3 then p.test else if k=4 then p.change else 1),.imm 25 true [Rr s1]]]:=by
        rw[hnx,hto,←atY,awV];rfl
       rw[hQ]
       have hsn:=hL.snoc (h':=h++[.live 9 true true [[.int .i64 p.one,.int .i64 p.other,.bool p.valve,.bool p.opn,.int .i64 p.tested,.int .i64 p.valid,.bool p.bad,.int .i64 p.test,.int .i64 p.change]],.live 2 true true [[.int .i64 k,.int .i64 (j:Int)]],.live 25 true false [Rr s1],.live 4 false true [[.int .i64 k,.int .i64 (j:Int),.int .i64 (if k=3 then p.test else if k=4 then p.change else 1),.slr 25 (h.length+2) 0 1]]]) (by simp) (fun b _ hb=>aoP hb) (r:=[.int .i64 k,.int .i64 (j:Int),.int .i64 (if k=3 then p.test else if k=4 then p.change else 1),.slr 25 (h.length+2) 0 1]) (Vf (kL ..) (Vf (kL ..) (Vf (kL ..) (Vf (ai9 (rows:=[Rr s1]) (by
        show((h++_)[h.length+2]?).bind Rl=_
        rw[adP (by omega),awX];rfl) rfl) cA)))) (by simp) (by omega) (.live 4 false false [[.int .i64 k,.int .i64 (j:Int),.int .i64 (if k=3 then p.test else if k=4 then p.change else 1),.slr 25 (h.length+2) 0 1]]) (m:=h.length+5) (n:=rows.length+1) (by simp) rfl
       rw[adG hL]at hsn
       simpa [up]using hsn
     |true=>
      have hk3:k=3:=by simpa using q3
      by_cases hf0:s.2=0
      ·have hgt:decide ((s.2:Int)>0)=false:=decide_eq_false (by omega)
       (have hb:=trivial;with_reducible repeat' (first|simp only[hb,Vc.down,seval,qA.down,g0,g3,g5,g6,g19,g20,g21,hdd,hww,hx,hB,hB2,hsl,hC,i12,hpz,hpz2,hp25,st2,st24,Vv,hlh,hlh2,Qd.cells,abV,hS,hap,hhp,f0,k0,v0,l0,r0,p0,n0,i0,hpl,hP,hA,f1,k1,p1,r1,n1,i1,hpl1,stf,q3,hgt,b1,b2,b3,hst1,c1,c2,c3,c4,ad8]|refine Qs ?_ ?_<;>intro hb|((refine vS (vU (sf) ?_) ?_);(simp (discharger:=decide) only[acU,xC,atT,atU,rO,adB,acF,acC,pE,aoQ,aoR,hsf0,hsf1,hsf2];kernel_rfl);intro _)|refine fdq ?_|fail))
       have hto:toF s.1 s.2 k j y=[s1]:=by
        unfold toF;rw[if_neg (by rintro⟨_,h3⟩;omega),hs1e]
       refine Ru (kJ' _ _ () ⟨by simp[up,g0],by simp[up,g3],by simp[up,g6],by simp[up,g19],by simp[up,g20],by simp[up],?_,⟨x,?_⟩,rows++[[.int .i64 k,.int .i64 (j:Int),.int .i64 (if k=3 then p.test else if k=4 then p.change else 1),.slr 25 (h.length+2) 0 1]],Ro++[h.length+2],?_,by simp;omega⟩ rfl)
       ·exact kKl hK hL _
       ·rw[fM _ hHh fun a b r n e e2=>by have:=(hL.dov a b r n e).1;omega];exact hB
       ·have hQ:(lJ w N s i++sG w N s k (j+1)).map Yt.cells=(lJ w N s i++sG w N s k j).map Yt.cells++[[.int .i64 k,.int .i64 (j:Int),.int .i64 (if k=3 then p.test else if k=4 then p.change else 1),.imm 25 true [Rr s1]]]:=by
         rw[hnx,hto,←atY,awV];rfl
        rw[hQ]
        have hsn:=hL.snoc (h':=h++[.live 9 true true [[.int .i64 p.one,.int .i64 p.other,.bool p.valve,.bool p.opn,.int .i64 p.tested,.int .i64 p.valid,.bool p.bad,.int .i64 p.test,.int .i64 p.change]],.live 2 true true [[.int .i64 k,.int .i64 (j:Int)]],.live 25 true false [Rr s1],.live 4 false true [[.int .i64 k,.int .i64 (j:Int),.int .i64 (if k=3 then p.test else if k=4 then p.change else 1),.slr 25 (h.length+2) 0 1]]]) (by simp) (fun b _ hb=>aoP hb) (r:=[.int .i64 k,.int .i64 (j:Int),.int .i64 (if k=3 then p.test else if k=4 then p.change else 1),.slr 25 (h.length+2) 0 1]) (Vf (kL ..) (Vf (kL ..) (Vf (kL ..) (Vf (ai9 (rows:=[Rr s1]) (by
         show((h++_)[h.length+2]?).bind Rl=_
         rw[adP (by omega),awX];rfl) rfl) cA)))) (by simp) (by omega) (.live 4 false false [[.int .i64 k,.int .i64 (j:Int),.int .i64 (if k=3 then p.test else if k=4 then p.change else 1),.slr 25 (h.length+2) 0 1]]) (m:=h.length+5) (n:=rows.length+1) (by simp) rfl
        rw[adG hL]at hsn
        simpa [up]using hsn
      ·have hgt:decide ((s.2:Int)>0)=true:=decide_eq_true (by omega)
       have hA2:=wR hs hy hk4 false
       have hs2:(s.1.set j (Tv k false y)).length=12:=by simpa using hs
       have e1:=Vy (s.1.set j (Tv k false y))
       have e2:=Vw (s.1.set j (Tv k false y))
       have e3:=eV (s.1.set j (Tv k false y))
       have e4:=bJ (s.1.set j (Tv k false y))
       have e5:=lX (s.1.set j (Tv k false y))
       have e6:=mM (s.1.set j (Tv k false y))
       have e7:(Sm (s.1.set j (Tv k false y))).length=24:=by rw[Rh];omega
       have e8:ac4 25 (Sm (s.1.set j (Tv k false y)))=Sm (s.1.set j (Tv k false y)):=acG (by omega)
       have e9:∀z,ac4 24 (Sm (s.1.set j (Tv k false y))++[z])=Sm (s.1.set j (Tv k false y)):=fun z=>by rw[ahF (by omega),acG (by omega)]
       have e10:∀z,ai4 25 (Sm (s.1.set j (Tv k false y))++[z])=[]:=fun z=>aT3 (by simp;omega)
       have hwf:IntKind.i64.wrap ((s.2:Int)-1)=((s.2-1:Nat):Int):=by rw[Uf (by omega) (by omega)];omega
       obtain⟨s2,hs2e⟩:∃s2:St,(s.1.set j (Tv k false y),s.2-1)=s2:=⟨_,rfl⟩
       have hst2:Sm (s.1.set j (Tv k false y))++[AV.int .i64 ((s.2-1:Nat):Int)]=Rr s2:=by rw[←hs2e];rfl
       have d1:=Wi s2
       have d2:=Vx s2
       have d3:(Rr s2).length=25:=Xs (by rw[←hs2e];exact hs2)
       have d4:ac4 25 (Rr s2)=Rr s2:=acG (by omega)
       (have hb:=trivial;with_reducible repeat' (first|simp only[hb,Vc.down,seval,qA.down,g0,g3,g5,g6,g19,g20,g21,hdd,hww,hx,hB,hB2,hsl,hC,i12,hpz,hpz2,hp25,st2,st24,Vv,hlh,hlh2,Qd.cells,abV,hS,hap,hhp,f0,k0,v0,l0,r0,p0,n0,i0,hpl,hP,hA,f1,k1,p1,r1,n1,i1,hpl1,stf,q3,hgt,b1,b2,b3,hst1,c1,c2,c3,c4,ad8,hA2,e1,e2,e3,e4,e5,e6,e7,e8,e9,e10,hwf,hst2,d1,d2,d3,d4]|refine Qs ?_ ?_<;>intro hb|((refine vS (vU (sf) ?_) ?_);(simp (discharger:=decide) only[acU,xC,atT,atU,rO,adB,acF,acC,pE,aoQ,aoR,hsf0,hsf1,hsf2];kernel_rfl);intro _)|refine fdq ?_|fail))
       have hto:toF s.1 s.2 k j y=[s1,s2]:=by
        unfold toF;rw[if_pos ⟨hk3,by omega⟩,hs1e,hs2e]
       refine Ru (kJ' _ _ () ⟨by simp[up,g0],by simp[up,g3],by simp[up,g6],by simp[up,g19],by simp[up,g20],by simp[up],?_,⟨x,?_⟩,rows++[[.int .i64 k,.int .i64 (j:Int),.int .i64 (if k=3 then p.test else if k=4 then p.change else 1),.slr 25 (h.length+5) 0 2]],Ro++[h.length+5],?_,by simp;omega⟩ rfl)
       ·exact kKl hK hL _
       ·rw[fM _ hHh fun a b r n e e2=>by have:=(hL.dov a b r n e).1;omega];exact hB
       ·have hQ:(lJ w N s i++sG w N s k (j+1)).map Yt.cells=(lJ w N s i++sG w N s k j).map Yt.cells++[[.int .i64 k,.int .i64 (j:Int),.int .i64 (if k=3 then p.test else if k=4 then p.change else 1),.imm 25 true [Rr s1,Rr s2]]]:=by
         rw[hnx,hto,←atY,awV];rfl
        rw[hQ]
        have hsn:=hL.snoc (h':=h++[.live 9 true true [[.int .i64 p.one,.int .i64 p.other,.bool p.valve,.bool p.opn,.int .i64 p.tested,.int .i64 p.valid,.bool p.bad,.int .i64 p.test,.int .i64 p.change]],.live 2 true true [[.int .i64 k,.int .i64 (j:Int)]],.dead,.live 4 false true [[.int .i64 k,.int .i64 (j:Int),.int .i64 (if k=3 then p.test else if k=4 then p.change else 1),.slr 25 (h.length+5) 0 2]],.live 25 true false [Rr s2],.live 25 true false [Rr s1,Rr s2]]) (by simp) (fun b _ hb=>aoP hb) (r:=[.int .i64 k,.int .i64 (j:Int),.int .i64 (if k=3 then p.test else if k=4 then p.change else 1),.slr 25 (h.length+5) 0 2]) (Vf (kL ..) (Vf (kL ..) (Vf (kL ..) (Vf (ai9 (rows:=[Rr s1,Rr s2]) (by
         show((h++_)[h.length+5]?).bind Rl=_
         rw[adP (by omega),awX];rfl) rfl) cA)))) (by simp) (by omega) (.live 4 false false [[.int .i64 k,.int .i64 (j:Int),.int .i64 (if k=3 then p.test else if k=4 then p.change else 1),.slr 25 (h.length+5) 0 2]]) (m:=h.length+7) (n:=rows.length+1) (by simp) rfl
        rw[adG hL]at hsn
        simpa [up]using hsn
  ·exact⟨by simp[up,g0],by simp[up,g3],by simp[up,g6],by simp[up],by simp[up],by simp[up],hK,⟨x,hB⟩,rows,Ro,by simpa [up,sG]using hL,by omega⟩
  obtain⟨rfl,g0,g3,g6,hK,hB,rows,Ro,hL,hrl⟩:=hk'
  (have hb:=trivial;with_reducible repeat' (first|simp only[hb,Vc.down,seval,qA.down,g6,hwk]|refine Qs ?_ ?_<;>intro hb|refine fd ?_|fail))
  exact Ru (kJ _ _ () ⟨by simp[up,g0],by simp[up,g3],by simp[up];omega,hK,hB,rows,Ro,by simp only[up];rw[lJ,hk];exact hL,by omega⟩ rfl)
 ·exact⟨by simp[up,dU],by simp[up],by simp[up],Xl.app _ _,⟨_,by rw[adP (ad8 _),Nat.sub_self];rfl⟩,[],[],by simp only[up];exact tM.none,aq9 _⟩
 obtain⟨rfl,hK,rows,Ro,hL⟩:=hk
 obtain⟨ov,g5⟩:∃ov,t 5=ov:=⟨_,rfl⟩
 rw[g5]at hL
 rw[auV]at hL
 obtain⟨R,r1,r2,_⟩:=hL.read
 (have hb:=trivial;with_reducible repeat' (first|simp only[hb,Vc.down,seval,qA.down,g5]|refine Qs ?_ ?_<;>intro hb|refine fd ?_|fail))
 exact⟨⟨ov,R,rfl,r1,fun b hb=>by have:=r2 b hb;omega⟩,hK⟩
theorem aeX(a b:Bool):aN Tryz.prog .neq 4 (.bool a) (.bool b)=some (.bool (a !=b)):=by
 simp only[aN,Zc,Tryz.underlying4,adA]
 cases a<;>cases b<;>rfl
theorem avU{L:List (Int × Bool)}(hL:L.length=12)(x:Up)(h0:0≤x.part)(h1:x.part<12):Uu.call (.fn 90) [.agg [.int .i64 x.part,.bool x.opn,.bool x.good],.ptr 0 0 0] [.live 24 true false [Sm L]]=some (.ret (.bool (!acO L x)),[.live 24 true false [Sm L]]):=by
 obtain⟨i,hi⟩:∃i:Nat,x.part=(i:Int):=⟨x.part.toNat,by omega⟩
 obtain⟨y,hy⟩:∃y,L[i]?=some y:=⟨_,adD (by omega)⟩
 have i12:((i:Int)<12)=True:=eq_true (by omega)
 have hpz:(i*2≤23)=True:=eq_true (by omega)
 have hp24:(i*2+2≤24)=True:=eq_true (by omega)
 have hpl:(Sm L).length=24:=by rw[Rh];omega
 obtain⟨a,b⟩:=y
 have htk:=lV L i a b hy
 have hm:acO L x=(b==x.opn&&(!x.good||a==0)):=by
  unfold acO
  rw[hi,show((i:Nat):Int).toNat=i from rfl,hy]
 rw[hm,hi]
 cases q1:(b==x.opn)with
 |false=>
  have q1':(b !=x.opn)=true:=by simp[bne,q1]
  (refine ce Tryz.func90 ?_;simp only[Tryz.f90];(have hb:=trivial;with_reducible repeat' (first|simp only[hb,Vc.down,seval,apB.down,aeX,q1',i12,hpz,hp24,hpl,htk,Vv]|refine Qs ?_ ?_<;>intro hb|refine fd ?_|fail)))
 |true=>
  have q1':(b !=x.opn)=false:=by simp[bne,q1]
  cases q2:x.good with
  |false=>
   (refine ce Tryz.func90 ?_;simp only[Tryz.f90];(have hb:=trivial;with_reducible repeat' (first|simp only[hb,Vc.down,seval,apB.down,aeX,q1',q2,i12,hpz,hp24,hpl,htk,Vv]|refine Qs ?_ ?_<;>intro hb|refine fd ?_|fail)))
  |true=>
   cases q3:(a==0)with
   |false=>
    have q3':(a !=0)=true:=by simp[bne,q3]
    (refine ce Tryz.func90 ?_;simp only[Tryz.f90];(have hb:=trivial;with_reducible repeat' (first|simp only[hb,Vc.down,seval,apB.down,aeX,q1',q2,q3,q3',i12,hpz,hp24,hpl,htk,Vv]|refine Qs ?_ ?_<;>intro hb|refine fd ?_|fail)))
   |true=>
    have q3':(a !=0)=false:=by simp[bne,q3]
    (refine ce Tryz.func90 ?_;simp only[Tryz.f90];(have hb:=trivial;with_reducible repeat' (first|simp only[hb,Vc.down,seval,apB.down,aeX,q1',q2,q3,q3',i12,hpz,hp24,hpl,htk,Vv]|refine Qs ?_ ?_<;>intro hb|refine fd ?_|fail)))
theorem amB{l:List Up}{nn:Bool}{g:Nat}{lq:List (Int × Bool)}{p:Up→Bool}(hp:∀x∈l,Uu.call (.fn g) (.agg [.int .i64 x.part,.bool x.opn,.bool x.good]::[.ptr 0 0 0]) [.live 24 true false [Sm lq]]=some (.ret (.bool (p x)),[.live 24 true false [Sm lq]]))(hl:l.length≤maxLen):
 Uu.call (.fn 37) [Rw 3 true nn (l.map Up.cells),.func (.func g) [] [.ptr 0 0 0]] [.live 24 true false [Sm lq]]=some (.ret (.int .i64 (vT p l 0)),[.live 24 true false [Sm lq]]):=by
 (refine ce Tryz.func37 ?_;simp only[Tryz.f37];(have hb:=trivial;with_reducible repeat' (first|simp only[hb,Vc.down,seval,akX.down,abV]|refine Qs ?_ ?_<;>intro hb|refine fd ?_|fail)))
 refine Xz (lst 19 l (fun i (s:Int) t h=>s=i∧h=[.live 24 true false [Sm lq]]∧t 0=Rw 3 true nn (l.map Up.cells)∧t 1=.func (.func g) [] [.ptr 0 0 0]∧t 7=.int .i64 l.length∧t 8=.int .i64 i)
  (fun rest s=>vT p rest s) (fun r e t h=>h=[.live 24 true false [Sm lq]]∧((e=.exit 0∧r= -1)∨(e=.ret∧t 4=.int .i64 r))) ?_ ?_ 0 _ _ ?_) (fun e t h hk=>?_)
 ·rintro s t h Q' kQ ⟨rfl,rfl,h0,h1,h7,h8⟩
  (have hb:=trivial;with_reducible repeat' (first|simp only[hb,Vc.down,seval,akX.down,h0,h1,h7,h8,ai3,decide_false]|refine Qs ?_ ?_<;>intro hb|refine fd ?_|fail))
  exact kQ _ _ _ ⟨rfl,.inl ⟨rfl,rfl⟩⟩
 ·rintro x rest i s t h J Q' kJ kQ hx hi ⟨rfl,rfl,h0,h1,h7,h8⟩
  have hpx:=hp x (adM hx)
  have hd:decide ((i:Int)<(l.length:Int))=true:=by simpa using hi
  (have hb:=trivial;with_reducible repeat' (first|simp only[hb,Vc.down,seval,akX.down,h0,h1,h7,h8,hd,hx,Up.cells,hpx,To hi hl]|refine Qs ?_ ?_<;>intro hb|refine fd ?_|fail))
  ·exact kQ _ _ _ ⟨rfl,.inr ⟨rfl,by simp[up,vT,hb]⟩⟩
  ·exact Ru (kJ _ _ (i+1) ⟨by simp,rfl,by simp[up,h0],by simp[up,h1],by simp[up,h7],by simp[up]⟩ (by simp[vT,hb]))
 ·exact⟨rfl,rfl,by simp[up,dU],by simp[up,dU],by simp[up],by simp[up]⟩
 ·obtain⟨rfl,⟨rfl,hi⟩|⟨rfl,hi⟩⟩:=hk
  ·(have hb:=trivial;with_reducible repeat' (first|simp only[hb,Vc.down,seval,akX.down]|refine Qs ?_ ?_<;>intro hb|refine fd ?_|fail))
   rw[hi]
  ·(have hb:=trivial;with_reducible repeat' (first|simp only[hb,Vc.down,seval,akX.down,hi]|refine Qs ?_ ?_<;>intro hb|refine fd ?_|fail))
theorem af9{l:List Up}{nn:Bool}{g:Nat}{lq:List (Int × Bool)}{p:Up→Bool}(hp:∀x∈l,Uu.call (.fn g) (.agg [.int .i64 x.part,.bool x.opn,.bool x.good]::[.ptr 0 0 0]) [.live 24 true false [Sm lq]]=some (.ret (.bool (p x)),[.live 24 true false [Sm lq]]))(hl:l.length≤maxLen):
 Uu.call (.fn 89) [Rw 3 true nn (l.map Up.cells),.func (.func g) [] [.ptr 0 0 0]] [.live 24 true false [Sm lq]]=some (.ret (.bool (l.any p)),[.live 24 true false [Sm lq]]):=by
 (refine ce Tryz.func89 ?_;simp only[Tryz.f89];(have hb:=trivial;with_reducible repeat' (first|simp only[hb,Vc.down,seval,amB hp hl,wZ p l 0 (Int.le_refl 0)]|refine Qs ?_ ?_<;>intro hb|refine fd ?_|fail)))
theorem aC7{L:List (Int × Bool)}(hL:L.length=12)(l:List Up)(nn:Bool)(hl:l.length≤maxLen)(h:∀x∈l,0≤x.part∧x.part<12):Uu.call (.fn 66) [.agg (Sm L),Rw 3 true nn (l.map Up.cells)] []=some (.ret (.bool (oM L l)),[]):=by
 have hcM:=af9 (lq:=L) (l:=l) (nn:=nn) (g:=90) (p:=fun x=> !acO L x) (fun x hx=>avU hL x (h x hx).1 (h x hx).2) hl
 have hpl:(Sm L).length=24:=by rw[Rh];omega
 have hf1:=Vy L
 have hf2:=Vw L
 have htk:=acG (l:=Sm L) (i:=24) (by omega)
 have q1:oM L l= !(l.any fun x=> !acO L x):=List.all_eq_not_any_not
 rw[q1]
 generalize(l.any fun x=> !acO L x)=c4 at *
 (refine ce Tryz.func66 ?_;simp only[Tryz.f66];(have hb:=trivial;with_reducible repeat' (first|simp only[hb,Vc.down,seval,hcM,hpl,hf1,hf2,htk,abV]|refine Qs ?_ ?_<;>intro hb|refine fd ?_|fail)))
def Su(n:Int):Option Up→List Up→Bool
 |_,[]=>true
 |none,x::l=>Xw x.part 0 n&&Su n (some x) l
 |some y,x::l=>Xw x.part 0 n&& !decide (x.part≤y.part)&&Su n (some x) l
def dS(w:Qj)(l:List Up):Bool:=Su (IntKind.i64.wrap ((w.parts.length:Int)-1)) none l
theorem avY(w:Qj)(l:List Up)(nn:Bool)(hl:l.length≤maxLen):Uu.call (.fn 35) [.agg [.int .i64 w.rooms,.int .i64 w.need,Rw 9 true w.nn (w.parts.map Qd.cells)],Rw 3 true nn (l.map Up.cells)] []=some (.ret (.bool (dS w l)),[]):=by
 obtain⟨ans,hans⟩:∃a,dS w l=a:=⟨_,rfl⟩
 rw[hans]
 unfold dS at hans
 generalize hn:IntKind.i64.wrap ((w.parts.length:Int)-1)=n at *
 refine ce Tryz.func35 ?_
 simp only[Tryz.f35]
 (have hb:=trivial;with_reducible repeat' (first|simp only[hb,Vc.down,seval,abG.down,abV]|refine Qs ?_ ?_<;>intro hb|refine fd ?_|fail))
 refine Xz (lst 38 l (fun i (y:Option Up) t h=>t 1=Rw 3 true nn (l.map Up.cells)∧t 2=.ptr 0 0 0∧t 7=Rw 3 true nn (l.map Up.cells)∧t 8=.int .i64 (l.length:Nat)∧t 9=.int .i64 (i:Int)∧(∃fl x,h[0]?=some (.live 3 fl x [[.int .i64 w.rooms,.int .i64 w.need,Rw 9 true w.nn (w.parts.map Qd.cells)]]))∧((i=0∧y=none)∨∃z j,i=j+1∧l[j]?=some z∧y=some z)) (fun rest y=>Su n y rest)
  (fun r e t h=>(e=.exit 0∧r=true)∨(e=.ret∧r=false∧t 4=.bool false)) ?_ ?_ none _ _ ?_) (fun e t h hk=>?_)
 ·rintro y t h Q' kQ ⟨g1,g2,g7,g8,g9,hB,hy⟩
  (have hb:=trivial;with_reducible repeat' (first|simp only[hb,Vc.down,seval,abG.down,g8,g9,ai3,decide_false]|refine Qs ?_ ?_<;>intro hb|refine fd ?_|fail))
  exact kQ _ _ _ (.inl ⟨rfl,by cases y<;>rfl⟩)
 ·rintro x rest i y t h J Q' kJ kQ hx hi ⟨g1,g2,g7,g8,g9,⟨fl,xx,hB⟩,hy⟩
  have hdd:decide ((i:Int)<(l.length:Int))=true:=decide_eq_true (by omega)
  have hww:=To hi hl
  have hB2:=Qi hB
  have hI:=oG x.part 0 n
  have hxw:(l.map Up.cells)[i]?=some x.cells:=by rw[ayY,hx];rfl
  cases c1:Xw x.part 0 n with
  |false=>
   rw[c1]at hI
   have hf:Su n y (x::rest)=false:=by cases y<;>simp[Su,c1]
   (have hb:=trivial;with_reducible repeat' (first|simp only[hb,Vc.down,seval,abG.down,g1,g2,g7,g8,g9,hdd,hww,hx,hB,hB2,hn,hI,Up.cells,abV]|refine Qs ?_ ?_<;>intro hb|refine fd ?_|fail))
   exact kQ _ _ _ (.inr ⟨rfl,hf,by simp[up]⟩)
  |true=>
   rw[c1]at hI
   rcases hy with⟨rfl,rfl⟩|⟨z,j,rfl,hz,rfl⟩
   ·have h00:decide ((0:Int)>0)=false:=rfl
    simp only[Int.natCast_zero]at hdd g9
    have hf:Su n none (x::rest)=Su n (some x) rest:=by simp[Su,c1]
    (have hb:=trivial;with_reducible repeat' (first|simp only[hb,Vc.down,seval,abG.down,g1,g2,g7,g8,g9,hdd,hww,hx,hB,hB2,hn,hI,h00,Up.cells,abV]|refine Qs ?_ ?_<;>intro hb|refine fd ?_|fail))
    exact Ru (kJ _ _ (some x) ⟨by simp[up,g1],by simp[up,g2],by simp[up,g7],by simp[up,g8],by simp[up],⟨fl,xx,hB2 _⟩,.inr ⟨x,0,rfl,hx,rfl⟩⟩ hf.symm)
   ·have h00:decide (((j+1:Nat):Int)>0)=true:=decide_eq_true (by omega)
    have hw1:IntKind.i64.wrap (((j+1:Nat):Int)-1)=(j:Int):=by rw[Uf (by unfold maxLen at hl;omega) (by unfold maxLen at hl;omega)];omega
    have hjl:((j:Int)<(l.length:Int))=True:=eq_true (by omega)
    cases c2:decide (x.part≤z.part)with
    |false=>
     have hf:Su n (some z) (x::rest)=Su n (some x) rest:=by simp only[Su,c1,c2];rfl
     (have hb:=trivial;with_reducible repeat' (first|simp only[hb,Vc.down,seval,abG.down,g1,g2,g7,g8,g9,hdd,hww,hx,hz,hB,hB2,hn,hI,h00,hw1,hjl,c2,Up.cells,abV]|refine Qs ?_ ?_<;>intro hb|refine fd ?_|fail))
     exact Ru (kJ _ _ (some x) ⟨by simp[up,g1],by simp[up,g2],by simp[up,g7],by simp[up,g8],by simp[up];omega,⟨fl,xx,hB2 _⟩,.inr ⟨x,j+1,rfl,hx,rfl⟩⟩ hf.symm)
    |true=>
     have hf:Su n (some z) (x::rest)=false:=by simp only[Su,c1,c2];rfl
     (have hb:=trivial;with_reducible repeat' (first|simp only[hb,Vc.down,seval,abG.down,g1,g2,g7,g8,g9,hdd,hww,hx,hz,hB,hB2,hn,hI,h00,hw1,hjl,c2,Up.cells,abV]|refine Qs ?_ ?_<;>intro hb|refine fd ?_|fail))
     exact kQ _ _ _ (.inr ⟨rfl,hf,by simp[up]⟩)
 ·exact⟨by simp[up,dU],by simp[up],by simp[up],by simp[up],by simp[up],⟨_,_,rfl⟩,.inl ⟨rfl,rfl⟩⟩
 rw[hans]at hk
 rcases hk with⟨rfl,rfl⟩|⟨rfl,rfl,g4⟩
 ·(have hb:=trivial;with_reducible repeat' (first|simp only[hb,Vc.down,seval,abG.down]|refine Qs ?_ ?_<;>intro hb|refine fd ?_|fail))
 ·(have hb:=trivial;with_reducible repeat' (first|simp only[hb,Vc.down,seval,abG.down,g4]|refine Qs ?_ ?_<;>intro hb|refine fd ?_|fail))
end Go.Proofs.YtcncggaobhbomaaGreatDoor
