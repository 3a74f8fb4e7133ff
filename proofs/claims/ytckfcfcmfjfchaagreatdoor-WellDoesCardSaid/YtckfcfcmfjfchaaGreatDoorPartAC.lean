/- The functions of the layer, walked. -/
import Derived.Test.YtckfcfcmfjfchaaGreatDoorLibE
import Derived.Test.YtckfcfcmfjfchaaGreatDoorPartAB
open List renaming length_map→abY,getElem?_eq_some_iff→abZ,take_of_length_le→ab1,take→ao5,length_set→ao7,map_set→aqM,getElem?_set_self→aq1,mem_of_getElem?→asR,getElem?_eq_getElem→atQ,getElem?_set_ne→auH,cons_append→avE,nil_append→avO,all_eq_true→avQ,getElem?_map→avT,ext_getElem?→ax1,getElem?_zipWith→ax2,getElem?_of_mem→ax3
open Nat renaming le_refl→ah0
open Bool renaming and_eq_true→alG,not_eq_false'→azH
open Option renaming bind_some→ao9,map_eq_some_iff→as2,bind_eq_some_iff→ax4,map_some→ax5
open Int renaming reduceEq→aqG
set_option linter.unusedSimpArgs false
set_option linter.unusedVariables false
namespace Go.Proofs.YtckfcfcmfjfchaaGreatDoor
open Go.Ev Go Go.Ev.Net
set_option maxRecDepth 100000
set_option maxHeartbeats 16000000
theorem axF:∀(L:List (Int × Bool)) (i:Nat) (a:Int) (b:Bool),i<L.length→ao5 (i*2) (Et L)++(.int .i64 a::.bool b::List.drop (i*2+2) (Et L))=Et (L.set i (a,b))
 | [],i,a,b,h=>by simp at h
 |x::L,0,a,b,h=>by simp[Et]
 |x::L,i+1,a,b,h=>by
  have ih:=axF L i a b (by simpa using h)
  rw[show(i+1)*2=(i*2)+1+1 by omega,show(i*2)+1+1+2=(i*2+2)+1+1 by omega]
  simp only[Et,List.flatMap_cons,avE,avO,List.take_succ_cons,List.drop_succ_cons,List.set_cons_succ]at ih ⊢
  rw[←ih]
theorem auJ(L:List (Int × Bool))(d:Nat):(Et L).all (Ap (d+1))=true:=avQ.2 fun x hx=>by rcases Jc L x hx with⟨n,rfl⟩|⟨b,rfl⟩<;>rfl
def Jo(k:Int)(b:Bool)(x:Int × Bool):Int × Bool:=if k=1 then(x.1,true)else if k=2 then(x.1,false)else if k=3 then(if b=true then(0,x.2)else(2,x.2))else(0,x.2)
theorem aDE(c:Int)(o b:Bool):Eb.call (.fn 79) [.agg [.int .i64 c,.bool o],.bool b] []=some (.ret (.agg [.int .i64 c,.bool true]),[]):=by
 (refine ce Tryz.func79 ?_;simp only[Tryz.f79];(have hb:=trivial;with_reducible repeat' (first|simp only[hb,Vc.down,seval,aW0.down]|refine Bj ?_ ?_<;>intro hb|refine fd ?_|fail)))
theorem aDS(c:Int)(o b:Bool):Eb.call (.fn 80) [.agg [.int .i64 c,.bool o],.bool b] []=some (.ret (.agg [.int .i64 c,.bool false]),[]):=by
 (refine ce Tryz.func80 ?_;simp only[Tryz.f80];(have hb:=trivial;with_reducible repeat' (first|simp only[hb,Vc.down,seval,aWZ.down]|refine Bj ?_ ?_<;>intro hb|refine fd ?_|fail)))
theorem aG2(c:Int)(o b:Bool):Eb.call (.fn 81) [.agg [.int .i64 c,.bool o],.bool b] []=some (.ret (.agg [.int .i64 (if b=true then 0 else 2),.bool o]),[]):=by
 cases b<;>(refine ce Tryz.func81 ?_;simp only[Tryz.f81];(have hb:=trivial;with_reducible repeat' (first|simp only[hb,Vc.down,seval,aXL.down]|refine Bj ?_ ?_<;>intro hb|refine fd ?_|fail)))
theorem aCM(c:Int)(o b:Bool):Eb.call (.fn 82) [.agg [.int .i64 c,.bool o],.bool b] []=some (.ret (.agg [.int .i64 0,.bool o]),[]):=by
 (refine ce Tryz.func82 ?_;simp only[Tryz.f82];(have hb:=trivial;with_reducible repeat' (first|simp only[hb,Vc.down,seval,aXX.down]|refine Bj ?_ ?_<;>intro hb|refine fd ?_|fail)))
def asZ:CB:=.lp [] .skip .skip [.int .i64 1,.func (.func 79) [] [],.int .i64 2,.func (.func 80) [] [],.int .i64 3,.func (.func 81) [] [],.int .i64 4,.func (.func 82) [] []] .map
theorem au0:Eb.call (.fn 60) [] []=some (.ret (.mapr 0),[asZ]):=by
 exact asJ (pr:=pr) (pr2:=pr) (n:=10) rfl (fun f hf=>hf) (fun f p hp a h r hr=>auS hp hr) (by kernel_rfl)
def fnD(k:Int):Nat:=if k=1 then 79 else if k=2 then 80 else if k=3 then 81 else 82
theorem aJQ{h:Aa}{b:Nat}(hb:h[b]?=some asZ){k:Int}(hk:k=1∨k=2∨k=3∨k=4):lk Tryz.prog h 106 (some (.mapr b)) (some (.int .i64 k)) false=some (.ret (.func (.func (fnD k)) [] []),[]):=by
 have key:∀k:Int,k=1∨k=2∨k=3∨k=4→(Fe Tryz.prog (fun _=>some asZ) 106 (.mapr 0) (.int .i64 k) false).map (fun d=>(d.v,d.es))=some (.func (.func (fnD k)) [] [],[]):=fun k hk=>by
  rcases hk with rfl|rfl|rfl|rfl<;>kernel_rfl
 have e:(Fe Tryz.prog (hf h) 106 (.mapr b) (.int .i64 k) false).map (fun d=>(d.v,d.es))=(Fe Tryz.prog (fun _=>some asZ) 106 (.mapr 0) (.int .i64 k) false).map (fun d=>(d.v,d.es)):=by
  unfold Fe
  simp only[Tryz.underlying106]
  have hm:Oh (hf h) b=Oh (fun _=>some asZ) 0:=by simp only[Oh,hf,hb]
  simp only[hm]
  split
  ·generalize Oh (fun _=>some asZ) 0=m
   cases m with
   |none=>rfl
   |some kvs=>
    simp only[ao9]
    generalize aoZ _ _ _ kvs 0=r
    cases r with
    |none=>rfl
    |some r=>
     simp only[ao9]
     generalize Gv _ _=z
     cases z<;>rfl
  ·rfl
 rw[key k hk]at e
 simp only[lk,ao9]
 obtain⟨d,hd,h2⟩:=as2.1 e
 rw[hd]
 simp only[Prod.mk.injEq]at h2
 obtain⟨v,es,fs⟩:=d
 obtain⟨rfl,rfl⟩:=h2
 rfl
theorem aLW{L:List (Int × Bool)}(hL:L.length=12){i:Nat}{x:Int × Bool}(hx:L[i]?=some x){k:Int}(hk:k=1∨k=2∨k=3∨k=4)(b:Bool):
 Eb.call (.fn 43) [.agg (Et L),.agg [.int .i64 k,.int .i64 (i:Int)],.bool b] []=some (.ret (.agg (Et (L.set i (Jo k b x)))),[]):=by
 have hi:i<L.length:=(abZ.1 hx).1
 have hpl:(Et L).length=24:=by rw[Ia];omega
 have hf1:=Lh L
 have hf2:=Kx L
 have htk:=au2 _ _ _ _ hx
 have hst:=fun a b=>axF L i a b hi
 have hpl2:∀a b,(Et (L.set i (a,b))).length=24:=fun a b=>by rw[Ia];simp;omega
 have hfl2:=fun a b=>Lh (L.set i (a,b))
 have hce2:=fun a b=>Kx (L.set i (a,b))
 have hrf2:=fun a b=>apE (L.set i (a,b))
 have hpv2:=fun a b=>auJ (L.set i (a,b))
 have i12:((i:Int)<12)=True:=eq_true (by omega)
 have hp24:(i*2+2≤24)=True:=eq_true (by omega)
 have htk24:ao5 24 (Et L)=Et L:=ab1 (by omega)
 have htk2:∀a b,ao5 (24-i*2) [AV.int .i64 a,AV.bool b]=[AV.int .i64 a,AV.bool b]:=fun a b=>ab1 (by simp;omega)
 have htk3:∀a b,ao5 24 (Et (L.set i (a,b)))=Et (L.set i (a,b)):=fun a b=>ab1 (by rw[hpl2];omega)
 obtain⟨a,o⟩:=x
 have hrm:∀f,Gw f asZ=some asZ:=fun f=>rfl
 have him:asZ.hasImm=false:=rfl
 have rv:∀(f:Nat→Nat) (b:Nat),Bo 8 f (.mapr b)=some (.mapr (f b)):=fun _ _=>rfl
 have hlk:=fun(h:Aa) (b':Nat) (hb':h[b']?=some asZ)=>aJQ hb' hk
 have q1:=aDE a o b
 have q2:=aDS a o b
 have q3:=aG2 a o b
 have q4:=aCM a o b
 rcases hk with rfl|rfl|rfl|rfl
 ·rw[show fnD 1=79 from rfl]at hlk
  rw[show Jo 1 b (a,o)=(a,true)from rfl]
  refine ce Tryz.func43 ?_
  simp only[Tryz.f43]
  (have hb:=trivial;with_reducible repeat' (first|simp only[hb,Vc.down,seval,aLQ.down,hpl,hf1,hf2,htk,au0,i12,hp24,hrm,him,rv,hlk,q1,Ft,hst,hpl2,hfl2,hce2,hrf2,htk24,htk2,htk3,hpv2]|refine Bj ?_ ?_<;>intro hb|refine fd ?_|fail))
 ·rw[show fnD 2=80 from rfl]at hlk
  rw[show Jo 2 b (a,o)=(a,false)from rfl]
  refine ce Tryz.func43 ?_
  simp only[Tryz.f43]
  (have hb:=trivial;with_reducible repeat' (first|simp only[hb,Vc.down,seval,aLQ.down,hpl,hf1,hf2,htk,au0,i12,hp24,hrm,him,rv,hlk,q2,Ft,hst,hpl2,hfl2,hce2,hrf2,htk24,htk2,htk3,hpv2]|refine Bj ?_ ?_<;>intro hb|refine fd ?_|fail))
 ·rw[show fnD 3=81 from rfl]at hlk
  rw[show Jo 3 b (a,o)=(if b=true then(0,o)else(2,o))from rfl]
  rw[show(if b=true then((0:Int),o)else(2,o))=((if b=true then 0 else 2),o) by cases b<;>rfl]
  refine ce Tryz.func43 ?_
  simp only[Tryz.f43]
  (have hb:=trivial;with_reducible repeat' (first|simp only[hb,Vc.down,seval,aLQ.down,hpl,hf1,hf2,htk,au0,i12,hp24,hrm,him,rv,hlk,q3,Ft,hst,hpl2,hfl2,hce2,hrf2,htk24,htk2,htk3,hpv2]|refine Bj ?_ ?_<;>intro hb|refine fd ?_|fail))
 ·rw[show fnD 4=82 from rfl]at hlk
  rw[show Jo 4 b (a,o)=(0,o)from rfl]
  refine ce Tryz.func43 ?_
  simp only[Tryz.f43]
  (have hb:=trivial;with_reducible repeat' (first|simp only[hb,Vc.down,seval,aLQ.down,hpl,hf1,hf2,htk,au0,i12,hp24,hrm,him,rv,hlk,q4,Ft,hst,hpl2,hfl2,hce2,hrf2,htk24,htk2,htk3,hpv2]|refine Bj ?_ ?_<;>intro hb|refine fd ?_|fail))
def aw3(p:Ab)(x:Int × Bool)(k:Int):Bool:=if k=1 then p.valve&& !x.2 else if k=2 then p.valve&&x.2 else if k=3 then !x.2&&x.1==1 else !x.2
theorem aVE(p:Ab)(x:Int × Bool){k:Int}(hk:k=1∨k=2∨k=3∨k=4):Eb.call (.fn 25) [.agg p.cells,.agg [.int .i64 x.1,.bool x.2],.int .i64 k] []=some (.ret (.bool (aw3 p x k)),[]):=by
 obtain⟨a,o⟩:=x
 obtain⟨p1,p2,p3,p4,p5,p6,p7,p8,p9⟩:=p
 simp only[Ab.cells]
 rcases hk with rfl|rfl|rfl|rfl
 ·cases p3<;>cases o<;>(refine ce Tryz.func25 ?_;simp only[Tryz.f25];(have hb:=trivial;with_reducible repeat' (first|simp only[hb,Vc.down,seval,aI6.down]|refine Bj ?_ ?_<;>intro hb|refine fd ?_|fail)))
  all_goals rfl
 ·cases p3<;>cases o<;>(refine ce Tryz.func25 ?_;simp only[Tryz.f25];(have hb:=trivial;with_reducible repeat' (first|simp only[hb,Vc.down,seval,aI6.down]|refine Bj ?_ ?_<;>intro hb|refine fd ?_|fail)))
  all_goals rfl
 ·cases o<;>cases h:(a==1)<;>(refine ce Tryz.func25 ?_;simp only[Tryz.f25];(have hb:=trivial;with_reducible repeat' (first|simp only[hb,Vc.down,seval,aI6.down,h]|refine Bj ?_ ?_<;>intro hb|refine fd ?_|fail)))
  all_goals (simp only[aw3,h];rfl)
 ·cases o<;>(refine ce Tryz.func25 ?_;simp only[Tryz.f25];(have hb:=trivial;with_reducible repeat' (first|simp only[hb,Vc.down,seval,aI6.down]|refine Bj ?_ ?_<;>intro hb|refine fd ?_|fail)))
  all_goals rfl
theorem aIP(p:Ab){k:Int}(hk:k=1∨k=2∨k=3∨k=4):Eb.call (.fn 28) [.agg p.cells,.int .i64 k] []=some (.ret (.int .i64 (if k=3 then p.test else if k=4 then p.change else 1)),[]):=by
 simp only[Ab.cells]
 rcases hk with rfl|rfl|rfl|rfl<;>(refine ce Tryz.func28 ?_;simp only[Tryz.f28];(have hb:=trivial;with_reducible repeat' (first|simp only[hb,Vc.down,seval,aXI.down]|refine Bj ?_ ?_<;>intro hb|refine fd ?_|fail)))
 all_goals rfl
def Ei(w:Ao)(N:Nat)(L:List (Int × Bool)):Int:=if(nmB w N L:Int)<w.need then(nmB w N L:Int)else w.need
def Lj(w:Ao)(N:Nat)(L:List (Int × Bool))(k:Int)(i:Nat)(b:Bool)(x:Int × Bool):Bool:=
 (!(k==4)|| !decide ((nmB w N (L.set i (2,x.2)):Int)<Ei w N L))&&decide ((nmB w N (L.set i (Jo k b x)):Int)≥Ei w N L)
theorem aR8{w:Ao}{N:Nat}(hw:WOk w N)(h12:w.parts.length≤12)(d:Int){L:List (Int × Bool)}(hL:L.length=12){i:Nat}{x:Int × Bool}(hx:L[i]?=some x){k:Int}(hk:k=1∨k=2∨k=3∨k=4)(b:Bool)(wf:Bool):
 Eb.call (.fn 26) [.ptr 0 0 0,.agg (Et L),.agg [.int .i64 k,.int .i64 (i:Int)],.bool b] [.live 4 false wf [[.int .i64 w.rooms,.int .i64 w.need,Dn 9 true w.nn (w.parts.map Ab.cells),.int .i64 d]]]=some (.ret (.bool (Lj w N L k i b x)),[.live 4 false wf [[.int .i64 w.rooms,.int .i64 w.need,Dn 9 true w.nn (w.parts.map Ab.cells),.int .i64 d]]]):=by
 have hi:i<L.length:=(abZ.1 hx).1
 have hn0:=aoH hw h12 d hL false
 have hn1:=aoH hw h12 d (L:=L.set i (2,x.2)) (by simpa using hL) false
 have hn2:=aoH hw h12 d (L:=L.set i (Jo k b x)) (by simpa using hL) false
 have ha:=aLW hL hx hk b
 have hlb:Ei w N L=if(nmB w N L:Int)<w.need then(nmB w N L:Int)else w.need:=rfl
 have hsf:Lj w N L k i b x=((!(k==4)|| !decide ((nmB w N (L.set i (2,x.2)):Int)<Ei w N L))&&decide ((nmB w N (L.set i (Jo k b x)):Int)≥Ei w N L)):=rfl
 rw[hsf]
 have hmn:aqI (.int .i64 w.need) (.int .i64 (nmB w N L:Nat))=some (.int .i64 (Ei w N L)):=rfl
 generalize Ei w N L=lb at *
 generalize(nmB w N L:Nat)=n0 at *
 generalize(nmB w N (L.set i (2,x.2)):Nat)=n1 at *
 generalize(nmB w N (L.set i (Jo k b x)):Nat)=n2 at *
 have f0:=Lh L
 have c0:=Kx L
 have v0:=asD L
 have l0:=arK L
 have r0:=apE L
 have p0:=auJ L
 have hpl:(Et L).length=24:=by rw[Ia];omega
 have htk:=ab1 (l:=Et L) (i:=24) (by omega)
 have f2:=Lh (L.set i (Jo k b x))
 have c2:=Kx (L.set i (Jo k b x))
 have v2:=asD (L.set i (Jo k b x))
 have l2:=arK (L.set i (Jo k b x))
 have r2:=apE (L.set i (Jo k b x))
 have p2:=auJ (L.set i (Jo k b x))
 have n2':=aD7 (L.set i (Jo k b x))
 have i2:=aEP (L.set i (Jo k b x))
 generalize Et (L.set i (Jo k b x))=ps2 at *
 have i12:((i:Int)<12)=True:=eq_true (by omega)
 have hpz:(i*2≤23)=True:=eq_true (by omega)
 have hs1:=asL L i x.1 2 x.2 hx
 have ht1:ao5 (24-i*2) [AV.int .i64 2]=[AV.int .i64 2]:=ab1 (by simp;omega)
 have f1:=Lh (L.set i (2,x.2))
 have c1:=Kx (L.set i (2,x.2))
 have v1:=asD (L.set i (2,x.2))
 have l1:=arK (L.set i (2,x.2))
 have r1:=apE (L.set i (2,x.2))
 have hpl1:(Et (L.set i (2,x.2))).length=24:=by rw[Ia];simp;omega
 have htk1:=ab1 (l:=Et (L.set i (2,x.2))) (i:=24) (by omega)
 simp only[avE,avO]at hs1
 generalize Et (L.set i (2,x.2))=ps1 at *
 generalize Et L=ps at *
 refine ce Tryz.func26 ?_
 simp only[Tryz.f26]
 rw[hlb]
 cases q4:(k==4)
 ·cases q2:decide ((n2:Int)≥if(n0:Int)<w.need then(n0:Int)else w.need)
  all_goals (have hb:=trivial;with_reducible repeat' (first|simp only[hb,Vc.down,seval,aP2.down,q4,hn0,hn2,ha,hmn,f0,c0,v0,l0,r0,p0,hpl,htk,f2,c2,v2,l2,r2,p2,n2',i2]|refine Bj ?_ ?_<;>intro hb|refine fd ?_|fail))
  all_goals simp only[ge_iff_le]at q2
  all_goals rw[q2]
 ·cases q1:decide ((n1:Int)<if(n0:Int)<w.need then(n0:Int)else w.need)
  ·cases q2:decide ((n2:Int)≥if(n0:Int)<w.need then(n0:Int)else w.need)
   all_goals (have hb:=trivial;with_reducible repeat' (first|simp only[hb,Vc.down,seval,aP2.down,q1,q4,hn0,hn1,hn2,ha,hmn,f0,c0,v0,l0,r0,p0,hpl,htk,f1,c1,v1,l1,r1,hpl1,htk1,f2,c2,v2,l2,r2,p2,n2',i2,Ft,i12,hpz,hs1,ht1]|refine Bj ?_ ?_<;>intro hb|refine fd ?_|fail))
   all_goals simp only[ge_iff_le]at q2
   all_goals rw[q2]
  ·(have hb:=trivial;with_reducible repeat' (first|simp only[hb,Vc.down,seval,aP2.down,q1,q4,hn0,hn1,hn2,ha,hmn,f0,c0,v0,l0,r0,p0,hpl,htk,f1,c1,v1,l1,r1,hpl1,htk1,f2,c2,v2,l2,r2,p2,n2',i2,Ft,i12,hpz,hs1,ht1]|refine Bj ?_ ?_<;>intro hb|refine fd ?_|fail))
def opB(w:Ao)(k i:Int):Bool:=decide (1≤k)&&decide (k≤4)&&Io i 0 (IntKind.i64.wrap ((w.parts.length:Int)-1))
theorem aOC{n:Nat}{h:Aa}{nfl:Bool}{a b r len:Nat}{rows:List (List AV)}(hr:rows≠[]):apK n h (some (.slr a b r len)) (some (nfl,rows))=apS n h.length b r len nfl rows (h[b]?):=by
 obtain⟨x,l,rfl⟩:=List.exists_cons_of_ne_nil hr
 rfl
def asS(p:Ab)(d k:Int)(b:Bool):Ab:=if k=1 then { p with opn:=true }else if k=2 then { p with opn:=false }else if k=3 then(if b=true then { p with bad:=false,tested:=d }else { p with bad:=true })else { p with tested:=d,bad:=false }
theorem aKT{l:List Ab}{nn:Bool}(hne:l≠[])(hl:l.length≤1000):Eb.call (.fn 27) [Dn 9 true nn (l.map Ab.cells)] []=some (.ret (.slr 9 0 0 l.length),[.live 9 true false (l.map Ab.cells)]):=by
 have h1:(l.map Ab.cells).isEmpty=false:=by cases l<;>simp_all
 have h2:l.map Ab.cells≠[]:=by simpa using hne
 have h3:((l.map Ab.cells).length≤549755813888)=True:=eq_true (by simp;omega)
 have hs:Dn 9 true nn (l.map Ab.cells)=.imm 9 true (l.map Ab.cells):=azA h2
 rw[hs]
 have h4:=fun(h:Aa) a b r len=>aOC (n:=9) (h:=h) (nfl:=true) (a:=a) (b:=b) (r:=r) (len:=len) h2
 simp only[abY]at h3
 (refine ce Tryz.func27 ?_;simp only[Tryz.f27];(have hb:=trivial;with_reducible repeat' (first|simp only[hb,Vc.down,seval,aW8.down,h3,h4,abY]|refine Bj ?_ ?_<;>intro hb|refine fd ?_|fail)))
theorem aTX(w:Ao)(hs:w.small)(d k i:Int)(b:Bool)(h0:(Ie w&&Na d&&opB w k i)=false):Eb.call (.fn 6) [.agg [.int .i64 w.rooms,.int .i64 w.need,Dn 9 true w.nn (w.parts.map Ab.cells)],.int .i64 d,.agg [.int .i64 k,.int .i64 i],.bool b] []=some (.ret (.tup [.agg [.int .i64 0,.int .i64 0,.nils],.int .i64 0,.int .i64 2]),[]):=by
 have h1:=azM w hs d
 cases c1:Ie w&&Na d with
 |false=>
  rw[c1]at h1
  (refine ce Tryz.func6 ?_;simp only[Tryz.f6];(have hb:=trivial;with_reducible repeat' (first|simp only[hb,Vc.down,seval,TY6.down,h1]|refine Bj ?_ ?_<;>intro hb|refine fd ?_|fail)))
 |true=>
 rw[c1]at h1 h0
 simp only[Bool.true_and]at h0
 cases d1:decide (k<1)with
 |true=>
  (refine ce Tryz.func6 ?_;simp only[Tryz.f6];(have hb:=trivial;with_reducible repeat' (first|simp only[hb,Vc.down,seval,TY6.down,h1,d1]|refine Bj ?_ ?_<;>intro hb|refine fd ?_|fail)))
 |false=>
 cases d2:decide (k>4)with
 |true=>
  (refine ce Tryz.func6 ?_;simp only[Tryz.f6];(have hb:=trivial;with_reducible repeat' (first|simp only[hb,Vc.down,seval,TY6.down,h1,d1,d2]|refine Bj ?_ ?_<;>intro hb|refine fd ?_|fail)))
 |false=>
 have hi:=aqU i 0 (IntKind.i64.wrap ((w.parts.length:Int)-1))
 have d3:Io i 0 (IntKind.i64.wrap ((w.parts.length:Int)-1))=false:=by
  simp only[decide_eq_false_iff_not]at d1 d2
  have e1:decide (1≤k)=true:=decide_eq_true (by omega)
  have e2:decide (k≤4)=true:=decide_eq_true (by omega)
  unfold opB at h0
  rw[e1,e2]at h0
  simpa using h0
 rw[d3]at hi
 (refine ce Tryz.func6 ?_;simp only[Tryz.f6];(have hb:=trivial;with_reducible repeat' (first|simp only[hb,Vc.down,seval,TY6.down,h1,d1,d2,hi,abY]|refine Bj ?_ ?_<;>intro hb|refine fd ?_|fail)))
theorem aWB{w:Ao}{N:Nat}(hw:WOk w N)(h12:w.parts.length≤12)(hs:w.small)(d:Int)(hb0:(Ie w&&Na d)=true){i:Nat}{p:Ab}(hp:w.parts[i]?=some p){k:Int}(hk:k=1∨k=2∨k=3∨k=4)(b:Bool):
 (aw3 p (Au p d,p.opn) k=false→Eb.call (.fn 6) [.agg [.int .i64 w.rooms,.int .i64 w.need,Dn 9 true w.nn (w.parts.map Ab.cells)],.int .i64 d,.agg [.int .i64 k,.int .i64 (i:Int)],.bool b] []=some (.ret (.tup [.agg [.int .i64 0,.int .i64 0,.nils],.int .i64 0,.int .i64 6]),[]))∧
 (aw3 p (Au p d,p.opn) k=true→Lj w N (Ak w d) k i b (Au p d,p.opn)=false→Eb.call (.fn 6) [.agg [.int .i64 w.rooms,.int .i64 w.need,Dn 9 true w.nn (w.parts.map Ab.cells)],.int .i64 d,.agg [.int .i64 k,.int .i64 (i:Int)],.bool b] []=some (.ret (.tup [.agg [.int .i64 0,.int .i64 0,.nils],.int .i64 0,.int .i64 7]),[]))∧
 (aw3 p (Au p d,p.opn) k=true→Lj w N (Ak w d) k i b (Au p d,p.opn)=true→∃wf,Eb.call (.fn 6) [.agg [.int .i64 w.rooms,.int .i64 w.need,Dn 9 true w.nn (w.parts.map Ab.cells)],.int .i64 d,.agg [.int .i64 k,.int .i64 (i:Int)],.bool b] []=some (.ret (.tup [.agg [.int .i64 w.rooms,.int .i64 w.need,.slr 9 0 0 w.parts.length],.int .i64 (if k=3 then p.test else if k=4 then p.change else 1),.int .i64 0]),[.live 9 true wf ((w.parts.set i (asS p d k b)).map Ab.cells)])):=by
 have hil:i<w.parts.length:=(abZ.1 hp).1
 have h1:=azM w hs d
 rw[hb0]at h1
 have hpc:=aF3 w d false h12
 have hx:=atT (d:=d) hp
 have hL:=ayR (d:=d) h12
 have h2:=aVE p (Au p d,p.opn) hk
 have h3:=aR8 hw h12 d hL hx hk b false
 have d1:decide (k<1)=false:=decide_eq_false (by omega)
 have d2:decide (k>4)=false:=decide_eq_false (by omega)
 have hin:=aqU (i:Int) 0 (IntKind.i64.wrap ((w.parts.length:Int)-1))
 have d3:Io (i:Int) 0 (IntKind.i64.wrap ((w.parts.length:Int)-1))=true:=by
  rw[Gt (by omega) (by omega)]
  simp[Io];omega
 rw[d3]at hin
 have hrow:(w.parts.map Ab.cells)[i]?=some p.cells:=by rw[avT,hp];rfl
 have htk:=au2 _ _ _ _ hx
 try simp only at htk
 have f0:=Lh (Ak w d)
 have c0:=Kx (Ak w d)
 have v0:=asD (Ak w d)
 have l0:=arK (Ak w d)
 have r0:=apE (Ak w d)
 have p0:=auJ (Ak w d)
 have n0:=aD7 (Ak w d)
 have i0:=aEP (Ak w d)
 have hpl:(Et (Ak w d)).length=24:=by rw[Ia];omega
 have htk24:=ab1 (l:=Et (Ak w d)) (i:=24) (by omega)
 have hcl:=aKT (nn:=w.nn) hw.ne hw.len
 have hpr:=fun a1 a2 a3 a4 a5 a6 a7 a8 a9=>aIP ⟨a1,a2,a3,a4,a5,a6,a7,a8,a9⟩ hk
 have i12:((i:Int)<12)=True:=eq_true (by omega)
 have hp24:(i*2+2≤24)=True:=eq_true (by omega)
 have iln:((i:Int)<(w.parts.length:Int))=True:=eq_true (by omega)
 generalize hps:Et (Ak w d)=ps at *
 generalize aw3 p (Au p d,p.opn) k=cb at *
 generalize Lj w N (Ak w d) k i b (Au p d,p.opn)=sb at *
 simp only[Ab.cells]at h2
 refine⟨fun e=>?_,fun e1 e2=>?_,fun e1 e2=>?_⟩
 ·subst e
  (refine ce Tryz.func6 ?_;simp only[Tryz.f6];(have hb:=trivial;with_reducible repeat' (first|simp only[hb,Vc.down,seval,TY6.down,h1,d1,d2,hin,hpc,h2,hp,Ab.cells,htk,f0,c0,v0,l0,r0,p0,n0,i0,hpl,htk24,Ft,i12,hp24,iln,abY]|refine Bj ?_ ?_<;>intro hb|refine fd ?_|fail)))
 ·subst e1 e2
  (refine ce Tryz.func6 ?_;simp only[Tryz.f6];(have hb:=trivial;with_reducible repeat' (first|simp only[hb,Vc.down,seval,TY6.down,h1,d1,d2,hin,hpc,h2,h3,hp,Ab.cells,htk,f0,c0,v0,l0,r0,p0,n0,i0,hpl,htk24,Ft,i12,hp24,iln,abY]|refine Bj ?_ ?_<;>intro hb|refine fd ?_|fail)))
 ·subst e1 e2
  have hset:∀a1 a2 a3 a4 a5 a6 a7 a8 a9,(w.parts.map Ab.cells).set i [.int .i64 a1,.int .i64 a2,.bool a3,.bool a4,.int .i64 a5,.int .i64 a6,.bool a7,.int .i64 a8,.int .i64 a9]=(w.parts.set i ⟨a1,a2,a3,a4,a5,a6,a7,a8,a9⟩).map Ab.cells:=fun a1 a2 a3 a4 a5 a6 a7 a8 a9=>by rw[aqM];rfl
  have hset2:∀q a1 a2 a3 a4 a5 a6 a7 a8 a9,((w.parts.set i q).map Ab.cells).set i [.int .i64 a1,.int .i64 a2,.bool a3,.bool a4,.int .i64 a5,.int .i64 a6,.bool a7,.int .i64 a8,.int .i64 a9]=(w.parts.set i ⟨a1,a2,a3,a4,a5,a6,a7,a8,a9⟩).map Ab.cells:=fun q a1 a2 a3 a4 a5 a6 a7 a8 a9=>by
   rw[show([.int .i64 a1,.int .i64 a2,.bool a3,.bool a4,.int .i64 a5,.int .i64 a6,.bool a7,.int .i64 a8,.int .i64 a9]:List AV)=Ab.cells ⟨a1,a2,a3,a4,a5,a6,a7,a8,a9⟩from rfl,←aqM,List.set_set]
  have hget:∀q,(w.parts.set i q)[i]?=some q:=fun q=>aq1 hil
  simp only[Ab.cells]at hpr
  obtain⟨p1,p2,p3,p4,p5,p6,p7,p8,p9⟩:=p
  rcases hk with rfl|rfl|rfl|rfl
  ·refine⟨true,?_⟩
   (refine ce Tryz.func6 ?_;simp only[Tryz.f6];(have hb:=trivial;with_reducible repeat' (first|simp only[hb,Vc.down,seval,TY6.down,h1,d1,d2,hin,hpc,h2,h3,hp,Ab.cells,htk,f0,c0,v0,l0,r0,p0,n0,i0,hpl,htk24,Ft,i12,hp24,iln,hcl,hpr,hset,hset2,hget,abY]|refine Bj ?_ ?_<;>intro hb|refine fd ?_|fail)))
   rfl
  ·refine⟨true,?_⟩
   (refine ce Tryz.func6 ?_;simp only[Tryz.f6];(have hb:=trivial;with_reducible repeat' (first|simp only[hb,Vc.down,seval,TY6.down,h1,d1,d2,hin,hpc,h2,h3,hp,Ab.cells,htk,f0,c0,v0,l0,r0,p0,n0,i0,hpl,htk24,Ft,i12,hp24,iln,hcl,hpr,hset,hset2,hget,abY]|refine Bj ?_ ?_<;>intro hb|refine fd ?_|fail)))
   rfl
  ·cases b
   ·refine⟨true,?_⟩
    (refine ce Tryz.func6 ?_;simp only[Tryz.f6];(have hb:=trivial;with_reducible repeat' (first|simp only[hb,Vc.down,seval,TY6.down,h1,d1,d2,hin,hpc,h2,h3,hp,Ab.cells,htk,f0,c0,v0,l0,r0,p0,n0,i0,hpl,htk24,Ft,i12,hp24,iln,hcl,hpr,hset,hset2,hget,abY]|refine Bj ?_ ?_<;>intro hb|refine fd ?_|fail)))
    rfl
   ·refine⟨true,?_⟩
    (refine ce Tryz.func6 ?_;simp only[Tryz.f6];(have hb:=trivial;with_reducible repeat' (first|simp only[hb,Vc.down,seval,TY6.down,h1,d1,d2,hin,hpc,h2,h3,hp,Ab.cells,htk,f0,c0,v0,l0,r0,p0,n0,i0,hpl,htk24,Ft,i12,hp24,iln,hcl,hpr,hset,hset2,hget,abY]|refine Bj ?_ ?_<;>intro hb|refine fd ?_|fail)))
    rfl
  ·refine⟨true,?_⟩
   (refine ce Tryz.func6 ?_;simp only[Tryz.f6];(have hb:=trivial;with_reducible repeat' (first|simp only[hb,Vc.down,seval,TY6.down,h1,d1,d2,hin,hpc,h2,h3,hp,Ab.cells,htk,f0,c0,v0,l0,r0,p0,n0,i0,hpl,htk24,Ft,i12,hp24,iln,hcl,hpr,hset,hset2,hget,abY]|refine Bj ?_ ?_<;>intro hb|refine fd ?_|fail)))
   rfl
theorem aNL(w:Ao)(i:Int):Eb.call (.fn 30) [.agg [.int .i64 w.rooms,.int .i64 w.need,Dn 9 true w.nn (w.parts.map Ab.cells)],.int .i64 i] []=some (.ret (.bool (Io i 0 (IntKind.i64.wrap ((w.parts.length:Int)-1)))),[]):=by
 have h:=auL i 0 (IntKind.i64.wrap ((w.parts.length:Int)-1))
 (refine ce Tryz.func30 ?_;simp only[Tryz.f30];(have hb:=trivial;with_reducible repeat' (first|simp only[hb,Vc.down,seval,aX0.down,h,abY]|refine Bj ?_ ?_<;>intro hb|refine fd ?_|fail)))
theorem aW4(w:Ao)(k i:Int):Eb.call (.fn 9) [.agg [.int .i64 w.rooms,.int .i64 w.need,Dn 9 true w.nn (w.parts.map Ab.cells)],.agg [.int .i64 k,.int .i64 i]] []=some (.ret (.bool (opB w k i)),[]):=by
 have h:=aNL w i
 have ho:opB w k i=(decide (1≤k)&&decide (k≤4)&&Io i 0 (IntKind.i64.wrap ((w.parts.length:Int)-1))):=rfl
 rw[ho]
 generalize Io i 0 (IntKind.i64.wrap ((w.parts.length:Int)-1))=c at *
 cases c
 ·(refine ce Tryz.func9 ?_;simp only[Tryz.f9];(have hb:=trivial;with_reducible repeat' (first|simp only[hb,Vc.down,seval,TY9.down,h,abY]|refine Bj ?_ ?_<;>intro hb|refine fd ?_|fail)))
  try simp
 ·cases d1:decide (1≤k)
  ·(refine ce Tryz.func9 ?_;simp only[Tryz.f9];(have hb:=trivial;with_reducible repeat' (first|simp only[hb,Vc.down,seval,TY9.down,h,d1,ge_iff_le,abY]|refine Bj ?_ ?_<;>intro hb|refine fd ?_|fail)))
  ·(refine ce Tryz.func9 ?_;simp only[Tryz.f9];(have hb:=trivial;with_reducible repeat' (first|simp only[hb,Vc.down,seval,TY9.down,h,d1,ge_iff_le,abY]|refine Bj ?_ ?_<;>intro hb|refine fd ?_|fail)))
   try simp
def asY(p:Ab)(d k:Int):Bool:=if k=1 then p.valve&& !p.opn else if k=2 then p.opn else if k=3 then !p.opn&&Au p d==1 else !p.opn
theorem aVM{w:Ao}{d:Int}{i:Nat}{p:Ab}(hp:w.parts[i]?=some p){k:Int}(hk:k=1∨k=2∨k=3∨k=4):Eb.call (.fn 10) [.agg [.int .i64 w.rooms,.int .i64 w.need,Dn 9 true w.nn (w.parts.map Ab.cells)],.int .i64 d,.agg [.int .i64 k,.int .i64 (i:Int)]] []=some (.ret (.bool (asY p d k)),[]):=by
 have hc:=ap5 p d
 have hcr:asY p d k=if k=1 then p.valve&& !p.opn else if k=2 then p.opn else if k=3 then !p.opn&&Au p d==1 else !p.opn:=rfl
 rw[hcr]
 generalize Au p d=c at *
 obtain⟨p1,p2,p3,p4,p5,p6,p7,p8,p9⟩:=p
 simp only[Ab.cells]at hc
 rcases hk with rfl|rfl|rfl|rfl
 ·cases p3<;>cases p4<;>(refine ce Tryz.func10 ?_;simp only[Tryz.f10];(have hb:=trivial;with_reducible repeat' (first|simp only[hb,Vc.down,seval,aL4.down,hp,Ab.cells]|refine Bj ?_ ?_<;>intro hb|refine fd ?_|fail)))
  all_goals rfl
 ·(refine ce Tryz.func10 ?_;simp only[Tryz.f10];(have hb:=trivial;with_reducible repeat' (first|simp only[hb,Vc.down,seval,aL4.down,hp,Ab.cells]|refine Bj ?_ ?_<;>intro hb|refine fd ?_|fail)))
  try rfl
 ·cases p4<;>cases h:(c==1)<;>(refine ce Tryz.func10 ?_;simp only[Tryz.f10];(have hb:=trivial;with_reducible repeat' (first|simp only[hb,Vc.down,seval,aL4.down,hp,Ab.cells,hc,h]|refine Bj ?_ ?_<;>intro hb|refine fd ?_|fail)))
  all_goals (simp only[h];rfl)
 ·cases p4<;>(refine ce Tryz.func10 ?_;simp only[Tryz.f10];(have hb:=trivial;with_reducible repeat' (first|simp only[hb,Vc.down,seval,aL4.down,hp,Ab.cells]|refine Bj ?_ ?_<;>intro hb|refine fd ?_|fail)))
  all_goals rfl
theorem aD5{w:Ao}(hne:w.parts≠[])(hl:w.parts.length≤1000){i:Nat}(hi:i<w.parts.length)(q:Ab):∃wf,Eb.call (.fn 33) [.agg [.int .i64 w.rooms,.int .i64 w.need,Dn 9 true w.nn (w.parts.map Ab.cells)],.int .i64 (i:Int),.agg [.int .i64 q.one,.int .i64 q.other,.bool q.valve,.bool q.opn,.int .i64 q.tested,.int .i64 q.valid,.bool q.bad,.int .i64 q.test,.int .i64 q.change]] []=some (.ret (.agg [.int .i64 w.rooms,.int .i64 w.need,.slr 9 0 0 w.parts.length]),[.live 9 true wf ((w.parts.set i q).map Ab.cells)]):=by
 have h2:w.parts.map Ab.cells≠[]:=by simpa using hne
 have h3:(w.parts.length≤549755813888)=True:=eq_true (by omega)
 have h4:=fun(h:Aa)=>aSO (n:=9) (h:=h) (nfl:=true) h2 (by simp;omega)
 have hs:Dn 9 true w.nn (w.parts.map Ab.cells)=.imm 9 true (w.parts.map Ab.cells):=azA h2
 have iln:((i:Int)<(w.parts.length:Int))=True:=eq_true (by omega)
 obtain⟨p,hp⟩:∃p,w.parts[i]?=some p:=⟨_,atQ hi⟩
 have hset:∀a1 a2 a3 a4 a5 a6 a7 a8 a9,(w.parts.map Ab.cells).set i [.int .i64 a1,.int .i64 a2,.bool a3,.bool a4,.int .i64 a5,.int .i64 a6,.bool a7,.int .i64 a8,.int .i64 a9]=(w.parts.set i ⟨a1,a2,a3,a4,a5,a6,a7,a8,a9⟩).map Ab.cells:=fun a1 a2 a3 a4 a5 a6 a7 a8 a9=>by rw[aqM];rfl
 rw[hs]
 refine⟨true,?_⟩
 (refine ce Tryz.func33 ?_;simp only[Tryz.f33];(have hb:=trivial;with_reducible repeat' (first|simp only[hb,Vc.down,seval,aXF.down,h3,h4,hp,Ab.cells,iln,hset,abY]|refine Bj ?_ ?_<;>intro hb|refine fd ?_|fail)))
 try rfl
def Jv(w:Ao)(i:Nat)(q:Ab):Ao:={ w with nn:=true,parts:=w.parts.set i q }
theorem ao4(w:Ao)(i:Nat)(q:Ab):(Jv w i q).parts.length=w.parts.length:=by simp[Jv]
theorem avX{w:Ao}{d:Int}{i:Nat}{q:Ab}(hi:i<w.parts.length):Ak (Jv w i q) d=(Ak w d).set i (Au q d,q.opn):=by
 unfold Ak
 rw[ao4,List.set_append_left _ _ (by simpa using hi),←aqM]
 rfl
theorem aFA{w:Ao}{i:Nat}{p q:Ab}(hp:w.parts[i]?=some p)(h1:q.one=p.one)(h2:q.other=p.other)(ts:List Bool):edg (Jv w i q) ts=edg w ts:=by
 unfold edg Jv
 apply ax1
 intro j
 simp only[ax2]
 by_cases e:i=j
 ·subst e
  rw[aq1 (abZ.1 hp).1,hp]
  cases ts[i]? with
  |none=>rfl
  |some t=>simp only[h1,h2]
 ·rw[auH e]
theorem aGN{w:Ao}{N:Nat}{i:Nat}{p q:Ab}(hp:w.parts[i]?=some p)(h1:q.one=p.one)(h2:q.other=p.other)(L:List (Int × Bool)):nmB (Jv w i q) N L=nmB w N L:=by
 unfold nmB
 rw[aFA hp h1 h2,ao4]
theorem apB{w:Ao}{N:Nat}{d:Int}{i:Nat}{p q:Ab}(hp:w.parts[i]?=some p)(h1:q.one=p.one)(h2:q.other=p.other):Nk (Jv w i q) N d=nmB w N ((Ak w d).set i (Au q d,q.opn)):=by
 rw[←arL,avX (abZ.1 hp).1,aGN hp h1 h2]
theorem aIE{w:Ao}{N:Nat}(hw:WOk w N){L:List (Int × Bool)}{i:Nat}{x y:Int × Bool}(hi:i<L.length)(hxy:tgB x=true→tgB y=true):nmB w N (L.set i x)≤nmB w N (L.set i y):=by
 have n2:=hw.n2
 have n8:=hw.n8
 have get:∀(z:Int × Bool) (j:Nat),(edg w (tgt (L.set i z)))[j]?=(w.parts[j]?).bind fun p=>(L[j]?).map fun u=>(p.one.toNat,p.other.toNat,if tgB (if i=j then z else u)=true then 1 else 0):=fun z j=>by
  unfold edg tgt
  rw[ax2,avT]
  by_cases e:i=j
  ·subst e
   rw[aq1 hi,atQ hi]
   cases w.parts[i]?<;>simp
  ·rw[auH e]
   cases w.parts[j]? with
   |none=>rfl
   |some p=>cases L[j]?<;>simp[e]
 refine aHE n2 (by omega) (apA hw _) (apA hw _) (fun a b c' hc=>?_) (fun a b c hc=>?_)
 ·obtain⟨j,hj⟩:=ax3 hc
  rw[get]at hj
  obtain⟨p,h1,hj⟩:=ax4.1 hj
  obtain⟨u,h2,hj⟩:=as2.1 hj
  refine⟨if tgB (if i=j then x else u)=true then 1 else 0,asR (i:=j) ?_,?_⟩
  ·rw[get,h1,h2]
   simp only[ao9,ax5,Option.some.injEq,Prod.mk.injEq]at hj ⊢
   exact⟨hj.1,hj.2.1,trivial⟩
  ·simp only[Prod.mk.injEq]at hj
   rw[←hj.2.2]
   by_cases e:i=j
   ·rw[if_pos e,if_pos e]
    by_cases t:tgB x=true
    ·rw[if_pos t,if_pos (hxy t)];exact ah0 _
    ·rw[if_neg t];exact Nat.zero_le _
   ·rw[if_neg e,if_neg e];exact ah0 _
 ·obtain⟨j,hj⟩:=ax3 hc
  rw[get]at hj
  obtain⟨p,h1,hj⟩:=ax4.1 hj
  obtain⟨u,h2,hj⟩:=as2.1 hj
  refine⟨if tgB (if i=j then y else u)=true then 1 else 0,asR (i:=j) ?_⟩
  rw[get,h1,h2]
  simp only[ao9,ax5,Option.some.injEq,Prod.mk.injEq]at hj ⊢
  exact⟨hj.1,hj.2.1,trivial⟩
theorem aG1{α:Type}{L:List α}{i:Nat}{x:α}(hx:L[i]?=some x):L.set i x=L:=by
 apply ax1
 intro j
 by_cases e:i=j
 ·subst e;rw[aq1 (abZ.1 hx).1,hx]
 ·rw[auH e]
theorem azL{w:Ao}(h:Ie w=true){i:Nat}{p:Ab}(hp:w.parts[i]?=some p):Kw w.rooms p=true:=by
 simp only[Ie,alG,avQ]at h
 exact h.2 p (asR hp)
theorem aw9{N:Int}{p:Ab}(h:Kw N p=true):(p.opn=true→p.valve=true)∧0≤p.tested∧p.tested≤5000∧0≤p.valid∧p.valid≤5000∧1≤p.test∧1≤p.change:=by
 simp only[Kw,Na,Io,alG,decide_eq_true_eq,Bool.not_eq_true',Bool.and_eq_false_iff,azH]at h
 obtain⟨⟨⟨⟨⟨⟨⟨a1,a2⟩,a3⟩,a4⟩,a5⟩,a6⟩,a7⟩,a8⟩:=h
 refine⟨fun e=>?_,a5.1,a5.2,a6.1,a6.2,a7.1,a8.1⟩
 rcases a4 with a4|a4
 ·rw[e]at a4;cases a4
 ·exact a4
theorem aNU{w:Ao}(h:Ie w=true){i:Nat}{p:Ab}(hp:w.parts[i]?=some p)(d k:Int):aw3 p (Au p d,p.opn) k=asY p d k:=by
 have hv:=(aw9 (azL h hp)).1
 unfold aw3 asY
 by_cases k1:k=1
 ·rw[if_pos k1,if_pos k1]
 by_cases k2:k=2
 ·rw[if_neg k1,if_neg k1,if_pos k2,if_pos k2]
  cases ho:p.opn
  ·simp
  ·simp[hv ho]
 rw[if_neg k1,if_neg k1,if_neg k2,if_neg k2]
def auU(p:Ab)(k:Int):Ab:=if k=1 then { p with opn:=true }else if k=4 then { p with bad:=true }else p
theorem awG(p:Ab)(k:Int):(auU p k).one=p.one∧(auU p k).other=p.other:=by
 unfold auU
 split
 ·exact⟨rfl,rfl⟩
 ·split<;>exact⟨rfl,rfl⟩
theorem axD(p:Ab)(d k:Int)(b:Bool):(asS p d k b).one=p.one∧(asS p d k b).other=p.other:=by
 unfold asS
 split
 ·exact⟨rfl,rfl⟩
 ·split
  ·exact⟨rfl,rfl⟩
  ·split
   ·split<;>exact⟨rfl,rfl⟩
   ·exact⟨rfl,rfl⟩
theorem avU{p:Ab}{d:Int}(hd:Na d=true)(hv:0≤p.valid∧p.valid≤5000):Au { p with bad:=false,tested:=d } d=0:=by
 simp only[Na,Io,alG,decide_eq_true_eq]at hd
 simp only[Au,Bool.false_eq_true,if_false]
 rw[Gt (by omega) (by omega),if_neg (by omega)]
theorem aA6{N:Int}{p:Ab}(h:Kw N p=true){d k:Int}(hk:k=1∨k=2∨k=3∨k=4)(hd:Na d=true)(b:Bool):(Au (asS p d k b) d,(asS p d k b).opn)=Jo k b (Au p d,p.opn):=by
 obtain⟨_,_,_,h4,h5,_⟩:=aw9 h
 rcases hk with rfl|rfl|rfl|rfl
 ·rfl
 ·rfl
 ·cases b
  ·show(Au { p with bad:=true } d,p.opn)=(2,p.opn)
   simp[Au]
  ·show(Au { p with bad:=false,tested:=d } d,p.opn)=(0,p.opn)
   rw[avU hd ⟨h4,h5⟩]
 ·show(Au { p with bad:=false,tested:=d } d,p.opn)=(0,p.opn)
  rw[avU hd ⟨h4,h5⟩]
theorem aBT(p:Ab)(d k:Int):(Au (auU p k) d,(auU p k).opn)=if k=1 then(Au p d,true)else if k=4 then(2,p.opn)else(Au p d,p.opn):=by
 unfold auU
 split
 ·rfl
 ·split
  ·simp[Au]
  ·rfl
theorem aJB{w:Ao}{N:Nat}{d:Int}{i:Nat}{p:Ab}(hp:w.parts[i]?=some p)(k:Int):Nk (Jv w i (auU p k)) N d=nmB w N ((Ak w d).set i (if k=1 then(Au p d,true)else if k=4 then(2,p.opn)else(Au p d,p.opn))):=by
 rw[apB hp (awG p k).1 (awG p k).2,aBT]
theorem aAB{w:Ao}{N:Nat}{d:Int}(hd:Na d=true){i:Nat}{p:Ab}(hp:w.parts[i]?=some p)(h:Ie w=true){k:Int}(hk:k=1∨k=2∨k=3∨k=4)(b:Bool):Nk (Jv w i (asS p d k b)) N d=nmB w N ((Ak w d).set i (Jo k b (Au p d,p.opn))):=by
 rw[apB hp (axD p d k b).1 (axD p d k b).2,aA6 (azL h hp) hk hd]
theorem aEV(w:Ao)(N:Nat)(L:List (Int × Bool)):Ei w N L≤(nmB w N L:Int)∧Ei w N L≤w.need:=by
 unfold Ei
 split<;>omega
theorem aoI{w:Ao}{N:Nat}(hw:WOk w N)(h12:w.parts.length≤12){d:Int}{i:Nat}{p:Ab}(hp:w.parts[i]?=some p){k:Int}(hk:k=1∨k=2∨k=3∨k=4)(b:Bool)(hc:asY p d k=true):
 Lj w N (Ak w d) k i b (Au p d,p.opn)=decide ((Nk (Jv w i (auU p k)) N d:Int)≥Ei w N (Ak w d)):=by
 have hx:=atT (d:=d) hp
 have hil:i<(Ak w d).length:=(abZ.1 hx).1
 have hll:=(aEV w N (Ak w d)).1
 rw[aJB hp]
 unfold Lj
 have mono:=fun x y=>aIE (x:=x) (y:=y) hw hil
 have hself:=aG1 hx
 generalize Ei w N (Ak w d)=lb at *
 generalize Ak w d=L at *
 rcases hk with rfl|rfl|rfl|rfl
 ·rfl
 ·have h1:=mono (Au p d,p.opn) (Au p d,false) (by simp[tgB];exact fun h _=>h)
  rw[hself]at h1
  have e1:Jo 2 b (Au p d,p.opn)=(Au p d,false):=rfl
  simp only[e1,hself,aqG,if_false]
  rw[decide_eq_true (by omega:(nmB w N (L.set i (Au p d,false)):Int)≥lb),decide_eq_true (by omega:(nmB w N L:Int)≥lb)]
  rfl
 ·simp only[asY,aqG,if_false,if_true,alG,beq_iff_eq]at hc
  have h1:=mono (Au p d,p.opn) (Jo 3 b (Au p d,p.opn)) (by simp[tgB,hc.2])
  rw[hself]at h1
  simp only[hself,aqG,if_false]
  rw[decide_eq_true (by omega:(nmB w N (L.set i (Jo 3 b (Au p d,p.opn))):Int)≥lb),decide_eq_true (by omega:(nmB w N L:Int)≥lb)]
  rfl
 ·have h1:=mono (2,p.opn) (Jo 4 b (Au p d,p.opn)) (by simp[tgB])
  simp only[aqG,if_false,if_true]
  by_cases hq:(nmB w N (L.set i (2,p.opn)):Int)≥lb
  ·rw[decide_eq_true hq,decide_eq_true (by omega:(nmB w N (L.set i (Jo 4 b (Au p d,p.opn))):Int)≥lb),decide_eq_false (by omega)]
   rfl
  ·rw[decide_eq_false hq,decide_eq_true (by omega:(nmB w N (L.set i (2,p.opn)):Int)<lb)]
   rfl
def aj1(p:Ab)(d k:Int)(b:Bool):Ab:=if k=1 then { p with opn:=true }else if k=2 then { p with opn:=false }else if k=3 then(if b=true then { p with tested:=d }else { p with bad:=true })else { p with tested:=d,bad:=false }
theorem aF1{p:Ab}{d k:Int}(hc:asY p d k=true)(b:Bool):aj1 p d k b=asS p d k b:=by
 unfold aj1 asS
 split
 ·rfl
 ·split
  ·rfl
  ·split
   ·rename_i k1 k2 k3
    split
    ·subst k3
     simp only[asY,aqG,if_false,if_true,alG,beq_iff_eq]at hc
     have hb:p.bad=false:=by
      cases hb:p.bad with
      |false=>rfl
      |true=>have:=hc.2;simp[Au,hb]at this
     rw[←hb]
    ·rfl
   ·rfl
theorem aIN{w:Ao}{N:Nat}(hw:WOk w N){i:Nat}{p q:Ab}(hp:w.parts[i]?=some p)(h1:q.one=p.one)(h2:q.other=p.other):WOk (Jv w i q) N:=
 ⟨hw.rooms,hw.n2,hw.n8,by rw[ao4];exact hw.len,fun e=>hw.ne (by have:=congrArg List.length e;rw[ao4]at this;exact List.length_eq_zero_iff.1 this),fun x hx=>by
   rcases List.mem_or_eq_of_mem_set hx with hx|rfl
   ·exact hw.part x hx
   ·rw[h1,h2];exact hw.part p (asR hp)⟩
theorem ahG(p:Ab)(d k:Int)(b:Bool):(aj1 p d k b).one=p.one∧(aj1 p d k b).other=p.other:=by
 unfold aj1
 split
 ·exact⟨rfl,rfl⟩
 ·split
  ·exact⟨rfl,rfl⟩
  ·split
   ·split<;>exact⟨rfl,rfl⟩
   ·exact⟨rfl,rfl⟩
theorem au4{w:Ao}(hne:w.parts≠[])(hl:w.parts.length≤1000)(d:Int){i:Nat}{p:Ab}(hp:w.parts[i]?=some p){k:Int}(hk:k=1∨k=2∨k=3∨k=4)(b:Bool):
 ∃wf,Eb.call (.fn 13) [.agg [.int .i64 w.rooms,.int .i64 w.need,Dn 9 true w.nn (w.parts.map Ab.cells)],.int .i64 d,.agg [.int .i64 k,.int .i64 (i:Int)],.bool b] []=some (.ret (.agg [.int .i64 w.rooms,.int .i64 w.need,.slr 9 0 0 w.parts.length]),[.live 9 true wf ((w.parts.set i (aj1 p d k b)).map Ab.cells)]):=by
 have hi:=(abZ.1 hp).1
 obtain⟨wf,hW⟩:=aD5 hne hl hi (aj1 p d k b)
 have iln:((i:Int)<(w.parts.length:Int))=True:=eq_true (by omega)
 refine⟨wf,?_⟩
 generalize hq:aj1 p d k b=q at *
 obtain⟨p1,p2,p3,p4,p5,p6,p7,p8,p9⟩:=p
 rcases hk with rfl|rfl|rfl|rfl
 ·obtain rfl:q=⟨p1,p2,p3,true,p5,p6,p7,p8,p9⟩:=hq.symm
  simp only[Ab.cells]at hW
  (refine ce Tryz.func13 ?_;simp only[Tryz.f13];(have hb:=trivial;with_reducible repeat' (first|simp only[hb,Vc.down,seval,aF0.down,hp,Ab.cells,hW,iln,abY]|refine Bj ?_ ?_<;>intro hb|refine fd ?_|fail)))
 ·obtain rfl:q=⟨p1,p2,p3,false,p5,p6,p7,p8,p9⟩:=hq.symm
  simp only[Ab.cells]at hW
  (refine ce Tryz.func13 ?_;simp only[Tryz.f13];(have hb:=trivial;with_reducible repeat' (first|simp only[hb,Vc.down,seval,aF0.down,hp,Ab.cells,hW,iln,abY]|refine Bj ?_ ?_<;>intro hb|refine fd ?_|fail)))
 ·cases b
  ·obtain rfl:q=⟨p1,p2,p3,p4,p5,p6,true,p8,p9⟩:=hq.symm
   simp only[Ab.cells]at hW
   (refine ce Tryz.func13 ?_;simp only[Tryz.f13];(have hb:=trivial;with_reducible repeat' (first|simp only[hb,Vc.down,seval,aF0.down,hp,Ab.cells,hW,iln,abY]|refine Bj ?_ ?_<;>intro hb|refine fd ?_|fail)))
  ·obtain rfl:q=⟨p1,p2,p3,p4,d,p6,p7,p8,p9⟩:=hq.symm
   simp only[Ab.cells]at hW
   (refine ce Tryz.func13 ?_;simp only[Tryz.f13];(have hb:=trivial;with_reducible repeat' (first|simp only[hb,Vc.down,seval,aF0.down,hp,Ab.cells,hW,iln,abY]|refine Bj ?_ ?_<;>intro hb|refine fd ?_|fail)))
 ·obtain rfl:q=⟨p1,p2,p3,p4,d,p6,false,p8,p9⟩:=hq.symm
  simp only[Ab.cells]at hW
  (refine ce Tryz.func13 ?_;simp only[Tryz.f13];(have hb:=trivial;with_reducible repeat' (first|simp only[hb,Vc.down,seval,aF0.down,hp,Ab.cells,hW,iln,abY]|refine Bj ?_ ?_<;>intro hb|refine fd ?_|fail)))
theorem aSR{w:Ao}{i:Nat}{p:Ab}(hp:w.parts[i]?=some p){k:Int}(hk:k=1∨k=2∨k=3∨k=4):Eb.call (.fn 14) [.agg [.int .i64 w.rooms,.int .i64 w.need,Dn 9 true w.nn (w.parts.map Ab.cells)],.agg [.int .i64 k,.int .i64 (i:Int)]] []=some (.ret (.int .i64 (if k=3 then p.test else if k=4 then p.change else 1)),[]):=by
 have iln:((i:Int)<(w.parts.length:Int))=True:=eq_true (by have:=(abZ.1 hp).1;omega)
 obtain⟨p1,p2,p3,p4,p5,p6,p7,p8,p9⟩:=p
 rcases hk with rfl|rfl|rfl|rfl
 all_goals (refine ce Tryz.func14 ?_;simp only[Tryz.f14];(have hb:=trivial;with_reducible repeat' (first|simp only[hb,Vc.down,seval,aXR.down,hp,Ab.cells,iln,abY]|refine Bj ?_ ?_<;>intro hb|refine fd ?_|fail)))
 all_goals rfl
theorem aKV:Eb.call (.fn 12) [.agg [.int .i64 0,.int .i64 0,.nils],.agg [.int .i64 0,.int .i64 0,.nils]] []=some (.ret (.bool true),[]):=by
 exact asJ (pr:=pr) (pr2:=pr) (n:=10) rfl (fun f hf=>hf) (fun f p hp a h r hr=>auS hp hr) (by kernel_rfl)
theorem aNV(a b:Int)(l:List Ab)(n1 n2:Bool)(hl:l.length≤1000):Eb.call (.fn 12) [.agg [.int .i64 a,.int .i64 b,Dn 9 true n1 (l.map Ab.cells)],.agg [.int .i64 a,.int .i64 b,Dn 9 true n2 (l.map Ab.cells)]] []=some (.ret (.bool true),[]):=by
 (refine ce Tryz.func12 ?_;simp only[Tryz.f12];(have hb:=trivial;with_reducible repeat' (first|simp only[hb,Vc.down,seval,aK4.down,bne,beq_self_eq_true,Bool.not_true,abY]|refine Bj ?_ ?_<;>intro hb|refine fd ?_|fail)))
 refine ahA (lst 45 l (fun i (zz:Unit) t h=>t 2=.ptr 0 0 0∧t 3=.ptr 1 0 0∧t 5=.int .i64 i∧(h=[.live 3 false false [[.int .i64 a,.int .i64 b,Dn 9 true n1 (l.map Ab.cells)]],.live 3 false false [[.int .i64 a,.int .i64 b,Dn 9 true n2 (l.map Ab.cells)]]])) (fun rest zz=>()) (fun r e t h=>e=.exit 0) ?_ ?_ () _ _ ?_) (fun e t h hk=>?_)
 ·rintro _ t h Q' kQ ⟨h2,h3,h5,rfl⟩
  (have hb:=trivial;with_reducible repeat' (first|simp only[hb,Vc.down,seval,aK4.down,h2,h3,h5,Int.lt_irrefl,decide_false,abY]|refine Bj ?_ ?_<;>intro hb|refine fd ?_|fail))
  exact kQ _ _ _ rfl
 ·rintro x rest i _ t h J Q' kJ kQ hx hi ⟨h2,h3,h5,rfl⟩
  have hd:decide ((i:Int)<(l.length:Int))=true:=decide_eq_true (by omega)
  have hw:=Iw hi (by unfold maxLen;omega)
  obtain⟨p1,p2,p3,p4,p5,p6,p7,p8,p9⟩:=x
  (have hb:=trivial;with_reducible repeat' (first|simp only[hb,Vc.down,seval,aK4.down,h2,h3,h5,hd,hw,hx,Ab.cells,beq_self_eq_true,Bool.and_self,Bool.not_true,abY]|refine Bj ?_ ?_<;>intro hb|refine fd ?_|fail))
  (refine Fv (kJ _ _ () ⟨?_,?_,?_,rfl⟩ ?_);(simp[up,h2]);(simp[up,h3]);(simp[up]);exact rfl)
 ·exact⟨by simp[up,ent],by simp[up,ent],by simp[up],rfl⟩
 obtain rfl:=hk
 (have hb:=trivial;with_reducible repeat' (first|simp only[hb,Vc.down,seval,aK4.down]|refine Bj ?_ ?_<;>intro hb|refine fd ?_|fail))
theorem auP{w:Ao}{N:Nat}(hw:WOk w N)(d:Int){i:Nat}{p q:Ab}(hp:w.parts[i]?=some p)(h1:q.one=p.one)(h2:q.other=p.other):Eb.call (.fn 32) [.agg [.int .i64 w.rooms,.int .i64 w.need,.imm 9 true ((w.parts.set i q).map Ab.cells)],.int .i64 d] []=some (.ret (.int .i64 (Nk (Jv w i q) N d:Nat)),[]):=by
 have h:=av6 (aIN hw hp h1 h2) d
 have e5:(Jv w i q).cells=[.int .i64 w.rooms,.int .i64 w.need,.imm 9 true ((w.parts.set i q).map Ab.cells)]:=by
  show [_,_,Dn 9 true true _]=_
  rw[asQ];rfl
 change Eb.call _ [AV.agg (Jv w i q).cells,.int .i64 d] []=_ at h
 rw[e5]at h
 exact h
theorem aNS{w:Ao}{N:Nat}(hw:WOk w N)(h12:w.parts.length≤12)(hb:Ie w=true){d:Int}(hd:Na d=true){i:Nat}{p:Ab}(hp:w.parts[i]?=some p){k:Int}(hk:k=1∨k=2∨k=3∨k=4)(hc:asY p d k=true):
 Eb.call (.fn 11) [.agg [.int .i64 w.rooms,.int .i64 w.need,Dn 9 true w.nn (w.parts.map Ab.cells)],.int .i64 d,.agg [.int .i64 k,.int .i64 (i:Int)]] []=some (.ret (.bool (Lj w N (Ak w d) k i true (Au p d,p.opn))),[]):=by
 have hi:=(abZ.1 hp).1
 have hN:=av6 hw d
 obtain⟨w1,hA1⟩:=au4 hw.ne hw.len d hp hk true
 obtain⟨w0,hA0⟩:=au4 hw.ne hw.len d hp hk false
 have hK1:=auP hw d hp (ahG p d k true).1 (ahG p d k true).2
 have hK0:=auP hw d hp (ahG p d k false).1 (ahG p d k false).2
 obtain⟨wm,hW⟩:=aD5 hw.ne hw.len hi { p with bad:=true }
 have hM:=auP hw d hp (q:={ p with bad:=true }) rfl rfl
 have s1:=aoI hw h12 hp hk true hc
 have s0:=aoI hw h12 hp hk false hc
 have n1:=aAB (N:=N) hd hp hb hk true
 have n0:=aAB (N:=N) hd hp hb hk false
 rw[←aF1 hc]at n1 n0
 have u1:Lj w N (Ak w d) k i true (Au p d,p.opn)=true→Ei w N (Ak w d)≤(Nk (Jv w i (aj1 p d k true)) N d:Int):=fun e=>by
  rw[n1];simp only[Lj,alG,decide_eq_true_eq]at e;exact e.2
 have u0:Lj w N (Ak w d) k i false (Au p d,p.opn)=true→Ei w N (Ak w d)≤(Nk (Jv w i (aj1 p d k false)) N d:Int):=fun e=>by
  rw[n0];simp only[Lj,alG,decide_eq_true_eq]at e;exact e.2
 have v1:Lj w N (Ak w d) k i true (Au p d,p.opn)=((!(k==4)|| !decide ((Nk (Jv w i { p with bad:=true }) N d:Int)<Ei w N (Ak w d)))&&decide ((Nk (Jv w i (aj1 p d k true)) N d:Int)≥Ei w N (Ak w d))):=by
  rw[n1]
  unfold Lj
  rw[show Nk (Jv w i { p with bad:=true }) N d=nmB w N ((Ak w d).set i (2,p.opn))from by
   rw[apB (q:={ p with bad:=true }) hp rfl rfl]
   simp[Au]]
 have h01:Lj w N (Ak w d) k i true (Au p d,p.opn)=true→Ei w N (Ak w d)≤(Nk (Jv w i (aj1 p d k false)) N d:Int):=fun e=>u0 (by rw[s0,←s1];exact e)
 have hmn:(if(Nk w N d:Int)<w.need then(Nk w N d:Int)else w.need)=Ei w N (Ak w d):=by
  simp only[Ei,arL]
 have hsl:Dn 9 true w.nn (w.parts.map Ab.cells)=.imm 9 true (w.parts.map Ab.cells):=azA (by simpa using hw.ne)
 have htR2:∀q,ao5 w.parts.length ((w.parts.set i q).map Ab.cells)=(w.parts.set i q).map Ab.cells:=fun q=>ab1 (by simp)
 have iln:((i:Int)<(w.parts.length:Int))=True:=eq_true (by omega)
 rw[v1]at h01 ⊢
 clear s1 s0 n1 n0 u1 u0 v1
 generalize Ei w N (Ak w d)=lb at *
 generalize Nk w N d=n at *
 generalize Nk (Jv w i { p with bad:=true }) N d=m at *
 generalize Nk (Jv w i (aj1 p d k true)) N d=m1 at *
 generalize Nk (Jv w i (aj1 p d k false)) N d=m0 at *
 generalize aj1 p d k true=q1 at *
 generalize aj1 p d k false=q0 at *
 rw[hsl]at hN hA1 hA0 hW ⊢
 obtain⟨p1,p2,p3,p4,p5,p6,p7,p8,p9⟩:=p
 simp only[Ab.cells]at hW
 cases e1:decide ((m1:Int)≥lb)with
 |true=>
  have hd1:decide (lb≤(m1:Int))=true:=e1
  cases e2:decide ((m0:Int)≥lb)with
  |true=>
   have hd0:decide (lb≤(m0:Int))=true:=e2
   cases e3:decide ((m:Int)<lb)
   ·rcases hk with rfl|rfl|rfl|rfl
    all_goals (refine ce Tryz.func11 ?_;simp only[Tryz.f11];(have hb:=trivial;with_reducible repeat' (first|simp only[hb,Vc.down,seval,aE6.down,hN,hA1,hA0,hK1,hK0,hW,hM,hp,Ab.cells,htR2,hmn,iln,hd1,hd0,e3,ge_iff_le,gt_iff_lt,ao7,ah0,abY]|refine Bj ?_ ?_<;>intro hb|refine fd ?_|fail)))
    all_goals rfl
   ·rcases hk with rfl|rfl|rfl|rfl
    all_goals (refine ce Tryz.func11 ?_;simp only[Tryz.f11];(have hb:=trivial;with_reducible repeat' (first|simp only[hb,Vc.down,seval,aE6.down,hN,hA1,hA0,hK1,hK0,hW,hM,hp,Ab.cells,htR2,hmn,iln,hd1,hd0,e3,ge_iff_le,gt_iff_lt,ao7,ah0,abY]|refine Bj ?_ ?_<;>intro hb|refine fd ?_|fail)))
    all_goals rfl
  |false=>
   have hd0:decide (lb≤(m0:Int))=false:=e2
   have hx:((!(k==4)|| !decide ((m:Int)<lb))&&decide ((m1:Int)≥lb))=false:=by
    cases hq:((!(k==4)|| !decide ((m:Int)<lb))&&decide ((m1:Int)≥lb))with
    |false=>rfl
    |true=>
     have:=h01 hq
     simp at e2
     omega
   rw[e1,Bool.and_true]at hx
   rw[Bool.and_true,hx]
   simp only[Bool.or_eq_false_iff,azH,beq_iff_eq]at hx
   obtain⟨rfl,e3⟩:=hx
   (refine ce Tryz.func11 ?_;simp only[Tryz.f11];(have hb:=trivial;with_reducible repeat' (first|simp only[hb,Vc.down,seval,aE6.down,hN,hA1,hA0,hK1,hK0,hW,hM,hp,Ab.cells,htR2,hmn,iln,hd1,hd0,e3,ge_iff_le,gt_iff_lt,ao7,ah0,abY]|refine Bj ?_ ?_<;>intro hb|refine fd ?_|fail)))
 |false=>
  have hd1:decide (lb≤(m1:Int))=false:=e1
  rw[Bool.and_false]
  cases e3:decide ((m:Int)<lb)
  ·rcases hk with rfl|rfl|rfl|rfl
   all_goals (refine ce Tryz.func11 ?_;simp only[Tryz.f11];(have hb:=trivial;with_reducible repeat' (first|simp only[hb,Vc.down,seval,aE6.down,hN,hA1,hA0,hK1,hK0,hW,hM,hp,Ab.cells,htR2,hmn,iln,hd1,e3,ge_iff_le,gt_iff_lt,ao7,ah0,abY]|refine Bj ?_ ?_<;>intro hb|refine fd ?_|fail)))
  ·rcases hk with rfl|rfl|rfl|rfl
   all_goals (refine ce Tryz.func11 ?_;simp only[Tryz.f11];(have hb:=trivial;with_reducible repeat' (first|simp only[hb,Vc.down,seval,aE6.down,hN,hA1,hA0,hK1,hK0,hW,hM,hp,Ab.cells,htR2,hmn,iln,hd1,e3,ge_iff_le,gt_iff_lt,ao7,ah0,abY]|refine Bj ?_ ?_<;>intro hb|refine fd ?_|fail)))
theorem aV1{av:AV}(h:TyV Tryz.prog 7 27 av):∃k i:Int,av=.agg [.int .i64 k,.int .i64 i]:=by
 unfold TyV at h
 simp only[Tryz.underlying27]at h
 obtain⟨cs,rfl,h⟩:=h
 unfold Ty at h
 simp only[Tryz.underlying27,aBB]at h
 obtain⟨a2,b2,rfl,h2,a3,b3,rfl,h3,rfl⟩:=h
 simp only[Ty,Tryz.underlying25]at h2
 obtain⟨k,rfl,_⟩:=h2
 obtain⟨i,rfl,_⟩:=Ni h3
 exact⟨k,i,rfl⟩
theorem ax7(kn:Eb.call (.fn 5) [] []=some (.ret (.bool true),[]))(w:Ao)(hs:w.small)(d k i:Int)(b:Bool):Eb.call (.fn 3) [.agg [.int .i64 w.rooms,.int .i64 w.need,Dn 9 true w.nn (w.parts.map Ab.cells)],.int .i64 d,.agg [.int .i64 k,.int .i64 i],.bool b] []=some (.ret (.bool true),[]):=by
 have h1:=aIJ w
 have h3:=aPC w hs
 have h4:=aC9 d
 have h5:=aW4 w k i
 have h0:=aTX w hs d k i b
 have s0:=aKV
 cases c1:ayM w with
 |false=>
  rw[c1]at h1
  (refine ce Tryz.func3 ?_;simp only[Tryz.f3];(have hb:=trivial;with_reducible repeat' (first|simp only[hb,Vc.down,seval,TY3.down,h1,kn,abY]|refine Bj ?_ ?_<;>intro hb|refine fd ?_|fail)))
 |true=>
 rw[c1]at h1
 cases c2:Ie w with
 |false=>
  rw[c2]at h0 h3
  have h0:=h0 rfl
  (refine ce Tryz.func3 ?_;simp only[Tryz.f3];(have hb:=trivial;with_reducible repeat' (first|simp only[hb,Vc.down,seval,TY3.down,h0,h1,h3,kn,s0,abY]|refine Bj ?_ ?_<;>intro hb|refine fd ?_|fail)))
 |true=>
 cases c3:Na d with
 |false=>
  rw[c2,c3]at h0
  rw[c2]at h3
  rw[c3]at h4
  have h0:=h0 rfl
  (refine ce Tryz.func3 ?_;simp only[Tryz.f3];(have hb:=trivial;with_reducible repeat' (first|simp only[hb,Vc.down,seval,TY3.down,h0,h1,h3,h4,kn,s0,abY]|refine Bj ?_ ?_<;>intro hb|refine fd ?_|fail)))
 |true=>
 cases c5:opB w k i with
 |false=>
  rw[c2,c3,c5]at h0
  rw[c2]at h3
  rw[c3]at h4
  rw[c5]at h5
  have h0:=h0 rfl
  (refine ce Tryz.func3 ?_;simp only[Tryz.f3];(have hb:=trivial;with_reducible repeat' (first|simp only[hb,Vc.down,seval,TY3.down,h0,h1,h3,h4,h5,kn,s0,abY]|refine Bj ?_ ?_<;>intro hb|refine fd ?_|fail)))
 |true=>
 clear h0
 rw[c2]at h3
 rw[c3]at h4
 rw[c5]at h5
 obtain⟨N,hw,h12⟩:=aAE c2
 simp only[opB,alG,decide_eq_true_eq]at c5
 have hk:k=1∨k=2∨k=3∨k=4:=by omega
 have hlz:=hw.len
 have hnz:0<w.parts.length:=List.length_pos_iff.2 hw.ne
 have hj:0≤i∧i<(w.parts.length:Int):=by
  have:=c5.2
  rw[Gt (by omega) (by omega)]at this
  simp[Io]at this
  omega
 obtain⟨j,rfl⟩:∃j:Nat,i=(j:Int):=⟨i.toNat,by omega⟩
 have hjl:j<w.parts.length:=by omega
 obtain⟨p,hp⟩:∃p,w.parts[j]?=some p:=⟨_,atQ hjl⟩
 have hzd:(Ie w&&Na d)=true:=by rw[c2,c3];rfl
 have hCan:=aVM (d:=d) hp hk
 obtain⟨hD1,hD2,hD3⟩:=aWB hw h12 hs d hzd hp hk b
 rw[aNU c2 hp d k]at hD1 hD2 hD3
 cases cn:asY p d k with
 |false=>
  have hD1:=hD1 cn
  rw[cn]at hCan
  (refine ce Tryz.func3 ?_;simp only[Tryz.f3];(have hb:=trivial;with_reducible repeat' (first|simp only[hb,Vc.down,seval,TY3.down,hD1,h1,h3,h4,h5,hCan,kn,s0,abY]|refine Bj ?_ ?_<;>intro hb|refine fd ?_|fail)))
 |true=>
 replace hD2:=hD2 cn
 replace hD3:=hD3 cn
 have hSf:=aNS hw h12 c2 c3 hp hk cn
 rw[aoI hw h12 hp hk true cn]at hSf
 rw[aoI hw h12 hp hk b cn]at hD2 hD3
 rw[cn]at hCan
 generalize decide ((Nk (Jv w j (auU p k)) N d:Int)≥Ei w N (Ak w d))=sb at *
 cases sb with
 |false=>
  replace hD2:=hD2 rfl
  (refine ce Tryz.func3 ?_;simp only[Tryz.f3];(have hb:=trivial;with_reducible repeat' (first|simp only[hb,Vc.down,seval,TY3.down,hD2,h1,h3,h4,h5,hCan,hSf,kn,s0,abY]|refine Bj ?_ ?_<;>intro hb|refine fd ?_|fail)))
 |true=>
 obtain⟨wd,hD3⟩:=hD3 rfl
 obtain⟨wa,hA⟩:=au4 hw.ne hw.len d hp hk b
 rw[aF1 cn]at hA
 have hC:=aSR hp hk
 have hS:=aNV w.rooms w.need (w.parts.set j (asS p d k b)) true true (by simpa using hw.len)
 rw[asQ]at hS
 have htR2:∀q,ao5 w.parts.length ((w.parts.set j q).map Ab.cells)=(w.parts.set j q).map Ab.cells:=fun q=>ab1 (by simp)
 generalize(if k=3 then p.test else if k=4 then p.change else 1)=cost at *
 (refine ce Tryz.func3 ?_;simp only[Tryz.f3];(have hb:=trivial;with_reducible repeat' (first|simp only[hb,Vc.down,seval,TY3.down,hD3,h1,h3,h4,h5,hCan,hSf,hA,hC,hS,kn,s0,htR2,beq_self_eq_true,ao7,ah0,abY]|refine Bj ?_ ?_<;>intro hb|refine fdl ?_|fail)))
theorem ayH(hk:Eb.call (.fn 5) [] []=some (.ret (.bool true),[])):∀avs,azB Tryz.prog 7 Tryz.f3.params.toList avs→Eb.call (.fn 3) avs []=some (.ret (.bool true),[]):=by
 intro avs h
 rw[show Tryz.f3.params.toList=[24,3,27,4]from rfl]at h
 match avs,h with
 | [a,b,c,e],h=>
   obtain⟨w,rfl,hs⟩:=aL2 h.1
   obtain⟨d,rfl,_⟩:=aPA h.2.1
   obtain⟨k,i,rfl⟩:=aV1 h.2.2.1
   obtain⟨p,rfl⟩:=aKK h.2.2.2.1
   exact ax7 hk w hs d k i p
 | [],h=>exact h.elim
 | [_],h=>exact h.2.elim
 | [_,_],h=>exact h.2.2.elim
 | [_,_,_],h=>exact h.2.2.2.elim
 |_::_::_::_::_::_,h=>exact h.2.2.2.2.elim
end Go.Proofs.YtckfcfcmfjfchaaGreatDoor
