/- The functions of the layer, walked. -/
import Derived.Test.YtcncggaobhbomaaGreatDoorLibE
import Derived.Test.YtcncggaobhbomaaGreatDoorPartAB
open Option renaming bind_some→ad8,map_some→apA,getD_some→aCG,map_eq_some_iff→aG2,some→aJ8,bind_eq_some_iff→aO4
open List renaming length_map→ahF,take_of_length_le→aoR,take→awL,getElem?_eq_some_iff→ay8,mem_of_getElem?→azO,all_eq_true→azV,getElem?_eq_getElem→aAO,getElem?_set_self→aCH,mem_cons→aEG,idxOf→aEM,flatMap_def→aEX,map_set→aHA,ext_getElem?→aHN,getElem?_set_ne→aHP,mem_or_eq_of_mem_set→aHR,getElem?_of_mem→aI5,getElem?_cons_succ→aKE,mem_cons_of_mem→aKF,mem_range→aKP,cons_append→aL1,nil_append→aL7,set_cons_succ→aNR,getElem?_map→aN3,getElem?_zipWith→aN4,all_append→aPI,getElem?_cons_zero→aRB,take_append_of_le_length→aRT,getElem?_append_right→aSF,getElem?_eq_none→aS5,drop_zero→aTY,idxOf_cons→aUJ,map_congr_left→aUO,mem_append→aUU,mem_flatMap→aU0,not_mem_nil→aU1
open Bool renaming and_eq_true→aoS,false_eq_true→aA5
open Int renaming reduceEq→aD5
set_option linter.unusedSimpArgs false
set_option linter.unusedVariables false
namespace Go.Proofs.YtcncggaobhbomaaGreatDoor
open Go.Ev Go Go.Ev.Net
set_option maxRecDepth 100000
set_option maxHeartbeats 16000000
theorem aKQ:∀(L:List (Int × Bool)) (i:Nat) (a:Int) (b:Bool),i<L.length→awL (i*2) (Cj L)++(.int .i64 a::.bool b::List.drop (i*2+2) (Cj L))=Cj (L.set i (a,b))
 | [],i,a,b,h=>by simp at h
 |x::L,0,a,b,h=>by simp[Cj]
 |x::L,i+1,a,b,h=>by
  have ih:=aKQ L i a b (by simpa using h)
  rw[show(i+1)*2=(i*2)+1+1 by omega,show(i*2)+1+1+2=(i*2+2)+1+1 by omega]
  simp only[Cj,List.flatMap_cons,aL1,aL7,List.take_succ_cons,List.drop_succ_cons,aNR]at ih ⊢
  rw[←ih]
theorem agI(L:List (Int × Bool))(d:Nat):(Cj L).all (Aq (d+1))=true:=azV.2 fun x hx=>by rcases Ih L x hx with⟨n,rfl⟩|⟨b,rfl⟩<;>rfl
def Da(k:Int)(b:Bool)(x:Int × Bool):Int × Bool:=if k=1 then(x.1,true)else if k=2 then(x.1,false)else if k=3 then(if b=true then(0,x.2)else(2,x.2))else(0,x.2)
theorem aZ0(c:Int)(o b:Bool):Ef.call (.fn 112) [.agg [.int .i64 c,.bool o],.bool b] []=some (.ret (.agg [.int .i64 c,.bool true]),[]):=by
 (refine ce Tryz.func112 ?_;simp only[Tryz.f112];(have hb:=trivial;with_reducible repeat' (first|simp only[hb,Vc.down,seval,bd4.down]|refine Au ?_ ?_<;>intro hb|refine fd ?_|fail)))
theorem aVW(c:Int)(o b:Bool):Ef.call (.fn 113) [.agg [.int .i64 c,.bool o],.bool b] []=some (.ret (.agg [.int .i64 c,.bool false]),[]):=by
 (refine ce Tryz.func113 ?_;simp only[Tryz.f113];(have hb:=trivial;with_reducible repeat' (first|simp only[hb,Vc.down,seval,bcV.down]|refine Au ?_ ?_<;>intro hb|refine fd ?_|fail)))
theorem aXT(c:Int)(o b:Bool):Ef.call (.fn 114) [.agg [.int .i64 c,.bool o],.bool b] []=some (.ret (.agg [.int .i64 (if b=true then 0 else 2),.bool o]),[]):=by
 cases b<;>(refine ce Tryz.func114 ?_;simp only[Tryz.f114];(have hb:=trivial;with_reducible repeat' (first|simp only[hb,Vc.down,seval,bbS.down]|refine Au ?_ ?_<;>intro hb|refine fd ?_|fail)))
theorem aSW(c:Int)(o b:Bool):Ef.call (.fn 115) [.agg [.int .i64 c,.bool o],.bool b] []=some (.ret (.agg [.int .i64 0,.bool o]),[]):=by
 (refine ce Tryz.func115 ?_;simp only[Tryz.f115];(have hb:=trivial;with_reducible repeat' (first|simp only[hb,Vc.down,seval,bdE.down]|refine Au ?_ ?_<;>intro hb|refine fd ?_|fail)))
def aHC:CB:=.lp [] .skip .skip [.int .i64 1,.func (.func 112) [] [],.int .i64 2,.func (.func 113) [] [],.int .i64 3,.func (.func 114) [] [],.int .i64 4,.func (.func 115) [] []] .map
theorem aJE:Ef.call (.fn 92) [] []=some (.ret (.mapr 0),[aHC]):=by
 exact aLQ (pr:=pr) (pr2:=pr) (n:=10) rfl (fun f hf=>hf) (fun f p hp a h r hr=>aQT hp hr) (by kernel_rfl)
def fnD(k:Int):Nat:=if k=1 then 112 else if k=2 then 113 else if k=3 then 114 else 115
theorem a4S{h:Aa}{b:Nat}(hb:h[b]?=some aHC){k:Int}(hk:k=1∨k=2∨k=3∨k=4):lk Tryz.prog h 146 (some (.mapr b)) (some (.int .i64 k)) false=some (.ret (.func (.func (fnD k)) [] []),[]):=by
 have key:∀k:Int,k=1∨k=2∨k=3∨k=4→(En Tryz.prog (fun _=>some aHC) 146 (.mapr 0) (.int .i64 k) false).map (fun d=>(d.v,d.es))=some (.func (.func (fnD k)) [] [],[]):=fun k hk=>by
  rcases hk with rfl|rfl|rfl|rfl<;>kernel_rfl
 have e:(En Tryz.prog (hf h) 146 (.mapr b) (.int .i64 k) false).map (fun d=>(d.v,d.es))=(En Tryz.prog (fun _=>some aHC) 146 (.mapr 0) (.int .i64 k) false).map (fun d=>(d.v,d.es)):=by
  unfold En
  simp only[Tryz.underlying146]
  have hm:Nw (hf h) b=Nw (fun _=>some aHC) 0:=by simp only[Nw,hf,hb]
  simp only[hm]
  split
  ·generalize Nw (fun _=>some aHC) 0=m
   cases m with
   |none=>rfl
   |some kvs=>
    simp only[ad8]
    generalize aoN _ _ _ kvs 0=r
    cases r with
    |none=>rfl
    |some r=>
     simp only[ad8]
     generalize Ew _ _=z
     cases z<;>rfl
  ·rfl
 rw[key k hk]at e
 simp only[lk,ad8]
 obtain⟨d,hd,h2⟩:=aG2.1 e
 rw[hd]
 simp only[Prod.mk.injEq]at h2
 obtain⟨v,es,fs⟩:=d
 obtain⟨rfl,rfl⟩:=h2
 rfl
theorem aI3{L:List (Int × Bool)}(hL:L.length=12){i:Nat}{x:Int × Bool}(hx:L[i]?=some x){k:Int}(hk:k=1∨k=2∨k=3∨k=4)(b:Bool):
 Ef.call (.fn 74) [.agg (Cj L),.agg [.int .i64 k,.int .i64 (i:Int)],.bool b] []=some (.ret (.agg (Cj (L.set i (Da k b x)))),[]):=by
 have hi:i<L.length:=(ay8.1 hx).1
 have hpl:(Cj L).length=24:=by rw[Be];omega
 have hf1:=Gh L
 have hf2:=Gj L
 have htk:=aAD _ _ _ _ hx
 have hst:=fun a b=>aKQ L i a b hi
 have hpl2:∀a b,(Cj (L.set i (a,b))).length=24:=fun a b=>by rw[Be];simp;omega
 have hfl2:=fun a b=>Gh (L.set i (a,b))
 have hce2:=fun a b=>Gj (L.set i (a,b))
 have hrf2:=fun a b=>Pl (L.set i (a,b))
 have hpv2:=fun a b=>agI (L.set i (a,b))
 have i12:((i:Int)<12)=True:=eq_true (by omega)
 have hp24:(i*2+2≤24)=True:=eq_true (by omega)
 have htk24:awL 24 (Cj L)=Cj L:=aoR (by omega)
 have htk2:∀a b,awL (24-i*2) [AV.int .i64 a,AV.bool b]=[AV.int .i64 a,AV.bool b]:=fun a b=>aoR (by simp;omega)
 have htk3:∀a b,awL 24 (Cj (L.set i (a,b)))=Cj (L.set i (a,b)):=fun a b=>aoR (by rw[hpl2];omega)
 obtain⟨a,o⟩:=x
 have hrm:∀f,Hu f aHC=some aHC:=fun f=>rfl
 have him:aHC.hasImm=false:=rfl
 have rv:∀(f:Nat→Nat) (b:Nat),Ce 8 f (.mapr b)=some (.mapr (f b)):=fun _ _=>rfl
 have hlk:=fun(h:Aa) (b':Nat) (hb':h[b']?=some aHC)=>a4S hb' hk
 have q1:=aZ0 a o b
 have q2:=aVW a o b
 have q3:=aXT a o b
 have q4:=aSW a o b
 rcases hk with rfl|rfl|rfl|rfl
 ·rw[show fnD 1=112 from rfl]at hlk
  rw[show Da 1 b (a,o)=(a,true)from rfl]
  refine ce Tryz.func74 ?_
  simp only[Tryz.f74]
  (have hb:=trivial;with_reducible repeat' (first|simp only[hb,Vc.down,seval,a2K.down,hpl,hf1,hf2,htk,aJE,i12,hp24,hrm,him,rv,hlk,q1,Dx,hst,hpl2,hfl2,hce2,hrf2,htk24,htk2,htk3,hpv2]|refine Au ?_ ?_<;>intro hb|refine fd ?_|fail))
 ·rw[show fnD 2=113 from rfl]at hlk
  rw[show Da 2 b (a,o)=(a,false)from rfl]
  refine ce Tryz.func74 ?_
  simp only[Tryz.f74]
  (have hb:=trivial;with_reducible repeat' (first|simp only[hb,Vc.down,seval,a2K.down,hpl,hf1,hf2,htk,aJE,i12,hp24,hrm,him,rv,hlk,q2,Dx,hst,hpl2,hfl2,hce2,hrf2,htk24,htk2,htk3,hpv2]|refine Au ?_ ?_<;>intro hb|refine fd ?_|fail))
 ·rw[show fnD 3=114 from rfl]at hlk
  rw[show Da 3 b (a,o)=(if b=true then(0,o)else(2,o))from rfl]
  rw[show(if b=true then((0:Int),o)else(2,o))=((if b=true then 0 else 2),o) by cases b<;>rfl]
  refine ce Tryz.func74 ?_
  simp only[Tryz.f74]
  (have hb:=trivial;with_reducible repeat' (first|simp only[hb,Vc.down,seval,a2K.down,hpl,hf1,hf2,htk,aJE,i12,hp24,hrm,him,rv,hlk,q3,Dx,hst,hpl2,hfl2,hce2,hrf2,htk24,htk2,htk3,hpv2]|refine Au ?_ ?_<;>intro hb|refine fd ?_|fail))
 ·rw[show fnD 4=115 from rfl]at hlk
  rw[show Da 4 b (a,o)=(0,o)from rfl]
  refine ce Tryz.func74 ?_
  simp only[Tryz.f74]
  (have hb:=trivial;with_reducible repeat' (first|simp only[hb,Vc.down,seval,a2K.down,hpl,hf1,hf2,htk,aJE,i12,hp24,hrm,him,rv,hlk,q4,Dx,hst,hpl2,hfl2,hce2,hrf2,htk24,htk2,htk3,hpv2]|refine Au ?_ ?_<;>intro hb|refine fd ?_|fail))
def am5(p:Ac)(x:Int × Bool)(k:Int):Bool:=if k=1 then p.valve&& !x.2 else if k=2 then p.valve&&x.2 else if k=3 then !x.2&&x.1==1 else !x.2
theorem a5K(p:Ac)(x:Int × Bool){k:Int}(hk:k=1∨k=2∨k=3∨k=4):Ef.call (.fn 54) [.agg p.cells,.agg [.int .i64 x.1,.bool x.2],.int .i64 k] []=some (.ret (.bool (am5 p x k)),[]):=by
 obtain⟨a,o⟩:=x
 obtain⟨p1,p2,p3,p4,p5,p6,p7,p8,p9⟩:=p
 simp only[Ac.cells]
 rcases hk with rfl|rfl|rfl|rfl
 ·cases p3<;>cases o<;>(refine ce Tryz.func54 ?_;simp only[Tryz.f54];(have hb:=trivial;with_reducible repeat' (first|simp only[hb,Vc.down,seval,a1J.down]|refine Au ?_ ?_<;>intro hb|refine fd ?_|fail)))
  all_goals rfl
 ·cases p3<;>cases o<;>(refine ce Tryz.func54 ?_;simp only[Tryz.f54];(have hb:=trivial;with_reducible repeat' (first|simp only[hb,Vc.down,seval,a1J.down]|refine Au ?_ ?_<;>intro hb|refine fd ?_|fail)))
  all_goals rfl
 ·cases o<;>cases h:(a==1)<;>(refine ce Tryz.func54 ?_;simp only[Tryz.f54];(have hb:=trivial;with_reducible repeat' (first|simp only[hb,Vc.down,seval,a1J.down,h]|refine Au ?_ ?_<;>intro hb|refine fd ?_|fail)))
  all_goals (simp only[am5,h];rfl)
 ·cases o<;>(refine ce Tryz.func54 ?_;simp only[Tryz.f54];(have hb:=trivial;with_reducible repeat' (first|simp only[hb,Vc.down,seval,a1J.down]|refine Au ?_ ?_<;>intro hb|refine fd ?_|fail)))
  all_goals rfl
theorem aRJ(p:Ac){k:Int}(hk:k=1∨k=2∨k=3∨k=4):Ef.call (.fn 57) [.agg p.cells,.int .i64 k] []=some (.ret (.int .i64 (if k=3 then p.test else if k=4 then p.change else 1)),[]):=by
 simp only[Ac.cells]
 rcases hk with rfl|rfl|rfl|rfl<;>(refine ce Tryz.func57 ?_;simp only[Tryz.f57];(have hb:=trivial;with_reducible repeat' (first|simp only[hb,Vc.down,seval,bfP.down]|refine Au ?_ ?_<;>intro hb|refine fd ?_|fail)))
 all_goals rfl
def Iu(w:Ah)(N:Nat)(L:List (Int × Bool)):Int:=if(nmB w N L:Int)<w.need then(nmB w N L:Int)else w.need
def Ll(w:Ah)(N:Nat)(L:List (Int × Bool))(k:Int)(i:Nat)(b:Bool)(x:Int × Bool):Bool:=
 (!(k==4)|| !decide ((nmB w N (L.set i (2,x.2)):Int)<Iu w N L))&&decide ((nmB w N (L.set i (Da k b x)):Int)≥Iu w N L)
theorem a0G{w:Ah}{N:Nat}(hw:WOk w N)(h12:w.parts.length≤12)(d:Int){L:List (Int × Bool)}(hL:L.length=12){i:Nat}{x:Int × Bool}(hx:L[i]?=some x){k:Int}(hk:k=1∨k=2∨k=3∨k=4)(b:Bool)(wf:Bool):
 Ef.call (.fn 55) [.ptr 0 0 0,.agg (Cj L),.agg [.int .i64 k,.int .i64 (i:Int)],.bool b] [.live 4 false wf [[.int .i64 w.rooms,.int .i64 w.need,Bt 9 true w.nn (w.parts.map Ac.cells),.int .i64 d]]]=some (.ret (.bool (Ll w N L k i b x)),[.live 4 false wf [[.int .i64 w.rooms,.int .i64 w.need,Bt 9 true w.nn (w.parts.map Ac.cells),.int .i64 d]]]):=by
 have hi:i<L.length:=(ay8.1 hx).1
 have hn0:=aBZ hw h12 d hL false
 have hn1:=aBZ hw h12 d (L:=L.set i (2,x.2)) (by simpa using hL) false
 have hn2:=aBZ hw h12 d (L:=L.set i (Da k b x)) (by simpa using hL) false
 have ha:=aI3 hL hx hk b
 have hlb:Iu w N L=if(nmB w N L:Int)<w.need then(nmB w N L:Int)else w.need:=rfl
 have hsf:Ll w N L k i b x=((!(k==4)|| !decide ((nmB w N (L.set i (2,x.2)):Int)<Iu w N L))&&decide ((nmB w N (L.set i (Da k b x)):Int)≥Iu w N L)):=rfl
 rw[hsf]
 have hmn:aDP (.int .i64 w.need) (.int .i64 (nmB w N L:Nat))=some (.int .i64 (Iu w N L)):=rfl
 generalize Iu w N L=lb at *
 generalize(nmB w N L:Nat)=n0 at *
 generalize(nmB w N (L.set i (2,x.2)):Nat)=n1 at *
 generalize(nmB w N (L.set i (Da k b x)):Nat)=n2 at *
 have f0:=Gh L
 have c0:=Gj L
 have v0:=aAF L
 have l0:=az8 L
 have r0:=Pl L
 have p0:=agI L
 have hpl:(Cj L).length=24:=by rw[Be];omega
 have htk:=aoR (l:=Cj L) (i:=24) (by omega)
 have f2:=Gh (L.set i (Da k b x))
 have c2:=Gj (L.set i (Da k b x))
 have v2:=aAF (L.set i (Da k b x))
 have l2:=az8 (L.set i (Da k b x))
 have r2:=Pl (L.set i (Da k b x))
 have p2:=agI (L.set i (Da k b x))
 have n2':=aCI (L.set i (Da k b x))
 have i2:=aCL (L.set i (Da k b x))
 generalize Cj (L.set i (Da k b x))=ps2 at *
 have i12:((i:Int)<12)=True:=eq_true (by omega)
 have hpz:(i*2≤23)=True:=eq_true (by omega)
 have hs1:=aGA L i x.1 2 x.2 hx
 have ht1:awL (24-i*2) [AV.int .i64 2]=[AV.int .i64 2]:=aoR (by simp;omega)
 have f1:=Gh (L.set i (2,x.2))
 have c1:=Gj (L.set i (2,x.2))
 have v1:=aAF (L.set i (2,x.2))
 have l1:=az8 (L.set i (2,x.2))
 have r1:=Pl (L.set i (2,x.2))
 have hpl1:(Cj (L.set i (2,x.2))).length=24:=by rw[Be];simp;omega
 have htk1:=aoR (l:=Cj (L.set i (2,x.2))) (i:=24) (by omega)
 simp only[aL1,aL7]at hs1
 generalize Cj (L.set i (2,x.2))=ps1 at *
 generalize Cj L=ps at *
 refine ce Tryz.func55 ?_
 simp only[Tryz.f55]
 rw[hlb]
 cases q4:(k==4)
 ·cases q2:decide ((n2:Int)≥if(n0:Int)<w.need then(n0:Int)else w.need)
  all_goals (have hb:=trivial;with_reducible repeat' (first|simp only[hb,Vc.down,seval,a7V.down,q4,hn0,hn2,ha,hmn,f0,c0,v0,l0,r0,p0,hpl,htk,f2,c2,v2,l2,r2,p2,n2',i2]|refine Au ?_ ?_<;>intro hb|refine fd ?_|fail))
  all_goals simp only[ge_iff_le]at q2
  all_goals rw[q2]
 ·cases q1:decide ((n1:Int)<if(n0:Int)<w.need then(n0:Int)else w.need)
  ·cases q2:decide ((n2:Int)≥if(n0:Int)<w.need then(n0:Int)else w.need)
   all_goals (have hb:=trivial;with_reducible repeat' (first|simp only[hb,Vc.down,seval,a7V.down,q1,q4,hn0,hn1,hn2,ha,hmn,f0,c0,v0,l0,r0,p0,hpl,htk,f1,c1,v1,l1,r1,hpl1,htk1,f2,c2,v2,l2,r2,p2,n2',i2,Dx,i12,hpz,hs1,ht1]|refine Au ?_ ?_<;>intro hb|refine fd ?_|fail))
   all_goals simp only[ge_iff_le]at q2
   all_goals rw[q2]
  ·(have hb:=trivial;with_reducible repeat' (first|simp only[hb,Vc.down,seval,a7V.down,q1,q4,hn0,hn1,hn2,ha,hmn,f0,c0,v0,l0,r0,p0,hpl,htk,f1,c1,v1,l1,r1,hpl1,htk1,f2,c2,v2,l2,r2,p2,n2',i2,Dx,i12,hpz,hs1,ht1]|refine Au ?_ ?_<;>intro hb|refine fd ?_|fail))
def opB(w:Ah)(k i:Int):Bool:=decide (1≤k)&&decide (k≤4)&&Ht i 0 (IntKind.i64.wrap ((w.parts.length:Int)-1))
theorem a7R{n:Nat}{h:Aa}{nfl:Bool}{a b r len:Nat}{rows:List (List AV)}(hr:rows≠[]):apK n h (some (.slr a b r len)) (some (nfl,rows))=apS n h.length b r len nfl rows (h[b]?):=by
 obtain⟨x,l,rfl⟩:=List.exists_cons_of_ne_nil hr
 rfl
def Pe(p:Ac)(d k:Int)(b:Bool):Ac:=if k=1 then { p with opn:=true }else if k=2 then { p with opn:=false }else if k=3 then(if b=true then { p with bad:=false,tested:=d }else { p with bad:=true })else { p with tested:=d,bad:=false }
theorem a2R{l:List Ac}{nn:Bool}(hne:l≠[])(hl:l.length≤1000):Ef.call (.fn 56) [Bt 9 true nn (l.map Ac.cells)] []=some (.ret (.slr 9 0 0 l.length),[.live 9 true false (l.map Ac.cells)]):=by
 have h1:(l.map Ac.cells).isEmpty=false:=by cases l<;>simp_all
 have h2:l.map Ac.cells≠[]:=by simpa using hne
 have h3:((l.map Ac.cells).length≤549755813888)=True:=eq_true (by simp;omega)
 have hs:Bt 9 true nn (l.map Ac.cells)=.imm 9 true (l.map Ac.cells):=agF h2
 rw[hs]
 have h4:=fun(h:Aa) a b r len=>a7R (n:=9) (h:=h) (nfl:=true) (a:=a) (b:=b) (r:=r) (len:=len) h2
 simp only[ahF]at h3
 (refine ce Tryz.func56 ?_;simp only[Tryz.f56];(have hb:=trivial;with_reducible repeat' (first|simp only[hb,Vc.down,seval,be8.down,h3,h4,ahF]|refine Au ?_ ?_<;>intro hb|refine fd ?_|fail)))
theorem a5U{w:Ah}{N:Nat}(hw:WOk w N)(h12:w.parts.length≤12)(hs:w.small)(d:Int)(hb0:(Gl w&&Nl d)=true){i:Nat}{p:Ac}(hp:w.parts[i]?=some p){k:Int}(hk:k=1∨k=2∨k=3∨k=4)(b:Bool):
 (am5 p (Av p d,p.opn) k=false→Ef.call (.fn 24) [.agg [.int .i64 w.rooms,.int .i64 w.need,Bt 9 true w.nn (w.parts.map Ac.cells)],.int .i64 d,.agg [.int .i64 k,.int .i64 (i:Int)],.bool b] []=some (.ret (.tup [.agg [.int .i64 0,.int .i64 0,.nils],.int .i64 0,.int .i64 6]),[]))∧
 (am5 p (Av p d,p.opn) k=true→Ll w N (Ab w d) k i b (Av p d,p.opn)=false→Ef.call (.fn 24) [.agg [.int .i64 w.rooms,.int .i64 w.need,Bt 9 true w.nn (w.parts.map Ac.cells)],.int .i64 d,.agg [.int .i64 k,.int .i64 (i:Int)],.bool b] []=some (.ret (.tup [.agg [.int .i64 0,.int .i64 0,.nils],.int .i64 0,.int .i64 7]),[]))∧
 (am5 p (Av p d,p.opn) k=true→Ll w N (Ab w d) k i b (Av p d,p.opn)=true→∃wf,Ef.call (.fn 24) [.agg [.int .i64 w.rooms,.int .i64 w.need,Bt 9 true w.nn (w.parts.map Ac.cells)],.int .i64 d,.agg [.int .i64 k,.int .i64 (i:Int)],.bool b] []=some (.ret (.tup [.agg [.int .i64 w.rooms,.int .i64 w.need,.slr 9 0 0 w.parts.length],.int .i64 (if k=3 then p.test else if k=4 then p.change else 1),.int .i64 0]),[.live 9 true wf ((w.parts.set i (Pe p d k b)).map Ac.cells)])):=by
 have hil:i<w.parts.length:=(ay8.1 hp).1
 have h1:=aQ3 w hs d
 rw[hb0]at h1
 have hpc:=aKN w d false h12
 have hx:=ay3 (d:=d) hp
 have hL:=azW (d:=d) h12
 have h2:=a5K p (Av p d,p.opn) hk
 have h3:=a0G hw h12 d hL hx hk b false
 have d1:decide (k<1)=false:=decide_eq_false (by omega)
 have d2:decide (k>4)=false:=decide_eq_false (by omega)
 have hin:=aC1 (i:Int) 0 (IntKind.i64.wrap ((w.parts.length:Int)-1))
 have d3:Ht (i:Int) 0 (IntKind.i64.wrap ((w.parts.length:Int)-1))=true:=by
  rw[Ez (by omega) (by omega)]
  simp[Ht];omega
 rw[d3]at hin
 have hrow:(w.parts.map Ac.cells)[i]?=some p.cells:=by rw[aN3,hp];rfl
 have htk:=aAD _ _ _ _ hx
 try simp only at htk
 have f0:=Gh (Ab w d)
 have c0:=Gj (Ab w d)
 have v0:=aAF (Ab w d)
 have l0:=az8 (Ab w d)
 have r0:=Pl (Ab w d)
 have p0:=agI (Ab w d)
 have n0:=aCI (Ab w d)
 have i0:=aCL (Ab w d)
 have hpl:(Cj (Ab w d)).length=24:=by rw[Be];omega
 have htk24:=aoR (l:=Cj (Ab w d)) (i:=24) (by omega)
 have hcl:=a2R (nn:=w.nn) hw.ne hw.len
 have hpr:=fun a1 a2 a3 a4 a5 a6 a7 a8 a9=>aRJ ⟨a1,a2,a3,a4,a5,a6,a7,a8,a9⟩ hk
 have i12:((i:Int)<12)=True:=eq_true (by omega)
 have hp24:(i*2+2≤24)=True:=eq_true (by omega)
 have iln:((i:Int)<(w.parts.length:Int))=True:=eq_true (by omega)
 generalize hps:Cj (Ab w d)=ps at *
 generalize am5 p (Av p d,p.opn) k=cb at *
 generalize Ll w N (Ab w d) k i b (Av p d,p.opn)=sb at *
 simp only[Ac.cells]at h2
 refine⟨fun e=>?_,fun e1 e2=>?_,fun e1 e2=>?_⟩
 ·subst e
  (refine ce Tryz.func24 ?_;simp only[Tryz.f24];(have hb:=trivial;with_reducible repeat' (first|simp only[hb,Vc.down,seval,aOI.down,h1,d1,d2,hin,hpc,h2,hp,Ac.cells,htk,f0,c0,v0,l0,r0,p0,n0,i0,hpl,htk24,Dx,i12,hp24,iln,ahF]|refine Au ?_ ?_<;>intro hb|refine fd ?_|fail)))
 ·subst e1 e2
  (refine ce Tryz.func24 ?_;simp only[Tryz.f24];(have hb:=trivial;with_reducible repeat' (first|simp only[hb,Vc.down,seval,aOI.down,h1,d1,d2,hin,hpc,h2,h3,hp,Ac.cells,htk,f0,c0,v0,l0,r0,p0,n0,i0,hpl,htk24,Dx,i12,hp24,iln,ahF]|refine Au ?_ ?_<;>intro hb|refine fd ?_|fail)))
 ·subst e1 e2
  have hset:∀a1 a2 a3 a4 a5 a6 a7 a8 a9,(w.parts.map Ac.cells).set i [.int .i64 a1,.int .i64 a2,.bool a3,.bool a4,.int .i64 a5,.int .i64 a6,.bool a7,.int .i64 a8,.int .i64 a9]=(w.parts.set i ⟨a1,a2,a3,a4,a5,a6,a7,a8,a9⟩).map Ac.cells:=fun a1 a2 a3 a4 a5 a6 a7 a8 a9=>by rw[aHA];rfl
  have hset2:∀q a1 a2 a3 a4 a5 a6 a7 a8 a9,((w.parts.set i q).map Ac.cells).set i [.int .i64 a1,.int .i64 a2,.bool a3,.bool a4,.int .i64 a5,.int .i64 a6,.bool a7,.int .i64 a8,.int .i64 a9]=(w.parts.set i ⟨a1,a2,a3,a4,a5,a6,a7,a8,a9⟩).map Ac.cells:=fun q a1 a2 a3 a4 a5 a6 a7 a8 a9=>by
   rw[show([.int .i64 a1,.int .i64 a2,.bool a3,.bool a4,.int .i64 a5,.int .i64 a6,.bool a7,.int .i64 a8,.int .i64 a9]:List AV)=Ac.cells ⟨a1,a2,a3,a4,a5,a6,a7,a8,a9⟩from rfl,←aHA,List.set_set]
  have hget:∀q,(w.parts.set i q)[i]?=some q:=fun q=>aCH hil
  simp only[Ac.cells]at hpr
  obtain⟨p1,p2,p3,p4,p5,p6,p7,p8,p9⟩:=p
  rcases hk with rfl|rfl|rfl|rfl
  ·refine⟨true,?_⟩
   (refine ce Tryz.func24 ?_;simp only[Tryz.f24];(have hb:=trivial;with_reducible repeat' (first|simp only[hb,Vc.down,seval,aOI.down,h1,d1,d2,hin,hpc,h2,h3,hp,Ac.cells,htk,f0,c0,v0,l0,r0,p0,n0,i0,hpl,htk24,Dx,i12,hp24,iln,hcl,hpr,hset,hset2,hget,ahF]|refine Au ?_ ?_<;>intro hb|refine fd ?_|fail)))
   rfl
  ·refine⟨true,?_⟩
   (refine ce Tryz.func24 ?_;simp only[Tryz.f24];(have hb:=trivial;with_reducible repeat' (first|simp only[hb,Vc.down,seval,aOI.down,h1,d1,d2,hin,hpc,h2,h3,hp,Ac.cells,htk,f0,c0,v0,l0,r0,p0,n0,i0,hpl,htk24,Dx,i12,hp24,iln,hcl,hpr,hset,hset2,hget,ahF]|refine Au ?_ ?_<;>intro hb|refine fd ?_|fail)))
   rfl
  ·cases b
   ·refine⟨true,?_⟩
    (refine ce Tryz.func24 ?_;simp only[Tryz.f24];(have hb:=trivial;with_reducible repeat' (first|simp only[hb,Vc.down,seval,aOI.down,h1,d1,d2,hin,hpc,h2,h3,hp,Ac.cells,htk,f0,c0,v0,l0,r0,p0,n0,i0,hpl,htk24,Dx,i12,hp24,iln,hcl,hpr,hset,hset2,hget,ahF]|refine Au ?_ ?_<;>intro hb|refine fd ?_|fail)))
    rfl
   ·refine⟨true,?_⟩
    (refine ce Tryz.func24 ?_;simp only[Tryz.f24];(have hb:=trivial;with_reducible repeat' (first|simp only[hb,Vc.down,seval,aOI.down,h1,d1,d2,hin,hpc,h2,h3,hp,Ac.cells,htk,f0,c0,v0,l0,r0,p0,n0,i0,hpl,htk24,Dx,i12,hp24,iln,hcl,hpr,hset,hset2,hget,ahF]|refine Au ?_ ?_<;>intro hb|refine fd ?_|fail)))
    rfl
  ·refine⟨true,?_⟩
   (refine ce Tryz.func24 ?_;simp only[Tryz.f24];(have hb:=trivial;with_reducible repeat' (first|simp only[hb,Vc.down,seval,aOI.down,h1,d1,d2,hin,hpc,h2,h3,hp,Ac.cells,htk,f0,c0,v0,l0,r0,p0,n0,i0,hpl,htk24,Dx,i12,hp24,iln,hcl,hpr,hset,hset2,hget,ahF]|refine Au ?_ ?_<;>intro hb|refine fd ?_|fail)))
   rfl
theorem aXA(w:Ah)(i:Int):Ef.call (.fn 19) [.agg [.int .i64 w.rooms,.int .i64 w.need,Bt 9 true w.nn (w.parts.map Ac.cells)],.int .i64 i] []=some (.ret (.bool (Ht i 0 (IntKind.i64.wrap ((w.parts.length:Int)-1)))),[]):=by
 have h:=aJZ i 0 (IntKind.i64.wrap ((w.parts.length:Int)-1))
 (refine ce Tryz.func19 ?_;simp only[Tryz.f19];(have hb:=trivial;with_reducible repeat' (first|simp only[hb,Vc.down,seval,bfZ.down,h,ahF]|refine Au ?_ ?_<;>intro hb|refine fd ?_|fail)))
theorem bd3(w:Ah)(k i:Int):Ef.call (.fn 26) [.agg [.int .i64 w.rooms,.int .i64 w.need,Bt 9 true w.nn (w.parts.map Ac.cells)],.agg [.int .i64 k,.int .i64 i]] []=some (.ret (.bool (opB w k i)),[]):=by
 have h:=aXA w i
 have ho:opB w k i=(decide (1≤k)&&decide (k≤4)&&Ht i 0 (IntKind.i64.wrap ((w.parts.length:Int)-1))):=rfl
 rw[ho]
 generalize Ht i 0 (IntKind.i64.wrap ((w.parts.length:Int)-1))=c at *
 cases c
 ·(refine ce Tryz.func26 ?_;simp only[Tryz.f26];(have hb:=trivial;with_reducible repeat' (first|simp only[hb,Vc.down,seval,a9D.down,h,ahF]|refine Au ?_ ?_<;>intro hb|refine fd ?_|fail)))
  try simp
 ·cases d1:decide (1≤k)
  ·(refine ce Tryz.func26 ?_;simp only[Tryz.f26];(have hb:=trivial;with_reducible repeat' (first|simp only[hb,Vc.down,seval,a9D.down,h,d1,ge_iff_le,ahF]|refine Au ?_ ?_<;>intro hb|refine fd ?_|fail)))
  ·(refine ce Tryz.func26 ?_;simp only[Tryz.f26];(have hb:=trivial;with_reducible repeat' (first|simp only[hb,Vc.down,seval,a9D.down,h,d1,ge_iff_le,ahF]|refine Au ?_ ?_<;>intro hb|refine fd ?_|fail)))
   try simp
def aJS(p:Ac)(d k:Int):Bool:=if k=1 then p.valve&& !p.opn else if k=2 then p.opn else if k=3 then !p.opn&&Av p d==1 else !p.opn
def Jp(w:Ah)(i:Nat)(q:Ac):Ah:={ w with nn:=true,parts:=w.parts.set i q }
theorem Jl(w:Ah)(i:Nat)(q:Ac):(Jp w i q).parts.length=w.parts.length:=by simp[Jp]
theorem aDZ{w:Ah}{d:Int}{i:Nat}{q:Ac}(hi:i<w.parts.length):Ab (Jp w i q) d=(Ab w d).set i (Av q d,q.opn):=by
 unfold Ab
 rw[Jl,List.set_append_left _ _ (by simpa using hi),←aHA]
 rfl
theorem aXD{w:Ah}{i:Nat}{p q:Ac}(hp:w.parts[i]?=some p)(h1:q.one=p.one)(h2:q.other=p.other)(ts:List Bool):edg (Jp w i q) ts=edg w ts:=by
 unfold edg Jp
 apply aHN
 intro j
 simp only[aN4]
 by_cases e:i=j
 ·subst e
  rw[aCH (ay8.1 hp).1,hp]
  cases ts[i]? with
  |none=>rfl
  |some t=>simp only[h1,h2]
 ·rw[aHP e]
theorem aLD{w:Ah}{N:Nat}{i:Nat}{p q:Ac}(hp:w.parts[i]?=some p)(h1:q.one=p.one)(h2:q.other=p.other)(L:List (Int × Bool)):nmB (Jp w i q) N L=nmB w N L:=by
 unfold nmB
 rw[aXD hp h1 h2,Jl]
theorem aSI{w:Ah}{N:Nat}{d:Int}{i:Nat}{p q:Ac}(hp:w.parts[i]?=some p)(h1:q.one=p.one)(h2:q.other=p.other):aVM (Jp w i q) N d=nmB w N ((Ab w d).set i (Av q d,q.opn)):=by
 rw[←aPW,aDZ (ay8.1 hp).1,aLD hp h1 h2]
theorem aHT{w:Ah}(h:Gl w=true){i:Nat}{q:Ac}(hq:Gx w.rooms q=true):Gl (Jp w i q)=true:=by
 simp only[Gl,aNW,aoS]at h ⊢
 obtain⟨⟨⟨h1,h2⟩,h3⟩,h4⟩:=h
 refine⟨⟨⟨h1,h2⟩,by rw[Jl];exact h3⟩,?_⟩
 rw[azV]at h4 ⊢
 intro x hx
 rcases aHR hx with hx|rfl
 ·exact h4 x hx
 ·exact hq
theorem aGB{w:Ah}(hs:w.small){i:Nat}{q:Ac}(hq:q.fits):(Jp w i q).small:=⟨by rw[Jl];exact hs.parts,fun x hx=>by
 rcases aHR hx with hx|rfl
 ·exact hs.fits x hx
 ·exact hq,hs.rooms,hs.need⟩
theorem a4Q{w:Ah}{N:Nat}(hw:WOk w N){L:List (Int × Bool)}{i:Nat}{x y:Int × Bool}(hi:i<L.length)(hxy:tgB x=true→tgB y=true):nmB w N (L.set i x)≤nmB w N (L.set i y):=by
 have n2:=hw.n2
 have n8:=hw.n8
 have get:∀(z:Int × Bool) (j:Nat),(edg w (tgt (L.set i z)))[j]?=(w.parts[j]?).bind fun p=>(L[j]?).map fun u=>(p.one.toNat,p.other.toNat,if tgB (if i=j then z else u)=true then 1 else 0):=fun z j=>by
  unfold edg tgt
  rw[aN4,aN3]
  by_cases e:i=j
  ·subst e
   rw[aCH hi,aAO hi]
   cases w.parts[i]?<;>simp
  ·rw[aHP e]
   cases w.parts[j]? with
   |none=>rfl
   |some p=>cases L[j]?<;>simp[e]
 refine aY4 n2 (by omega) (aGC hw _) (aGC hw _) (fun a b c' hc=>?_) (fun a b c hc=>?_)
 ·obtain⟨j,hj⟩:=aI5 hc
  rw[get]at hj
  obtain⟨p,h1,hj⟩:=aO4.1 hj
  obtain⟨u,h2,hj⟩:=aG2.1 hj
  refine⟨if tgB (if i=j then x else u)=true then 1 else 0,azO (i:=j) ?_,?_⟩
  ·rw[get,h1,h2]
   simp only[ad8,apA,aJ8.injEq,Prod.mk.injEq]at hj ⊢
   exact⟨hj.1,hj.2.1,trivial⟩
  ·simp only[Prod.mk.injEq]at hj
   rw[←hj.2.2]
   by_cases e:i=j
   ·rw[if_pos e,if_pos e]
    by_cases t:tgB x=true
    ·rw[if_pos t,if_pos (hxy t)];exact Nat.le_refl _
    ·rw[if_neg t];exact Nat.zero_le _
   ·rw[if_neg e,if_neg e];exact Nat.le_refl _
 ·obtain⟨j,hj⟩:=aI5 hc
  rw[get]at hj
  obtain⟨p,h1,hj⟩:=aO4.1 hj
  obtain⟨u,h2,hj⟩:=aG2.1 hj
  refine⟨if tgB (if i=j then y else u)=true then 1 else 0,azO (i:=j) ?_⟩
  rw[get,h1,h2]
  simp only[ad8,apA,aJ8.injEq,Prod.mk.injEq]at hj ⊢
  exact⟨hj.1,hj.2.1,trivial⟩
theorem aZU{α:Type}{L:List α}{i:Nat}{x:α}(hx:L[i]?=some x):L.set i x=L:=by
 apply aHN
 intro j
 by_cases e:i=j
 ·subst e;rw[aCH (ay8.1 hx).1,hx]
 ·rw[aHP e]
theorem aBB{w:Ah}(h:Gl w=true){i:Nat}{p:Ac}(hp:w.parts[i]?=some p):Gx w.rooms p=true:=by
 simp only[Gl,aoS,azV]at h
 exact h.2 p (azO hp)
theorem aMN{N:Int}{p:Ac}(h:Gx N p=true):(p.opn=true→p.valve=true)∧0≤p.tested∧p.tested≤5000∧0≤p.valid∧p.valid≤5000∧1≤p.test∧1≤p.change:=by
 simp only[Gx,Nl,Ht,aoS,decide_eq_true_eq,Bool.not_eq_true',Bool.and_eq_false_iff,Bool.not_eq_false']at h
 obtain⟨⟨⟨⟨⟨⟨⟨a1,a2⟩,a3⟩,a4⟩,a5⟩,a6⟩,a7⟩,a8⟩:=h
 refine⟨fun e=>?_,a5.1,a5.2,a6.1,a6.2,a7.1,a8.1⟩
 rcases a4 with a4|a4
 ·rw[e]at a4;cases a4
 ·exact a4
theorem aPD{w:Ah}(h:Gl w=true){i:Nat}{p:Ac}(hp:w.parts[i]?=some p)(d k:Int):am5 p (Av p d,p.opn) k=aJS p d k:=by
 have hv:=(aMN (aBB h hp)).1
 unfold am5 aJS
 by_cases k1:k=1
 ·rw[if_pos k1,if_pos k1]
 by_cases k2:k=2
 ·rw[if_neg k1,if_neg k1,if_pos k2,if_pos k2]
  cases ho:p.opn
  ·simp
  ·simp[hv ho]
 rw[if_neg k1,if_neg k1,if_neg k2,if_neg k2]
def aLX(p:Ac)(k:Int):Ac:=if k=1 then { p with opn:=true }else if k=4 then { p with bad:=true }else p
theorem aM1(p:Ac)(k:Int):(aLX p k).one=p.one∧(aLX p k).other=p.other:=by
 unfold aLX
 split
 ·exact⟨rfl,rfl⟩
 ·split<;>exact⟨rfl,rfl⟩
theorem a0B(p:Ac)(d k:Int)(b:Bool):(Pe p d k b).one=p.one∧(Pe p d k b).other=p.other:=by
 unfold Pe
 split
 ·exact⟨rfl,rfl⟩
 ·split
  ·exact⟨rfl,rfl⟩
  ·split
   ·split<;>exact⟨rfl,rfl⟩
   ·exact⟨rfl,rfl⟩
theorem aLA{N:Int}{p:Ac}(h:Gx N p=true){d k:Int}(hd:Nl d=true)(hc:aJS p d k=true)(b:Bool):Gx N (Pe p d k b)=true:=by
 unfold Pe
 split
 ·rename_i e
  subst e
  simp only[aJS,if_true,aoS]at hc
  simp only[Gx,hc.1,aoS]at h ⊢
  simpa using h
 ·split
  ·simp only[Gx,aoS]at h ⊢
   simp only[Bool.false_and,Bool.not_false]
   simp_all
  ·split
   ·split
    ·simp only[Gx,aoS]at h ⊢
     simp_all
    ·exact h
   ·simp only[Gx,aoS]at h ⊢
    simp_all
theorem aMR{p:Ac}{d:Int}(hd:Nl d=true)(hv:0≤p.valid∧p.valid≤5000):Av { p with bad:=false,tested:=d } d=0:=by
 simp only[Nl,Ht,aoS,decide_eq_true_eq]at hd
 simp only[Av,aA5,if_false]
 rw[Ez (by omega) (by omega),if_neg (by omega)]
theorem aSP{N:Int}{p:Ac}(h:Gx N p=true){d k:Int}(hk:k=1∨k=2∨k=3∨k=4)(hd:Nl d=true)(b:Bool):(Av (Pe p d k b) d,(Pe p d k b).opn)=Da k b (Av p d,p.opn):=by
 obtain⟨_,_,_,h4,h5,_⟩:=aMN h
 rcases hk with rfl|rfl|rfl|rfl
 ·rfl
 ·rfl
 ·cases b
  ·show(Av { p with bad:=true } d,p.opn)=(2,p.opn)
   simp[Av]
  ·show(Av { p with bad:=false,tested:=d } d,p.opn)=(0,p.opn)
   rw[aMR hd ⟨h4,h5⟩]
 ·show(Av { p with bad:=false,tested:=d } d,p.opn)=(0,p.opn)
  rw[aMR hd ⟨h4,h5⟩]
theorem aR4(p:Ac)(d k:Int):(Av (aLX p k) d,(aLX p k).opn)=if k=1 then(Av p d,true)else if k=4 then(2,p.opn)else(Av p d,p.opn):=by
 unfold aLX
 split
 ·rfl
 ·split
  ·simp[Av]
  ·rfl
theorem a5A{w:Ah}{N:Nat}{d:Int}{i:Nat}{p:Ac}(hp:w.parts[i]?=some p)(k:Int):aVM (Jp w i (aLX p k)) N d=nmB w N ((Ab w d).set i (if k=1 then(Av p d,true)else if k=4 then(2,p.opn)else(Av p d,p.opn))):=by
 rw[aSI hp (aM1 p k).1 (aM1 p k).2,aR4]
theorem aYB(w:Ah)(N:Nat)(L:List (Int × Bool)):Iu w N L≤(nmB w N L:Int)∧Iu w N L≤w.need:=by
 unfold Iu
 split<;>omega
theorem aKI{w:Ah}{N:Nat}(hw:WOk w N)(h12:w.parts.length≤12){d:Int}{i:Nat}{p:Ac}(hp:w.parts[i]?=some p){k:Int}(hk:k=1∨k=2∨k=3∨k=4)(b:Bool)(hc:aJS p d k=true):
 Ll w N (Ab w d) k i b (Av p d,p.opn)=decide ((aVM (Jp w i (aLX p k)) N d:Int)≥Iu w N (Ab w d)):=by
 have hx:=ay3 (d:=d) hp
 have hil:i<(Ab w d).length:=(ay8.1 hx).1
 have hll:=(aYB w N (Ab w d)).1
 rw[a5A hp]
 unfold Ll
 have mono:=fun x y=>a4Q (x:=x) (y:=y) hw hil
 have hself:=aZU hx
 generalize Iu w N (Ab w d)=lb at *
 generalize Ab w d=L at *
 rcases hk with rfl|rfl|rfl|rfl
 ·rfl
 ·have h1:=mono (Av p d,p.opn) (Av p d,false) (by simp[tgB];exact fun h _=>h)
  rw[hself]at h1
  have e1:Da 2 b (Av p d,p.opn)=(Av p d,false):=rfl
  simp only[e1,hself,aD5,if_false]
  rw[decide_eq_true (by omega:(nmB w N (L.set i (Av p d,false)):Int)≥lb),decide_eq_true (by omega:(nmB w N L:Int)≥lb)]
  rfl
 ·simp only[aJS,aD5,if_false,if_true,aoS,beq_iff_eq]at hc
  have h1:=mono (Av p d,p.opn) (Da 3 b (Av p d,p.opn)) (by simp[tgB,hc.2])
  rw[hself]at h1
  simp only[hself,aD5,if_false]
  rw[decide_eq_true (by omega:(nmB w N (L.set i (Da 3 b (Av p d,p.opn))):Int)≥lb),decide_eq_true (by omega:(nmB w N L:Int)≥lb)]
  rfl
 ·have h1:=mono (2,p.opn) (Da 4 b (Av p d,p.opn)) (by simp[tgB])
  simp only[aD5,if_false,if_true]
  by_cases hq:(nmB w N (L.set i (2,p.opn)):Int)≥lb
  ·rw[decide_eq_true hq,decide_eq_true (by omega:(nmB w N (L.set i (Da 4 b (Av p d,p.opn))):Int)≥lb),decide_eq_false (by omega)]
   rfl
  ·rw[decide_eq_false hq,decide_eq_true (by omega:(nmB w N (L.set i (2,p.opn)):Int)<lb)]
   rfl
theorem a2L{w:Ah}{N:Nat}(hw:WOk w N){i:Nat}{p q:Ac}(hp:w.parts[i]?=some p)(h1:q.one=p.one)(h2:q.other=p.other):WOk (Jp w i q) N:=
 ⟨hw.rooms,hw.n2,hw.n8,by rw[Jl];exact hw.len,fun e=>hw.ne (by have:=congrArg List.length e;rw[Jl]at this;exact List.length_eq_zero_iff.1 this),fun x hx=>by
   rcases aHR hx with hx|rfl
   ·exact hw.part x hx
   ·rw[h1,h2];exact hw.part p (azO hp)⟩
theorem bbL{av:AV}(h:TyV Tryz.prog 7 36 av):∃k i:Int,av=.agg [.int .i64 k,.int .i64 i]:=by
 unfold TyV at h
 simp only[Tryz.underlying36]at h
 obtain⟨cs,rfl,h⟩:=h
 unfold Ty at h
 simp only[Tryz.underlying36,aOC]at h
 obtain⟨a2,b2,rfl,h2,a3,b3,rfl,h3,rfl⟩:=h
 simp only[Ty,Tryz.underlying34]at h2
 obtain⟨k,rfl,_⟩:=h2
 obtain⟨i,rfl,_⟩:=Np h3
 exact⟨k,i,rfl⟩
abbrev St:=List (Int × Bool) × Nat
def Bv(s:St):List AV:=Cj s.1++[.int .i64 (s.2:Int)]
def aAY(p:Ac)(k:Int):Int:=if k=3 then p.test else if k=4 then p.change else 1
structure Jr where
 k:Int
 i:Nat
 c:Int
 to:List St
def toF(L:List (Int × Bool))(f:Nat)(k:Int)(i:Nat)(x:Int × Bool):List St:=(L.set i (Da k true x),f)::if k=3∧0<f then [(L.set i (Da k false x),f-1)]else []
def ay7(w:Ah)(N:Nat)(s:St)(k:Int)(i:Nat):Option Jr:=
 match w.parts[i]?,s.1[i]? with
 |some p,some x=>if(am5 p x k&&Ll w N s.1 k i true x)=true then some ⟨k,i,aAY p k,toF s.1 s.2 k i x⟩else none
 |_,_=>none
def ai3(w:Ah)(N:Nat)(s:St)(k:Int):List Jr:=(List.range w.parts.length).filterMap (ay7 w N s k)
def Cm(w:Ah)(N:Nat)(s:St):List Jr:=ai3 w N s 1++(ai3 w N s 2++(ai3 w N s 3++ai3 w N s 4))
structure Ep where
 part:Int
 opn:Bool
 good:Bool
def Ep.cells(x:Ep):List AV:=[.int .i64 x.part,.bool x.opn,.bool x.good]
def aCS(L:List (Int × Bool))(x:Ep):Bool:=match L[x.part.toNat]? with
 |some q=>q.2==x.opn&&(!x.good||q.1==0)
 |none=>false
def aEA(L:List (Int × Bool))(l:List Ep):Bool:=l.all (aCS L)
def Ly(w:Ah)(N:Nat)(l:List Ep):Go.Ev.Sys St:=⟨fun s=>aEA s.1 l,fun s=>(Cm w N s).map fun o=>(o.c.toNat,o.to)⟩
theorem Il{s:St}(h:s.1.length=12):(Bv s).length=25:=by simp[Bv,Be,h]
theorem Gi(s:St):(Bv s).all AV.flat=true:=by
 unfold Bv;rw[aPI,Gh];rfl
theorem Gu(s:St):(Bv s).all AV.isCell=true:=by
 unfold Bv;rw[aPI,Gj];rfl
theorem aF3{L:List (Int × Bool)}{i:Nat}{x:Int × Bool}(h:L[i]?=some x):Js.partOf Tryz.prog 80 (Cj L) (i*2)=some (.agg [.int .i64 x.1,.bool x.2]):=by
 have h1:Po Tryz.prog 80=some true:=by kernel_rfl
 have h2:Ks Tryz.prog 80=some 2:=by kernel_rfl
 obtain⟨a,b⟩:=x
 simp only[Js.partOf,h1,h2,ad8,if_true,apA,aAD L i a b h]
theorem aSX(d:Nat)(x y:Int × Bool):Js Tryz.prog (d+2) 80 (.agg [.int .i64 x.1,.bool x.2]) (.agg [.int .i64 y.1,.bool y.2])=some (decide (x=y)):=by
 have h0:Tryz.prog.stoodInHeld 80=false:=by kernel_rfl
 have h1:Po Tryz.prog 78=some false:=by kernel_rfl
 have h2:Po Tryz.prog 4=some false:=by kernel_rfl
 unfold Js
 simp only[Tryz.underlying80,h0,aA5,if_false,Js.eqL,Js.partOf,h1,h2,ad8,aRB,aKE]
 unfold Js
 simp only[Tryz.underlying78,Tryz.underlying4,if_true,ad8]
 obtain⟨a,b⟩:=x
 obtain⟨c,e⟩:=y
 by_cases q1:a=c<;>by_cases q2:b=e<;>simp[q1,q2]
theorem aRI(d:Nat){a b:List (Int × Bool)}(ha:a.length=12)(hb:b.length=12):∀l:List Nat,(∀i∈l,i<12)→Js.eqA Tryz.prog (Js Tryz.prog (d+2) 80) 80 2 (Cj a) (Cj b) l=some (decide (∀i∈l,a[i]?=b[i]?))
 | [],_=>by simp[Js.eqA]
 |i::l,h=>by
  have hi:=h i (by simp)
  have e1:a[i]?=some a[i]:=aAO (by omega)
  have e2:b[i]?=some b[i]:=aAO (by omega)
  have ih:=aRI d ha hb l fun j hj=>h j (aKF _ hj)
  simp only[Js.eqA,aF3 e1,aF3 e2,ad8,aSX,ih]
  by_cases q:a[i]=b[i]
  ·simp[q,e1,e2]
  ·simp[q,e1,e2]
theorem a6C{a b:St}(ha:a.1.length=12)(hb:b.1.length=12):Js Tryz.prog 12 85 (.agg (Bv a)) (.agg (Bv b))=some (decide (a=b)):=by
 have h0:Tryz.prog.stoodInHeld 85=false:=by kernel_rfl
 have h1:Po Tryz.prog 82=some true:=by kernel_rfl
 have h2:Po Tryz.prog 3=some false:=by kernel_rfl
 have h3:Ks Tryz.prog 82=some 24:=by kernel_rfl
 have h4:Ks Tryz.prog 80=some 2:=by kernel_rfl
 have tk:∀s:St,s.1.length=12→awL 24 (Bv s)=Cj s.1:=fun s h=>by
  unfold Bv;rw[aRT (by rw[Be];omega),aoR (by rw[Be];omega)]
 have gt:∀s:St,s.1.length=12→(Bv s)[24]?=some (.int .i64 (s.2:Int)):=fun s h=>by
  unfold Bv;rw[aSF (by rw[Be];omega),Be,h];rfl
 have hA:Js Tryz.prog 11 82 (.agg (Cj a.1)) (.agg (Cj b.1))=some (decide (a.1=b.1)):=by
  unfold Js
  simp only[Tryz.underlying82,h4,ad8]
  rw[aRI 8 ha hb (List.range 12) (fun i hi=>aKP.1 hi)]
  congr 1
  rw[decide_eq_decide]
  constructor
  ·intro h
   refine aHN fun i=>?_
   by_cases hi:i<12
   ·exact h i (aKP.2 hi)
   ·rw[aS5 (by omega),aS5 (by omega)]
  ·intro h i _;rw[h]
 have hI:Js Tryz.prog 11 3 (.int .i64 (a.2:Int)) (.int .i64 (b.2:Int))=some (decide (a.2=b.2)):=by
  unfold Js
  simp only[Tryz.underlying3,if_true]
  congr 1
  rw[Bool.eq_iff_iff];simp;omega
 unfold Js
 simp only[Tryz.underlying85,h0,aA5,if_false,Js.eqL,Js.partOf,h1,h2,h3,ad8,if_true,apA,aTY,tk a ha,tk b hb,gt a ha,gt b hb,hA,hI]
 obtain⟨x,f⟩:=a
 obtain⟨y,g⟩:=b
 by_cases q1:x=y<;>by_cases q2:f=g<;>simp[q1,q2]
def Dl(kvs:List AV):CB:=.lp [] .skip .skip kvs .map
def Eu(L:List St)(v:St→AV):List AV:=L.flatMap fun s=>[.agg (Bv s),v s]
def Twl(L:List St):Prop:=∀s∈L,s.1.length=12
theorem aO6(d:Nat)(x:Int × Bool):ai5 Tryz.prog (d+2) 80 (.agg [.int .i64 x.1,.bool x.2])=true:=by
 have h1:Po Tryz.prog 78=some false:=by kernel_rfl
 have h2:Po Tryz.prog 4=some false:=by kernel_rfl
 unfold ai5
 simp only[Tryz.underlying80,Js.partOf,h1,h2,ad8,List.all_cons,List.all_nil,aA5,if_false,aRB,aKE,apA,aCG]
 unfold ai5
 simp only[Tryz.underlying78,Tryz.underlying4]
 rfl
theorem aAB{s:St}(hs:s.1.length=12):aNK Tryz.prog 85 (.agg (Bv s))=true:=by
 have h1:Po Tryz.prog 82=some true:=by kernel_rfl
 have h2:Po Tryz.prog 3=some false:=by kernel_rfl
 have h3:Ks Tryz.prog 82=some 24:=by kernel_rfl
 have h4:Ks Tryz.prog 80=some 2:=by kernel_rfl
 have tk:awL 24 (Bv s)=Cj s.1:=by
  unfold Bv;rw[aRT (by rw[Be];omega),aoR (by rw[Be];omega)]
 have gt:(Bv s)[24]?=some (.int .i64 (s.2:Int)):=by
  unfold Bv;rw[aSF (by rw[Be];omega),Be,hs];rfl
 have hA:ai5 Tryz.prog 4 82 (.agg (Cj s.1))=true:=by
  unfold ai5
  simp only[Tryz.underlying82,h4,apA,aCG]
  rw[azV]
  intro i hi
  have hi:=aKP.1 hi
  have e1:s.1[i]?=some s.1[i]:=aAO (by omega)
  rw[aF3 e1,apA,aCG,aO6 1]
 have hI:ai5 Tryz.prog 4 3 (.int .i64 (s.2:Int))=true:=by
  unfold ai5
  simp only[Tryz.underlying3]
  rfl
 unfold aNK
 simp only[Gi,Bool.and_true]
 unfold ai5
 simp only[Tryz.underlying85,Js.partOf,h1,h2,h3,ad8,List.all_cons,List.all_nil,aA5,if_false,if_true,apA,aCG,aTY,tk,gt,hA,hI,Bool.and_true]
theorem On{s:St}(hs:s.1.length=12)(v:St→AV):∀(L:List St) (i:Nat),Twl L→aoN Tryz.prog 85 (.agg (Bv s)) (Eu L v) i=some (if s∈L then some (i+L.idxOf s,v s)else none)
 | [],i,_=>rfl
 |a::L,i,h=>by
  have ha:=h a (by simp)
  have ih:=On hs v L (i+1) fun x hx=>h x (aKF _ hx)
  show aoN _ _ _ (.agg (Bv a)::v a::Eu L v) i=_
  simp only[aoN,a6C hs ha,ad8,ih]
  by_cases e:s=a
  ·subst e;simp
  ·have e2:(a==s)=false:=by simp;exact fun h=>e h.symm
   simp only[decide_eq_true_eq,e,if_false,aEG,false_or,aUJ,e2,cond_false,aJ8.injEq]
   split
   ·rw[show i+1+aEM s L=i+(aEM s L+1) by omega]
   ·rfl
theorem aWO(v:St→AV):∀(L:List St) (n:Nat),(Eu L v)[2*n]?=L[n]?.map fun s=>.agg (Bv s)
 | [],n=>rfl
 |a::L,0=>rfl
 |a::L,n+1=>by
  show(.agg (Bv a)::v a::Eu L v)[2*(n+1)]?=_
  rw[show 2*(n+1)=2*n+2 by omega]
  simp only[aKE,aWO v L n]
theorem aXM{v:St→AV}{x:AV}{s:St}:∀{L:List St},L.Nodup→s∈L→(Eu L v).set (2*L.idxOf s+1) x=Eu L fun y=>if y=s then x else v y
 | [],_,h=>by cases h
 |a::L,hn,h=>by
  have hn':=List.nodup_cons.1 hn
  show(.agg (Bv a)::v a::Eu L v).set (2*(a::L).idxOf s+1) x=.agg (Bv a)::(if a=s then x else v a)::Eu L fun y=>if y=s then x else v y
  have same:s∉L→(Eu L fun y=>if y=s then x else v y)=Eu L v:=fun hs=>by
   unfold Eu
   rw[aEX,aEX]
   congr 1
   refine aUO fun y hy=>?_
   simp only[if_neg (show ¬y=s from fun e=>hs (e▸hy))]
  by_cases e:a=s
  ·subst e
   simp[same hn'.1]
  ·have e2:(a==s)=false:=by simpa using e
   rcases aEG.1 h with h|h
   ·exact absurd h.symm e
   ·simp only[aUJ,e2,cond_false,if_neg e]
    rw[show 2*(aEM s L+1)+1=(2*aEM s L+1)+2 by omega]
    simp only[aNR,aXM hn'.2 h]
theorem aRE(s:St):AV.sameKey (.agg (Bv s)) (.agg (Bv s))=true:=by
 have h:∀x∈Bv s,AV.same x x=true:=fun x hx=>by
  unfold Bv at hx
  rcases aUU.1 hx with hx|hx
  ·rcases Ih s.1 x hx with⟨n,rfl⟩|⟨b,rfl⟩<;>simp[AV.same]
  ·simp at hx;subst hx;simp[AV.same]
 simp only[AV.sameKey,beq_self_eq_true,Bool.true_and,azV]
 intro ⟨x,y⟩ hxy
 obtain⟨i,hi⟩:=aI5 hxy
 rw[List.getElem?_zip_eq_some]at hi
 obtain⟨h1,h2⟩:=hi
 simp only at h1 h2
 rw[h1]at h2;cases h2
 exact h x (azO h1)
theorem ahV{h:Aa}{b:Nat}{kvs:List AV}(hb:h[b]?=some (Dl kvs)):Nw (hf h) b=some kvs:=by
 unfold Nw
 rw[show hf h b=some (Dl kvs)from hb];rfl
section
variable {h:Aa} {b:Nat} {L:List St} {v:St→AV} {s:St}
theorem aJL(hb:h[b]?=some (Dl (Eu L v)))(hL:Twl L)(hs:s∈L):lk Tryz.prog h 86 (some (.mapr b)) (some (.agg (Bv s))) false=some (.ret (v s),[]):=by
 have hz:Ew Tryz.prog 3=some (.int .i64 0):=by kernel_rfl
 simp only[lk,ad8,En,Tryz.underlying86,aAB (hL s hs),if_true,ahV hb,On (hL s hs) v L 0 hL,if_pos hs,hz,cond_false]
 rfl
theorem a9C(hb:h[b]?=some (Dl (Eu L v)))(hL:Twl L)(hs:s∈L):lk Tryz.prog h 86 (some (.mapr b)) (some (.agg (Bv s))) true=some (.ret (.tup [v s,.bool true]),[]):=by
 have hz:Ew Tryz.prog 3=some (.int .i64 0):=by kernel_rfl
 simp only[lk,ad8,En,Tryz.underlying86,aAB (hL s hs),if_true,ahV hb,On (hL s hs) v L 0 hL,if_pos hs,hz,cond_true]
 rfl
theorem bbB(hb:h[b]?=some (Dl (Eu L v)))(hL:Twl L)(h12:s.1.length=12)(hs:s∉L):lk Tryz.prog h 86 (some (.mapr b)) (some (.agg (Bv s))) true=some (.ret (.tup [.int .i64 0,.bool false]),[]):=by
 have hz:Ew Tryz.prog 3=some (.int .i64 0):=by kernel_rfl
 simp only[lk,ad8,En,Tryz.underlying86,aAB h12,if_true,ahV hb,On h12 v L 0 hL,if_neg hs,hz,cond_true]
 rfl
theorem aO5(hb:h[b]?=some (Dl (Eu L v)))(hL:Twl L)(hs:s∈L):lk Tryz.prog h 87 (some (.mapr b)) (some (.agg (Bv s))) false=some (.ret (v s),[]):=by
 have hz:Ew Tryz.prog 91=some .nils:=by kernel_rfl
 simp only[lk,ad8,En,Tryz.underlying87,aAB (hL s hs),if_true,ahV hb,On (hL s hs) v L 0 hL,if_pos hs,hz,cond_false]
 rfl
theorem aOK(hb:h[b]?=some (Dl (Eu L v)))(hL:Twl L)(hn:L.Nodup)(hs:s∈L)(x:AV):ms Tryz.prog h 86 (some (.mapr b)) (some (.agg (Bv s))) (some x)=some (.ret (.tup []),[.put b (Dl (Eu L fun y=>if y=s then x else v y))]):=by
 have hi:L[L.idxOf s]?=some s:=by
  rw[aAO (List.idxOf_lt_length_of_mem hs)];simp
 simp only[ms,ad8,Gp,Tryz.underlying86,aAB (hL s hs),if_true,ahV hb,On (hL s hs) v L 0 hL,if_pos hs,Nat.zero_add,aWO,hi,apA,aCG,aRE,aXM hn hs]
 rfl
theorem aX8(hs:s∉L)(x:AV):Eu L v++[.agg (Bv s),x]=Eu (L++[s]) fun y=>if y=s then x else v y:=by
 unfold Eu
 rw[List.flatMap_append]
 congr 1
 ·rw[aEX,aEX]
  congr 1
  refine aUO fun y hy=>?_
  simp only[if_neg (show ¬y=s from fun e=>hs (e▸hy))]
 ·simp
theorem a8S(hb:h[b]?=some (Dl (Eu L v)))(hL:Twl L)(h12:s.1.length=12)(hs:s∉L)(x:AV):ms Tryz.prog h 86 (some (.mapr b)) (some (.agg (Bv s))) (some x)=some (.ret (.tup []),[.put b (Dl (Eu (L++[s]) fun y=>if y=s then x else v y))]):=by
 rw[←aX8 hs]
 simp only[ms,ad8,Gp,Tryz.underlying86,aAB h12,if_true,ahV hb,On h12 v L 0 hL,if_neg hs]
 rfl
theorem a82(hb:h[b]?=some (Dl (Eu L v)))(hL:Twl L)(h12:s.1.length=12)(hs:s∉L)(x:AV):ms Tryz.prog h 87 (some (.mapr b)) (some (.agg (Bv s))) (some x)=some (.ret (.tup []),[.put b (Dl (Eu (L++[s]) fun y=>if y=s then x else v y))]):=by
 rw[←aX8 hs]
 simp only[ms,ad8,Gp,Tryz.underlying87,aAB h12,if_true,ahV hb,On h12 v L 0 hL,if_neg hs]
 rfl
end
def Di:Nat:=1099511627776
def Oj(f:St→Nat)(s:St):AV:=.int .i64 (f s:Int)
theorem a3D(f:St→Nat)(x:St)(m:Nat):(if((f x:Nat):Int)>(m:Int)then((f x:Nat):Int)else(m:Int))=((max m (f x):Nat):Int):=by split<;>omega
theorem a18(L:List St)(f:St→Nat)(d:Nat)(m:List Nat):Bd.refL (Bd (d+2)) m (Eu L (Oj f))=some (Eu L (Oj f),m):=Fg fun x hx=>by
 unfold Eu at hx
 obtain⟨s,_,hx⟩:=aU0.1 hx
 simp only[aEG,aU1,or_false]at hx
 rcases hx with rfl|rfl
 ·have:∀y∈Bv s,Bd (d+1) m y=some (y,m):=fun y hy=>by
   unfold Bv at hy
   rcases aUU.1 hy with hy|hy
   ·rcases Ih s.1 y hy with⟨n,rfl⟩|⟨b,rfl⟩<;>rfl
   ·simp at hy;subst hy;rfl
  show(Bd.refL (Bd (d+1)) m (Bv s)).map _=_
  rw[Fg this];rfl
 ·rfl
theorem Ls(L:List St)(f:St→Nat)(m:List Nat):aBW m (Dl (Eu L (Oj f)))=some (Dl (Eu L (Oj f)),m):=by
 simp[Dl,aBW,a18 L f 6]
theorem aI2:∀(l:List AV),(∀x∈l,AV.sameKey x x=true)→AV.sameL l l=true
 | [],_=>rfl
 |x::l,h=>by simp only[AV.sameL,h x (by simp),aI2 l fun y hy=>h y (aKF _ hy),Bool.and_self]
theorem Pv(L:List St)(f:St→Nat):CB.same (Dl (Eu L (Oj f))) (Dl (Eu L (Oj f)))=true:=aI2 _ fun x hx=>by
 unfold Eu at hx
 obtain⟨s,_,hx⟩:=aU0.1 hx
 simp only[aEG,aU1,or_false]at hx
 rcases hx with rfl|rfl
 ·exact aRE s
 ·simp[Oj,AV.sameKey,AV.same]
theorem Pg(kvs:List AV):(Dl kvs).clean=Dl kvs:=Eq.trans rfl rfl
theorem avM(kvs:List AV):(Dl kvs).isLive=true:=Eq.trans rfl rfl
theorem a4V{L:List St}{f:St→Nat}(hL:Twl L)(hf:∀s∈L,f s≤Di){to:List St}(ht:∀s∈to,s∈L)(hlen:to.length≤2){k:Int}{i:Int}{c:Nat}(hc:c≤1000)(nn:Bool):
 Ef.call (.fn 44) [.agg [.int .i64 k,.int .i64 i,.int .i64 (c:Int),Bt 25 true nn (to.map Bv)],.mapr 0] [Dl (Eu L (Oj f))]=some (.ret (.int .i64 (min Di (c+Sys.mx f to):Nat)),[Dl (Eu L (Oj f))]):=by
 refine ce Tryz.func44 ?_
 simp only[Tryz.f44]
 (have hb:=trivial;with_reducible repeat' (first|simp only[hb,Vc.down,seval,a1U.down,ahF]|refine Au ?_ ?_<;>intro hb|refine fd ?_|fail))
 refine Ie (lst 26 to (fun j (m:Nat) t h=>t 1=.mapr 0∧t 2=.ptr 1 0 0∧t 5=.int .i64 (m:Int)∧t 9=Bt 25 true nn (to.map Bv)∧t 10=.int .i64 (to.length:Nat)∧t 11=.int .i64 (j:Int)∧m≤Di∧h[0]?=some (Dl (Eu L (Oj f)))∧∃fl x,h[1]?=some (.live 4 fl x [[.int .i64 k,.int .i64 i,.int .i64 (c:Int),Bt 25 true nn (to.map Bv)]])) (fun rest m=>rest.foldl (fun m x=>max m (f x)) m)
  (fun r e t h=>e=.exit 0∧t 2=.ptr 1 0 0∧t 5=.int .i64 (r:Int)∧r≤Di∧h[0]?=some (Dl (Eu L (Oj f)))∧∃fl x,h[1]?=some (.live 4 fl x [[.int .i64 k,.int .i64 i,.int .i64 (c:Int),Bt 25 true nn (to.map Bv)]])) ?_ ?_ 0 _ _ ?_) (fun e t h hk=>?_)
 ·rintro m t h Q' kQ ⟨g1,g2,g5,g9,g10,g11,hm,hM,fl,x,hB⟩
  (have hb:=trivial;with_reducible repeat' (first|simp only[hb,Vc.down,seval,a1U.down,g10,g11,Int.lt_irrefl,decide_false]|refine Au ?_ ?_<;>intro hb|refine fd ?_|fail))
  exact kQ _ _ _ ⟨rfl,by simp[up,g2],by simp[up,g5],hm,hM,fl,x,hB⟩
 ·rintro z rest j m t h J Q' kJ kQ hx hj ⟨g1,g2,g5,g9,g10,g11,hm,hM,fl,x,hB⟩
  have hdd:decide ((j:Int)<(to.length:Int))=true:=decide_eq_true (by omega)
  have hww:=Dj hj (by unfold maxLen;omega)
  have hz:=ht z (azO hx)
  have hfz:=hf z hz
  have hM2:=Aj hM
  have hlk:=fun l=>aJL (v:=Oj f) (hM2 l) hL hz
  have hzl:=Il (hL z hz)
  have hzf:=Gi z
  have hzc:=Gu z
  have htk:awL 25 (Bv z)=Bv z:=aoR (by omega)
  have hmx:=a3D f z m
  (have hb:=trivial;with_reducible repeat' (first|simp only[hb,Vc.down,seval,a1U.down,g1,g5,g9,g10,g11,hdd,hww,hx,hM2,hlk,hzl,hzf,hzc,htk,Oj,hmx,ahF]|refine Au ?_ ?_<;>intro hb|refine fd ?_|fail))
  exact Bn (kJ _ _ (max m (f z)) ⟨by simp[up,g1],by simp[up,g2],by simp[up],by simp[up,g9],by simp[up,g10],by simp[up],by omega,hM2 _,fl,x,Aj hB _⟩ rfl)
 ·exact⟨by simp[up,ent],by simp[up],by simp[up],by simp[up],by simp[up],by simp[up],Nat.zero_le _,rfl,_,_,rfl⟩
 obtain⟨rfl,g2,g5,hm,hM,fl,x,hB⟩:=hk
 change t 5=.int .i64 ((Sys.mx f to:Nat):Int)at g5
 change Sys.mx f to≤Di at hm
 generalize Sys.mx f to=m at *
 have hww:IntKind.i64.wrap ((c:Int)+(m:Int))=((c+m:Nat):Int):=by rw[Ez (by unfold Di at hm;omega) (by unfold Di at hm;omega)];omega
 have hmn:(if((c+m:Nat):Int)<1099511627776 then((c+m:Nat):Int)else 1099511627776)=((min Di (c+m):Nat):Int):=by unfold Di;split<;>omega
 (have hb:=trivial;with_reducible repeat' (first|simp only[hb,Vc.down,seval,a1U.down,g2,g5,hB,hM,hww,hmn,Ls]|refine Au ?_ ?_<;>intro hb|refine fd ?_|fail))
structure COk(L:List St)(o:Jr):Prop where
 c0:0≤o.c
 c1:o.c≤1000
 to:∀s∈o.to,s∈L
 ne:o.to≠[]
 two:o.to.length≤2
def Jr.cells(o:Jr):List AV:=[.int .i64 o.k,.int .i64 (o.i:Int),.int .i64 o.c,Bt 25 true false (o.to.map Bv)]
def wst(f:St→Nat)(o:Jr):Nat:=min Di (o.c.toNat+Go.Ev.Sys.mx f o.to)
def Of(f:St→Nat)(n:Nat)(l:List Jr):Nat:=l.foldl (fun m o=>min m (wst f o)) n
theorem aMK{L:List St}{f:St→Nat}(hL:Twl L)(hf:∀s∈L,f s≤Di){o:Jr}(ho:COk L o):
 Ef.call (.fn 44) [.agg o.cells,.mapr 0] [Dl (Eu L (Oj f))]=some (.ret (.int .i64 (wst f o:Nat)),[Dl (Eu L (Oj f))]):=by
 have h:=a4V hL hf ho.to ho.two (k:=o.k) (i:=o.i) (c:=o.c.toNat) (by have:=ho.c1;omega) false
 rw[show((o.c.toNat:Nat):Int)=o.c by have:=ho.c0;omega]at h
 exact h
theorem aV2{L:List St}{f:St→Nat}(hL:Twl L)(hf:∀s∈L,f s≤Di){o:Jr}(ho:COk L o)(x:Bool):
 Ef.call (.fn 68) [.agg o.cells,.ptr 0 0 0] [.live 1 false x [[.mapr 1]],Dl (Eu L (Oj f))]=some (.ret (.int .i64 (wst f o:Nat)),[.live 1 false x [[.mapr 1]],Dl (Eu L (Oj f))]):=by
 have h:=aMK hL hf ho
 have hne:o.to.map Bv≠[]:=by simpa using ho.ne
 simp only[Jr.cells,agF hne]at h ⊢
 refine ce Tryz.func68 ?_
 simp only[Tryz.f68]
 (have hb:=trivial;with_reducible repeat' (first|simp only[hb,Vc.down,seval,beS.down,h,Ls,Pv,Pg,Na.down]|refine Au ?_ ?_<;>intro hb|refine fd ?_|fail))
theorem a4K(a b:Nat):(if(a:Int)<(b:Int)then(a:Int)else(b:Int))=((min b a:Nat):Int):=by split<;>omega
theorem a4F{L:List St}{f:St→Nat}(hL:Twl L)(hf:∀s∈L,f s≤Di){l:List Jr}(hl:∀o∈l,COk L o)(hlen:l.length≤maxLen)(nn:Bool)(n:Nat)(x:Bool):
 Ef.call (.fn 67) [Bt 4 false nn (l.map Jr.cells),.func (.func 68) [] [.ptr 0 0 0],.int .i64 (n:Int)] [.live 1 false x [[.mapr 1]],Dl (Eu L (Oj f))]=some (.ret (.int .i64 (Of f n l:Nat)),[.live 1 false x [[.mapr 1]],Dl (Eu L (Oj f))]):=by
 obtain⟨q1,hq1⟩:∃q,Fn.func 68=q:=⟨_,rfl⟩
 refine ce Tryz.func67 ?_
 simp only[Tryz.f67]
 (have hb:=trivial;with_reducible repeat' (first|simp only[hb,Vc.down,seval,a1R.down,ahF]|refine Au ?_ ?_<;>intro hb|refine fd ?_|fail))
 refine Ie (lst 22 l (fun j (m:Nat) t h=>t 1=.func (.func 68) [] [.ptr 0 0 0]∧t 2=.int .i64 (m:Int)∧t 9=Bt 4 false nn (l.map Jr.cells)∧t 10=.int .i64 (l.length:Nat)∧t 11=.int .i64 (j:Int)∧h[0]?=some (.live 1 false x [[.mapr 1]])∧h[1]?=some (Dl (Eu L (Oj f)))) (fun rest m=>rest.foldl (fun m o=>min m (wst f o)) m)
  (fun r e t h=>e=.exit 0∧t 2=.int .i64 (r:Int)∧h[0]?=some (.live 1 false x [[.mapr 1]])∧h[1]?=some (Dl (Eu L (Oj f)))) ?_ ?_ n _ _ ?_) (fun e t h hk=>?_)
 ·rintro m t h Q' kQ ⟨g1,g2,g9,g10,g11,hB,hM⟩
  (have hb:=trivial;with_reducible repeat' (first|simp only[hb,Vc.down,seval,a1R.down,g10,g11,Int.lt_irrefl,decide_false]|refine Au ?_ ?_<;>intro hb|refine fd ?_|fail))
  exact kQ _ _ _ ⟨rfl,by simp[up,g2],hB,hM⟩
 ·rintro o rest j m t h J Q' kJ kQ hx hj ⟨g1,g2,g9,g10,g11,hB,hM⟩
  have hdd:decide ((j:Int)<(l.length:Int))=true:=decide_eq_true (by omega)
  have hww:=Dj hj (by unfold maxLen at hlen;unfold maxLen;omega)
  have ho:=hl o (azO hx)
  have hc:=aV2 hL hf ho false
  have hmn:=a4K (wst f o) m
  have hB2:=Aj hB
  have hM2:=Aj hM
  have hne:o.to.map Bv≠[]:=by simpa using ho.ne
  simp only[Jr.cells,agF hne]at hc
  have hcs:o.cells=[.int .i64 o.k,.int .i64 (o.i:Int),.int .i64 o.c,.imm 25 true (o.to.map Bv)]:=by simp only[Jr.cells,agF hne]
  (have hb:=trivial;with_reducible repeat' (first|simp only[hb,Vc.down,seval,a1R.down,g1,g2,g9,g10,g11,hdd,hww,hx,hB,hM,hB2,hM2,hcs,hc,hmn,Ls,Pv,Pg,Na.down,ahF]|refine Au ?_ ?_<;>intro hb|refine fd ?_|fail))
  exact Bn (kJ _ _ (min m (wst f o)) ⟨by simp[up,g1],by simp[up],by simp[up,g9],by simp[up,g10],by simp[up],hB2 _,hM2 _⟩ rfl)
 ·exact⟨by simp[up,ent],by simp[up,ent],by simp[up],by simp[up],by simp[up],rfl,rfl⟩
 obtain⟨rfl,g2,hB,hM⟩:=hk
 change t 2=.int .i64 (Of f n l:Nat)at g2
 (have hb:=trivial;with_reducible repeat' (first|simp only[hb,Vc.down,seval,a1R.down,g2,hB,hM,Ls,Na.down]|refine Au ?_ ?_<;>intro hb|refine fd ?_|fail))
end Go.Proofs.YtcncggaobhbomaaGreatDoor
