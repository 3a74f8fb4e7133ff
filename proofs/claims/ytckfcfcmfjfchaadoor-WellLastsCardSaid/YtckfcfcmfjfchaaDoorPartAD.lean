/- The functions of the layer, walked. -/
import Derived.Test.YtckfcfcmfjfchaaDoorLibE
import Derived.Test.YtckfcfcmfjfchaaDoorPartAB
import Derived.Test.YtckfcfcmfjfchaaDoorPartAC
open List renaming length_map→acD,mem_filter→akZ,getElem?_set_ne→ak3,range→am5,mem_cons_self→aoC,mem_cons→aoD,getElem?_set_self→aoU,getElem?_append_left→ao2,getElem?_eq_getElem→ao5,append_nil→apH,length_set→aqD,getD_eq_getElem?_getD→aq4,getElem?_map→arT,mem_of_getElem?→arY,length_filter_le→ar1,all_cons→asY,all_nil→asZ,find?_cons→as0,filter_cons→atM,length_replicate→au4,getElem?_append_right→au5,nil_append→au9,flatMap_cons→awA,mem_cons_of_mem→axG,all_eq_true→ayF,getElem?_eq_none→ayG,mem_range→ayH
open Bool renaming not_true→alE,and_eq_true→amE,false_eq_true→an2,and_false→an3,false_and→apG,true_and→arZ,and_true→asB
open Nat renaming le_refl→am7
open Int renaming lt_irrefl→anO,natCast_one→au2
set_option linter.unusedSimpArgs false
set_option linter.unusedVariables false
namespace Go.Proofs.YtckfcfcmfjfchaaDoor
open Go.Ev Go Go.Ev.Net
set_option maxRecDepth 100000
set_option maxHeartbeats 16000000
theorem aFQ{d:Nat}{h:qR}{v:AV}{p:AV × List Nat}{l:qR}(hr:rd (d+1) (hf h) v=some p)(hd:d+1≤9:=by omega):rd (d+1) (hf (h++l)) v=some p:=by
 have:=aUG (g':=hf (h++l)) (aHK hr aO7) fun j hj z hz=>by
  show((h++l)[j]?).bind agY=_
  rw[ao2 (aWX hd (aHK hr aO7) j hj)];exact hz
 obtain⟨a,l',R1,R2,e,h1,h2,h3⟩:=aF3 this
 cases e
 obtain⟨_,rfl⟩:=aJD h2
 simp at h3
 rw[h1,←h3]
def a1W(Q:AV)(l:List Nat)(lo:Nat)(outs:List AV)(h:qR):Prop:=∃rows n,aMN Q 1 l.length rows .i64 0 n lo outs h∧n≤14∧rows.take l.length=l.map nvv∧l.length≤rows.length
def EBr(w:agR)(d:Int)(L:List (Int × Bool))(ds:List Nat)(h:qR):Prop:=(∃x,h[1]?=some (.live 4 false x [[.int .i64 w.rooms,.int .i64 w.need,slv 9 true w.nn (w.parts.map acC.cells),.int .i64 d]]))∧(∃x,h[2]?=some (.live 24 true x [pcs L]))∧∃x,h[3]?=some (.live 1 true x (ds.map nvv))
theorem aHI{w:agR}{N:Nat}(hw:WOk w N)(h12:w.parts.length≤12)(hs:w.small)(d:Int)(hb0:(aqE w&&asD d)=true):
 ∃ds:List Nat,ds.length=N∧aqV (edg w (anZ w d)) 0 N al0 (fun v=>ds.getD v 0)∧
  ((ds.getD 1 0=al0∧om'.call (.fn 11) [.agg [.int .i64 w.rooms,.int .i64 w.need,slv 9 true w.nn (w.parts.map acC.cells)],.int .i64 d] []=some (.ret (.tup [.nils,.nils,.int .i64 5]),[]))∨
   (ds.getD 1 0≠al0∧∃l,avB (edg w (anZ w d)) N (ds.getD 1 0) [0] 0=some l∧l≠[]∧∃outs h',om'.call (.fn 11) [.agg [.int .i64 w.rooms,.int .i64 w.need,slv 9 true w.nn (w.parts.map acC.cells)],.int .i64 d] []=some (.ret (.tup outs),h')∧a1W (slv 1 false false (atC (edg w (anZ w d)) ds w.parts.length (ds.getD 1 0))) l 0 outs h'∧(∀f,∃y,ajS 8 f (.tup outs)=some y)∧∀c∈h',Rnm c)):=by
 have n2:=hw.n2
 have n8:=hw.n8
 have hlen:=hw.len
 have h1:=aAE w hs d
 rw[hb0]at h1
 have hpc:=axW w d false h12
 have hL:=auM (d:=d) h12
 obtain⟨o,h',hc,f,ds,rfl,rfl,hdl,hR⟩:=avX hw h12 (d:=d) (s:=0) (by omega) hL rfl (wf:=false)
 have hEq:=auN (w:=w) (d:=d)
 have hEo:=avV hw (anZ w d)
 rw[hEq]at hR
 refine⟨ds,hdl,hR,?_⟩
 have f0:=asR (acE w d)
 have k0:=asW (acE w d)
 have v0:=aw8 (acE w d)
 have l0:=aw6 (acE w d)
 have r0:=aw7 (acE w d)
 have p0:=aQP (acE w d)
 have n0:=aD6 (acE w d)
 have i0:=aEN (acE w d)
 have hpl:(pcs (acE w d)).length=24:=by rw[aq3];omega
 have htk24:=List.take_of_length_le (l:=pcs (acE w d)) (i:=24) (by omega)
 have hd1:ds[1]?=some (ds.getD 1 0):=by rw[aq4,ao5 (by omega)];rfl
 have h1N:((1:Int)<(N:Int))=True:=eq_true (by omega)
 have hne:ds.getD 1 0≠al0→ds.getD 1 0<N∧∃l,avB (edg w (anZ w d)) N (ds.getD 1 0) [0] 0=some l∧l≠[]:=fun e=>by
  refine⟨(aqV.num hR hR (by unfold al0;omega) (by unfold al0;omega) (by omega) hEo (v:=1) (by omega)).2.2 e,?_⟩
  obtain⟨r1,r2⟩:=hR 1 (by omega)
  obtain⟨k,hk⟩:∃k,Cst (edg w (anZ w d)) 0 1 k:=Classical.byContradiction fun h=>e (r2 fun k hk=>h ⟨k,hk⟩)
  obtain⟨j,hj⟩:=Lst.ex hk
  have e1:=r1 j hj
  obtain⟨l,hl⟩:=aZ1 hEo (by omega) hj.1 (Nat.le_of_eq e1.symm)
  refine⟨l,hl,fun h=>?_⟩
  subst h
  have:=(aB2 hl).1
  cases this
 simp only[Int.natCast_zero]at hc
 have hln:(ds.map nvv).length=N:=by simp[hdl]
 by_cases e:ds.getD 1 0=al0
 ·left
  refine⟨e,?_⟩
  have e1:(((ds.getD 1 0:Nat):Int)==1048576)=true:=by rw[e];rfl
  have hd2:(ds.map nvv)[1]?=some [.int .i64 (ds.getD 1 0:Nat)]:=by rw[arT,hd1];rfl
  generalize ds.map nvv=dr at *
  generalize pcs (acE w d)=ps at *
  (refine ce Tryd.func11 ?_;simp only[Tryd.f11];(have hb:=trivial;with_reducible repeat' (first|simp only[hb,Vc.down,seval,ay5.down,h1,hpc,f0,k0,v0,l0,r0,p0,n0,i0,hpl,htk24,hc,hd2,h1N,e1,hln,acD]|refine fsp ?_ ?_<;>intro hb|refine fd ?_|fail)))
 ·right
  obtain⟨hlt,l,hl,hl0⟩:=hne e
  refine⟨e,l,hl,hl0,?_⟩
  have e1:(((ds.getD 1 0:Nat):Int)==1048576)=false:=beq_eq_false_iff_ne.2 fun h=>e (by unfold al0;omega)
  suffices k:ClQ om' 11 [.agg [.int .i64 w.rooms,.int .i64 w.need,slv 9 true w.nn (w.parts.map acC.cells)],.int .i64 d] [] fun o h'=>∃outs,o=.ret (.tup outs)∧a1W (slv 1 false false (atC (edg w (anZ w d)) ds w.parts.length (ds.getD 1 0))) l 0 outs h'∧(∀f,∃y,ajS 8 f (.tup outs)=some y)∧∀c∈h',Rnm c by
   obtain⟨o,h',hc,outs,rfl,q1,q2⟩:=k
   exact⟨outs,h',hc,q1,q2⟩
  obtain⟨o,h',hwy,xw,rw',rfl,rfl,hw1,hw2⟩:=aZO hw h12 (d:=d) hL (most:=ds.getD 1 0) (by omega) (wf:=false) (by rw[hEq];exact hl) hl0
  have hEg:∀(i:Nat) (p:acC),w.parts[i]?=some p→(edg w (anZ w d))[i]?=some (p.one.toNat,p.other.toNat,if awW p d=true then 1 else 0):=fun i p h1=>by simp[edg,anZ,List.getElem?_zipWith,h1]
  have hpa:∀i p,w.parts[i]?=some p→(acE w d)[i]?=some (aq6 p d,p.opn):=fun i p hp=>aDH hp
  generalize ds.getD 1 0=c at *
  have hn:c≤13:=by omega
  generalize edg w (anZ w d)=E at *
  generalize acE w d=L at *
  refine aRX rfl Tryd.func11 rfl rfl ?_
  simp only[Tryd.f11]
  refine hid (fun KK iN hK=>?_)
  (have hb:=trivial;with_reducible repeat' (first|simp only[hb,Vc.down,seval,ay5.down,h1,hpc,f0,k0,v0,l0,r0,p0,n0,i0,hpl,htk24,hc,hd1,nvv,h1N,e1,hln,acD]|refine fsp ?_ ?_<;>intro hb|refine fd ?_|fail))
  refine atG (lst 98 (List.replicate c ()) (fun k (_:Unit) t h=>t 7=.ptr 1 0 0∧t 9=.ptr 2 0 0∧t 10=.slr 1 3 0 N∧t 37=.int .i64 (c:Int)∧t 38=.int .i64 (k:Int)∧EBr w d L ds h∧∃rows Ro,LLH 4 (t 11) h rows (atC E ds w.parts.length k) Ro∧rows.length=k∧Ro.length≤k) (fun _ _=>())
   (fun _ e t h=>e=.exit 0∧t 7=.ptr 1 0 0∧t 9=.ptr 2 0 0∧t 10=.slr 1 3 0 N∧EBr w d L ds h∧∃rows Ro,LLH 4 (t 11) h rows (atC E ds w.parts.length c) Ro∧rows.length=c∧Ro.length≤c) ?_ ?_ () _ _ ?_) (fun e t h hk=>?_)
  ·rintro _ t h Q' kQ ⟨g7,g9,g10,g37,g38,hB,hL⟩
   rw[au4]at g38 hL
   (have hb:=trivial;with_reducible repeat' (first|simp only[hb,Vc.down,seval,ay5.down,g37,g38,anO,decide_false]|refine fsp ?_ ?_<;>intro hb|refine fd ?_|fail))
   exact kQ _ _ _ ⟨rfl,by simp[up,g7],by simp[up,g9],by simp[up,g10],hB,by simpa [up]using hL⟩
  ·rintro _ rest k _ t h J Q' kJ kQ hx hi ⟨g7,g9,g10,g37,g38,hB,rows,Ro,hL,hrl,hRl⟩
   rw[au4]at hi
   obtain⟨⟨x1,b1⟩,⟨x2,b2⟩,⟨x3,b3⟩⟩:=hB
   have hdk:decide ((k:Int)<(c:Int))=true:=decide_eq_true (by omega)
   have hwk:IntKind.i64.wrap ((k:Int)+1)=((k+1:Nat):Int):=by rw[aqH (by omega) (by omega)];omega
   obtain⟨ov,g11⟩:∃ov,t 11=ov:=⟨_,rfl⟩
   rw[g11]at hL
   have p1:=qS b1
   have p2:=qS b2
   have p3:=qS b3
   (have hb:=trivial;with_reducible repeat' (first|simp only[hb,Vc.down,seval,ay5.down,g7,g9,g10,g37,g38,b1,b2,b3,hdk,acD]|refine fsp ?_ ?_<;>intro hb|refine fd ?_|fail))
   refine atG (lst 98 w.parts (fun i (_:Unit) t h'=>t 7=.ptr 1 0 0∧t 9=.ptr 2 0 0∧t 10=.slr 1 3 0 N∧t 11=ov∧t 12=.int .i64 (k:Int)∧t 37=.int .i64 (c:Int)∧t 38=.int .i64 (k:Int)∧t 45=slv 9 true w.nn (w.parts.map acC.cells)∧t 46=.int .i64 (w.parts.length:Nat)∧t 47=.int .i64 (i:Int)∧(h.length≤h'.length∧∀b,b<h.length→h'[b]?=h[b]?)∧avE (t 13) ((am5 i).filter (aAL E ds k)) h' h.length) (fun _ _=>())
    (fun _ e t h'=>e=.exit 2∧t 7=.ptr 1 0 0∧t 9=.ptr 2 0 0∧t 10=.slr 1 3 0 N∧t 11=ov∧t 37=.int .i64 (c:Int)∧t 38=.int .i64 (k:Int)∧(h.length≤h'.length∧∀b,b<h.length→h'[b]?=h[b]?)∧avE (t 13) (aB0 E ds w.parts.length k) h' h.length) ?_ ?_ () _ _ ?_) (fun e t' h' hk=>?_)
   ·rintro _ t h' Q'' kQ ⟨g7,g9,g10,g11,g12,g37,g38,g45,g46,g47,hs,hN⟩
    (have hb:=trivial;with_reducible repeat' (first|simp only[hb,Vc.down,seval,ay5.down,g46,g47,anO,decide_false]|refine fsp ?_ ?_<;>intro hb|refine fd ?_|fail))
    exact kQ _ _ _ ⟨rfl,by simp[up,g7],by simp[up,g9],by simp[up,g10],by simp[up,g11],by simp[up,g37],by simp[up,g38],hs,by simpa [up,aB0]using hN⟩
   ·rintro p rest i _ t h' J' Q'' kJ' kQ' hx hi ⟨g7,g9,g10,g11,g12,g37,g38,g45,g46,g47,hs,hN⟩
    have hdd:decide ((i:Int)<(w.parts.length:Int))=true:=decide_eq_true (by omega)
    have hdp:((i:Int)<(w.parts.length:Int))=True:=eq_true (by omega)
    have hww:=aoH hi (by unfold maxLen;omega)
    have c1:=(hs.2 1 p1).trans b1
    have c2:=(hs.2 2 p2).trans b2
    have c3:=(hs.2 3 p3).trans b3
    have d2:=acG c2
    have d3:=acG c3
    have hy:=hpa i p hx
    have htt:=aAH (aq6 p d) p.opn
    rw[show(aq6 p d==0&& !p.opn)=awW p d from rfl]at htt
    have htk:=aBV _ _ _ _ hy
    have i12:((i:Int)<12)=True:=eq_true (by omega)
    have hpz:(i*2≤23)=True:=eq_true (by omega)
    have hp24:(i*2+2≤24)=True:=eq_true (by omega)
    have hpo:=hw.part p (arY hx)
    have hE:=hEg i p hx
    generalize awW p d=tt at *
    have hra:ds[p.one.toNat]?=some (ds.getD p.one.toNat 0):=by rw[aq4,ao5 (by omega)];rfl
    have hrb:ds[p.other.toNat]?=some (ds.getD p.other.toNat 0):=by rw[aq4,ao5 (by omega)];rfl
    have o1:(0≤p.one)=True:=eq_true hpo.1.1
    have o2:(p.one<(N:Int))=True:=eq_true hpo.1.2
    have o3:(0≤p.other)=True:=eq_true hpo.2.1.1
    have o4:(p.other<(N:Int))=True:=eq_true hpo.2.1.2
    have hbar:aAL E ds k i=(tt&&min (ds.getD p.one.toNat 0) (ds.getD p.other.toNat 0)==k&&max (ds.getD p.one.toNat 0) (ds.getD p.other.toNat 0)==k+1):=by
     unfold aAL;rw[hE];cases tt<;>simp
    have hrf:=aLT (aAL E ds k) i
    rw[hbar]at hrf
    generalize ds.getD p.one.toNat 0=da at *
    generalize ds.getD p.other.toNat 0=db at *
    have hmn:(if(db:Int)<(da:Int)then(db:Int)else(da:Int))=((min da db:Nat):Int):=by split<;>omega
    have hmx:(if(db:Int)>(da:Int)then(db:Int)else(da:Int))=((max da db:Nat):Int):=by split<;>omega
    have hcast:∀a b:Nat,((a:Int)==(b:Int))=(a==b):=fun a b=>by rw[Bool.eq_iff_iff];simp;omega
    have hsA:h.length≤(h'++[CB.live 9 true true [p.cells]]).length∧∀b,b<h.length→(h'++[CB.live 9 true true [p.cells]])[b]?=h[b]?:=⟨by simp;omega,fun b hb=>by rw[ao2 (by omega)];exact hs.2 b hb⟩
    cases tt with
    |false=>
     simp only[apG,an2,if_false,apH]at hrf
     (have hb:=trivial;with_reducible repeat' (first|simp only[hb,Vc.down,seval,ay5.down,g7,g9,g10,g12,g45,g46,g47,c1,c2,c3,d2,d3,hdd,hdp,hww,hx,htt,htk,i12,hpz,hp24,hpl,ao8,hra,hrb,o1,o2,o3,o4,hmn,hmx,hwk,hcast,bvv,nvv,acC.cells,acD]|refine fsp ?_ ?_<;>intro hb|refine fd ?_|fail))
     exact alD (kJ' _ _ () ⟨by simp[up,g7],by simp[up,g9],by simp[up,g10],by simp[up,g11],by simp[up,g12],by simp[up,g37],by simp[up,g38],by simp[up,g45],by simp[up,g46],by simp[up],hsA,by rw[hrf];simpa [up]using hN.app _⟩ rfl)
    |true=>
     simp only[arZ]at hrf
     cases q1:(min da db==k)with
     |false=>
      simp only[q1,apG,an2,if_false,apH]at hrf
      (have hb:=trivial;with_reducible repeat' (first|simp only[hb,Vc.down,seval,ay5.down,g7,g9,g10,g12,g45,g46,g47,c1,c2,c3,d2,d3,hdd,hdp,hww,hx,htt,htk,i12,hpz,hp24,hpl,ao8,hra,hrb,o1,o2,o3,o4,hmn,hmx,hwk,hcast,q1,bvv,nvv,acC.cells,acD]|refine fsp ?_ ?_<;>intro hb|refine fd ?_|fail))
      exact alD (kJ' _ _ () ⟨by simp[up,g7],by simp[up,g9],by simp[up,g10],by simp[up,g11],by simp[up,g12],by simp[up,g37],by simp[up,g38],by simp[up,g45],by simp[up,g46],by simp[up],hsA,by rw[hrf];simpa [up]using hN.app _⟩ rfl)
     |true=>
     cases q2:(max da db==k+1)with
     |false=>
      simp only[q1,q2,arZ,an2,if_false,apH]at hrf
      (have hb:=trivial;with_reducible repeat' (first|simp only[hb,Vc.down,seval,ay5.down,g7,g9,g10,g12,g45,g46,g47,c1,c2,c3,d2,d3,hdd,hdp,hww,hx,htt,htk,i12,hpz,hp24,hpl,ao8,hra,hrb,o1,o2,o3,o4,hmn,hmx,hwk,hcast,q1,q2,bvv,nvv,acC.cells,acD]|refine fsp ?_ ?_<;>intro hb|refine fd ?_|fail))
      exact alD (kJ' _ _ () ⟨by simp[up,g7],by simp[up,g9],by simp[up,g10],by simp[up,g11],by simp[up,g12],by simp[up,g37],by simp[up,g38],by simp[up,g45],by simp[up,g46],by simp[up],hsA,by rw[hrf];simpa [up]using hN.app _⟩ rfl)
     |true=>
     simp only[q1,q2,arZ,if_true]at hrf
     have hal:((am5 i).filter (aAL E ds k)).length≤i:=by have:=ar1 (aAL E ds k) (am5 i);simpa using this
     generalize(am5 i).filter (aAL E ds k)=a at *
     rcases hN with⟨rfl,ho⟩|⟨hne,b,hb3,ho,hb⟩
     ·(have hb:=trivial;with_reducible repeat' (first|simp only[hb,Vc.down,seval,ay5.down,g7,g9,g10,g12,g45,g46,g47,c1,c2,c3,d2,d3,hdd,hdp,hww,hx,htt,htk,i12,hpz,hp24,hpl,ao8,hra,hrb,o1,o2,o3,o4,hmn,hmx,hwk,hcast,q1,q2,bvv,nvv,acC.cells,acD,ho]|refine fsp ?_ ?_<;>intro hb|refine fd ?_|fail))
      exact alD (kJ' _ _ () ⟨by simp[up,g7],by simp[up,g9],by simp[up,g10],by simp[up,g11],by simp[up,g12],by simp[up,g37],by simp[up,g38],by simp[up,g45],by simp[up,g46],by simp[up],⟨by simp;omega,fun b hb=>by rw[ao2 (by omega)];exact hs.2 b hb⟩,by rw[hrf];exact .inr ⟨by simp,h'.length+2,by omega,by simp[up],by rw[au5 (by omega),Nat.add_sub_cancel_left];rfl⟩⟩ rfl)
     ·have hbl:=qS hb
      have hB2:=acG hb
      have hS:=ap6 hbl
      have hi39:(a.length+1≤549755813888)=True:=eq_true (by omega)
      (with_reducible repeat' (first|simp only[hb,Vc.down,seval,ay5.down,g7,g9,g10,g12,g45,g46,g47,c1,c2,c3,d2,d3,hdd,hdp,hww,hx,htt,htk,i12,hpz,hp24,hpl,ao8,hra,hrb,o1,o2,o3,o4,hmn,hmx,hwk,hcast,q1,q2,bvv,nvv,acC.cells,acD,ho,hb,hB2,hS,aqF,aoZ,aqD,hi39]|refine fsp ?_ ?_<;>intro hb|refine fd ?_|fail))
      exact alD (kJ' _ _ () ⟨by simp[up,g7],by simp[up,g9],by simp[up,g10],by simp[up,g11],by simp[up,g12],by simp[up,g37],by simp[up,g38],by simp[up,g45],by simp[up,g46],by simp[up],⟨by simp;omega,fun b' hb'=>by rw[ao2 (by simp;omega),ak3 (by omega)];exact hs.2 b' hb'⟩,by rw[hrf];exact .inr ⟨by simp,h'.length+2,by omega,by simp[up],by rw[aoZ];simp[nvv]⟩⟩ rfl)
   ·exact⟨by simp[up,g7],by simp[up,g9],by simp[up,g10],by simp[up,g11],by simp[up],by simp[up,g37],by simp[up,g38],by simp[up],by simp[up],by simp[up],⟨am7 _,fun _ _=>rfl⟩,.inl ⟨rfl,by simp[up]⟩⟩
   obtain⟨rfl,g7,g9,g10,g11,g37,g38,hs,hN⟩:=hk
   obtain⟨bv,g13⟩:∃bv,t' 13=bv:=⟨_,rfl⟩
   rw[g13]at hN
   have hLk:=hL.keep hs.1 hs.2
   have hap:=fun(q:qR) (r:List AV)=>aRZ hLk.own (pre:=[]) rfl q r [] (by simp;omega)
   have hhp:=fun(q:qR) (r:List (List AV)) (ba:Nat)=>aMY hLk.own (pre:=[]) rfl q 1 false r ba
   simp only[au9,List.length_cons,List.length_append,List.length_nil,aqD,Nat.reduceAdd,hrl]at hap hhp
   have hcell:bv.isCell=true∧bv.flat=false∧acB bv=[bv]:=by
    rcases hN with⟨_,rfl⟩|⟨_,b,_,rfl,_⟩<;>exact⟨rfl,rfl,rfl⟩
   obtain⟨hc1,hc2,hc3⟩:=hcell
   (have hb:=trivial;with_reducible repeat' (first|simp only[hb,Vc.down,seval,ay5.down,g11,g13,g38,hwk,hap,hhp,hc1,hc2,hc3,asB,an3,asY,asZ]|refine fsp ?_ ?_<;>intro hb|refine fd ?_|fail))
   obtain⟨R',r1,hL'⟩:=hL.snoc hs.1 hs.2 hN (by omega) (.live 1 false false [[bv]]) rfl (show k+1=rows.length+1 by omega)
   have low:∀j,j<4→(kl 0 ov h'++[CB.live 1 false false [[bv]],CB.live 1 false false (rows++[[bv]])])[j]?=h[j]?:=fun j hj=>by
    rw[aE1 _ (by have:=hs.1;omega) fun st m r n e e2=>by have:=(hL.dov st m r n e).1;omega,hs.2 j (by omega)]
   refine alD (kJ _ _ () ⟨by simp[up,g7],by simp[up,g9],by simp[up,g10],by simp[up,g37],by simp[up],⟨⟨x1,by rw[low 1 (by omega)];exact b1⟩,⟨x2,by rw[low 2 (by omega)];exact b2⟩,⟨x3,by rw[low 3 (by omega)];exact b3⟩⟩,rows++[[bv]],Ro++R',?_,by simp[hrl],by simp;omega⟩ rfl)
   rw[aHM]
   simpa [up]using hL'
  ·exact⟨by simp[up],by simp[up],by simp[up],by simp[up],by simp[up],⟨⟨_,rfl⟩,⟨_,rfl⟩,⟨_,rfl⟩⟩,[],[],⟨.inl ⟨rfl,by simp[up]⟩,fun _=>by simp[up],rfl,by simp,fun _ _ _ _ e=>by simp[up]at e⟩,rfl,am7 _⟩
  ·obtain⟨rfl,g7,g9,g10,hB,rows,Ro,hL,hrl,hRl⟩:=hk
   obtain⟨ov,g11⟩:∃ov,t 11=ov:=⟨_,rfl⟩
   rw[g11]at hL
   obtain⟨⟨x1,b1⟩,⟨x2,b2⟩,⟨x3,b3⟩⟩:=hB
   have hd2:(ds.map nvv)[1]?=some [.int .i64 (c:Nat)]:=by rw[arT,hd1];rfl
   (have hb:=trivial;with_reducible repeat' (first|simp only[hb,Vc.down,seval,ay5.down,g7,g9,g10,g11,b1,b2,b3,f0,k0,v0,l0,r0,p0,n0,i0,hpl,htk24,hwy,hd1,nvv,h1N,hln,acD]|refine fsp ?_ ?_<;>intro hb|refine fdl ?_|fail))
   obtain⟨R,r1,r2⟩:=aXI (d:=5) hL.own hL.q hL.nil
   simp only at r1 r2
   refine hK _ ?_
   rw[aOQ]
   have r1':rd 6 (hf (h++[CB.live 1 true xw rw'])) ov=some (slv 1 false false (atC E ds w.parts.length c),R):=aFQ r1
   refine aW1 (vs:=[ov,.slr 1 h.length 0 l.length,.int .i64 0]) ?_ (aWH (rows:=rw') r1' (by omega) ?_ fun outs h' k1 k2 k3=>⟨outs,rfl,⟨rw',_,k1,by omega,hw1,hw2⟩,k2,k3⟩)
   ·simp only[Vc.down,seval,ay5.down]
   ·show((h++_)[h.length]?).bind agY=_
    rw[au5 (am7 _),Nat.sub_self];rfl
theorem aT2{w:agR}{N:Nat}(hw:WOk w N)(d:Int){ds:List Nat}(h:aqV (edg w (anZ w d)) 0 N al0 (fun v=>ds.getD v 0)):
 (ds.getD 1 0=al0→avB (edg w (anZ w d)) N (awG w N d) [0] 0=none∧awG w N d=w.parts.length+1)∧(ds.getD 1 0≠al0→awG w N d=ds.getD 1 0∧ds.getD 1 0<N):=by
 have n2:=hw.n2
 have n8:=hw.n8
 have hE:=avV hw (anZ w d)
 have hn:=aNY (len:=w.parts.length) n2 (by omega) (by unfold al0;omega) hE h
 rw[show aDX (edg w (anZ w d)) N w.parts.length=awG w N d from rfl]at hn
 refine⟨fun e=>⟨?_,by rw[←hn,if_pos e]⟩,fun e=>⟨by rw[←hn,if_neg e],(aqV.num h h (by unfold al0;omega) (by unfold al0;omega) (by omega) hE (v:=1) (by omega)).2.2 e⟩⟩
 cases hF:avB (edg w (anZ w d)) N (awG w N d) [0] 0 with
 |none=>rfl
 |some l=>
  have hc:=(aB2 hF).1.cst (s:=0) ⟨0,.nil 0⟩
  obtain⟨j,hj⟩:=Lst.ex hc
  have e1:=(h 1 (by omega)).1 j hj
  have e2:=hj.le (N:=N) (by omega) hE.ends hE.one
  simp only at e1
  unfold al0 at e;omega
theorem aYJ(H:qR)(w:agR)(d:Int):afD (rdV H) [.agg w.cells,.int .i64 d]=some [.agg w.cells,.int .i64 d]:=by
 have h1:rdV H (.agg w.cells)=some (.agg w.cells):=atQ _ (d:=8) (by omega) (by simp[agR.cells,aD1,aAR,aq2])
 have h2:rdV H (.int .i64 d)=some (.int .i64 d):=rfl
 simp only[ayY,aBZ,h1,h2,aw5]
theorem aYL(w:agR)(d:Int):[AV.agg w.cells,.int .i64 d].all (agT 8)=true:=by simp[agR.cells,aD1,aAR,aq2]
theorem aR2(g:HF)(w:agR)(d:Int):[AV.agg w.cells,.int .i64 d].flatMap (agU 12 g)=[]:=by
 rw[awA,awA,List.flatMap_nil,asT (d:=8) (v:=.agg w.cells) _ (by omega) (by simp[agR.cells,aD1,aAR,aq2])];rfl
theorem awB(E:List Net.Edge)(ds:List Nat)(n c:Nat):(atC E ds n c).length=c:=by simp[atC]
theorem aRI{H:qR}{v:AV}{E:List Net.Edge}{ds:List Nat}{n c i:Nat}{R:List Nat}(h:rd 6 (hf H) v=some (slv 1 false false (atC E ds n c),R))(hi:i<c):
 ∃b x,v=.slr 1 b 0 c∧as3 (H[b]?) i=some [x]∧∃R',rd 5 (hf H) x=some (slv 1 true false ((aB0 E ds n i).map nvv),R'):=by
 rcases aCF h with⟨_,h0⟩|⟨b,rows',rfl,hb,_,_,hr⟩
 ·have:=awB E ds n c
  rw[h0]at this;simp at this;omega
 ·obtain⟨R',hr⟩:=hr rfl
  have hX:(atC E ds n c)[i]?=some [slv 1 true false ((aB0 E ds n i).map nvv)]:=by simp[atC,hi]
  obtain⟨r,R2,k1,k2⟩:=aAP (i:=i) hr hX
  obtain⟨a,l',R3,R4,rfl,k3,k4,_⟩:=aF3 k2
  obtain⟨rfl,_⟩:=aJD k4
  exact⟨b,a,by rw[awB],by rw[aRU hb,k1],R3,k3⟩
theorem aQG{g:HF}{v:AV}{E:List Net.Edge}{ds:List Nat}{n c:Nat}{R:List Nat}(h:rd 6 g v=some (slv 1 false false (atC E ds n c),R)):ln Tryd.prog 27 (some v)=some (.ret (.int .i64 (c:Int)),[]):=by
 rcases aCF h with⟨rfl,h0⟩|⟨b,rows',rfl,_⟩
 ·have:=awB E ds n c
  rw[h0]at this;simp at this;subst this
  simp only[Vc.down,seval,TY3.down]
 ·rw[awB]
  simp only[Vc.down,seval,TY3.down]
theorem av8{q:Int→Bool}:∀{n:Nat} {t x:Int},aGR q n t=some x→t≤x∧x<t+n∧q x=true∧∀y,t≤y→y<x→q y=false
 |0,t,x,h=>by cases h
 |n+1,t,x,h=>by
  unfold aGR at h
  split at h
  ·rename_i hq;cases h;exact⟨by omega,by omega,hq,fun y _ _=>by omega⟩
  ·rename_i hq
   obtain⟨h1,h2,h3,h4⟩:=av8 h
   refine⟨by omega,by omega,h3,fun y h5 h6=>?_⟩
   by_cases e:y=t
   ·subst e;simpa using hq
   ·exact h4 y (by omega) h6
theorem ay4{q:Int→Bool}:∀{n:Nat} {t:Int},aGR q n t=none→∀y,t≤y→y<t+n→q y=false
 |0,t,h=>fun y _ _=>by omega
 |n+1,t,h=>fun y h1 h2=>by
  unfold aGR at h
  split at h
  ·cases h
  ·rename_i hq
   by_cases e:y=t
   ·subst e;simpa using hq
   ·exact ay4 h y (by omega) (by omega)
theorem aPD:∀{l:List Int},l≠[]→∃m∈l,∀x∈l,x≤m
 | [],h=>(h rfl).elim
 | [a],_=>⟨a,aoC ..,fun x hx=>by simp at hx;omega⟩
 |a::b::l,_=>by
  obtain⟨m,h1,h2⟩:=aPD (l:=b::l) (by simp)
  by_cases e:a≤m
  ·exact⟨m,axG _ h1,fun x hx=>(aoD.1 hx).elim (fun h=>h▸e) (h2 x)⟩
  ·exact⟨a,aoC ..,fun x hx=>(aoD.1 hx).elim (fun h=>by omega) (fun h=>by have:=h2 x h;omega)⟩
def arX(p:acC):Int:=p.tested+p.valid+1
def awL(w:agR)(d:Int):List Int:=d::(w.parts.filter fun p=>decide (arX p>d)&&decide (arX p≤5000)).map arX
theorem aHB{N:Int}{p:acC}(h:arL N p=true)(t:Int):aq6 p t=if p.bad=true then 2 else if arX p≤t then 1 else 0:=by
 simp only[arL,asD,inB,amE,decide_eq_true_eq]at h
 obtain⟨⟨⟨⟨⟨⟨⟨_,_⟩,_⟩,_⟩,h5⟩,h6⟩,_⟩,_⟩:=h
 unfold aq6 arX
 rw[aqH (by omega) (by omega)]
 split
 ·rfl
 ·by_cases e:p.tested+p.valid<t
  ·rw[if_pos e,if_pos (by omega)]
  ·rw[if_neg e,if_neg (by omega)]
theorem aRV{w:agR}(hb:aqE w=true){N:Nat}{t t0:Int}(h0:t0≤t)(h:∀p∈w.parts,arX p≤t→arX p≤t0):ax2 w N t=ax2 w N t0:=by
 have hp:∀p∈w.parts,arL w.rooms p=true:=by
  simp only[aqE,amE,ayF]at hb
  exact hb.2
 have e:anZ w t=anZ w t0:=by
  unfold anZ
  refine List.map_congr_left fun p hq=>?_
  unfold awW
  rw[aHB (hp p hq),aHB (hp p hq)]
  by_cases e:arX p≤t0
  ·rw[if_pos (show arX p≤t by omega),if_pos e]
  ·rw[if_neg (fun e2=>e (h p hq e2)),if_neg e]
 unfold ax2 awG
 rw[e]
theorem aTM{w:agR}{d t:Int}(h:t∈awL w d)(hd:d≤5000):d≤t∧t≤5000:=by
 unfold awL at h
 rcases aoD.1 h with rfl|h
 ·omega
 ·obtain⟨p,hp,rfl⟩:=List.mem_map.1 h
  rw[akZ]at hp
  simp only[amE,decide_eq_true_eq]at hp
  omega
theorem aOO{w:agR}(hb:aqE w=true){N:Nat}{d t:Int}(h1:d≤t)(h2:t≤5000):∃t0∈awL w d,t0≤t∧ax2 w N t0=ax2 w N t:=by
 obtain⟨m,hm,hmax⟩:=aPD (l:=(awL w d).filter fun x=>decide (x≤t)) (fun e=>by
  have:d∈(awL w d).filter fun x=>decide (x≤t):=akZ.2 ⟨aoC ..,by simpa using h1⟩
  rw[e]at this;cases this)
 rw[akZ]at hm
 refine⟨m,hm.1,by simpa using hm.2,(aRV hb (by simpa using hm.2) fun p hp hpt=>?_).symm⟩
 by_cases e:arX p>d
 ·exact hmax _ (akZ.2 ⟨axG _ (List.mem_map.2 ⟨p,akZ.2 ⟨hp,by simp;omega⟩,rfl⟩),by simpa using hpt⟩)
 ·have:=hmax d (akZ.2 ⟨aoC ..,by simpa using h1⟩)
  omega
theorem azB{q:Int→Bool}:∀{l:List Int},l.Pairwise (· ≤·)→(∀x,l.find? q=some x→∀y∈l,q y=true→x≤y)
 | [],_=>fun x h=>by cases h
 |a::l,hs=>fun x h y hy hq=>by
  rw[List.pairwise_cons]at hs
  rw[as0]at h
  split at h
  ·cases h
   rcases aoD.1 hy with rfl|hy
   ·exact Int.le_refl _
   ·exact hs.1 y hy
  ·rename_i hqa
   rcases aoD.1 hy with rfl|hy
   ·rw[hqa]at hq;cases hq
   ·exact azB hs.2 x h y hy hq
theorem aSR{w:agR}(hb:aqE w=true){N:Nat}{d:Int}(h1:0≤d)(h2:d≤5000):(ar7 (awL w d)).find? (ax2 w N)=ax5 w N d:=by
 have hmem:∀x,x∈ar7 (awL w d)↔x∈awL w d:=fun x=>(auW _).mem_iff
 unfold ax5
 cases hf:(ar7 (awL w d)).find? (ax2 w N)with
 |none=>
  rw[List.find?_eq_none]at hf
  cases hl:aGR (ax2 w N) (5001-d).toNat d with
  |none=>rfl
  |some x=>
   obtain⟨a1,a2,a3,_⟩:=av8 hl
   obtain⟨t0,b1,b2,b3⟩:=aOO hb (N:=N) a1 (t:=x) (by omega)
   exact(hf t0 ((hmem t0).2 b1) (by rw[b3];exact a3)).elim
 |some x=>
  have hq:=List.find?_some hf
  have hx:=(hmem x).1 (List.mem_of_find?_eq_some hf)
  have hr:=aTM hx h2
  cases hl:aGR (ax2 w N) (5001-d).toNat d with
  |none=>
   have:=ay4 hl x (by omega) (by omega)
   rw[this]at hq;cases hq
  |some y=>
   obtain⟨a1,a2,a3,a4⟩:=av8 hl
   obtain⟨t0,b1,b2,b3⟩:=aOO hb (N:=N) a1 (t:=y) (by omega)
   have c1:=azB (auI _) x hf t0 ((hmem t0).2 b1) (by rw[b3];exact a3)
   have c2:y≤x:=by
    by_cases e:x<y
    ·have:=a4 x (by omega) e
     rw[this]at hq;cases hq
    ·omega
   congr 1
   omega
theorem aWK{h:qR}(hq:acI h=true){b:Nat}{w:Bool}{zs:List Int}(hb:h[b]?=some (.live 1 true w (zs.map iv)))(h1:1≤zs.length)(h2:zs.length≤1000):
 ∃es,cl om' h (some (.func (.func 46) [] [])) (some [.slr 1 b 0 zs.length])=some (.ret (.tup []),es)∧ag5 h es=h.set b (.live 1 true true ((ar7 zs).map iv)):=by
 have hbl:=qS hb
 have hbc:=ajX hb
 simp only[CB.clean]at hbc
 have hp:aCA [.slr 1 b 0 zs.length] (clH h)=some (.ret (.tup []),(clH h).set b (.live 1 true true ((ar7 zs).map iv))):=by
  simp only[aCA,hbc]
  rw[if_pos ⟨by simp,h1,by omega⟩]
  have:avY (zs.map iv)=some zs:=aHX zs
  rw[this];rfl
 have K:ShQ om' 46 [.slr 1 b 0 zs.length] (clH h) fun o G=>o=.ret (.tup [])∧G=(clH h).set b (.live 1 true true ((ar7 zs).map iv)):=⟨_,_,aMQ (P:=Tryd.prog) (pr:=pr) (p:=aCA) rfl hp,rfl,rfl⟩
 have kp:auV [b] (clH h) ((clH h).set b (.live 1 true true ((ar7 zs).map iv))):=⟨by simp,fun i hi hn=>by rw[ak3 (fun e=>hn (by simp[e]))]⟩
 have hX:∀i∈[b],i<h.length∧∀c0 c,h[i]?=some c0→((clH h).set b (.live 1 true true ((ar7 zs).map iv)))[i]?=some c→c0.isLive=true∧c0.quiet c=false:=fun i hi=>by
  simp at hi;subst hi
  refine⟨hbl,fun c0 c k1 k2=>?_⟩
  rw[hb]at k1;rw[aoU (by rw[af4];exact hbl)]at k2
  cases k1;cases k2;exact⟨rfl,rfl⟩
 obtain⟨g1,g2,g3,g4,g5⟩:=apY hq kp hX
 obtain⟨o,G,es,e1,e2,rfl,rfl⟩:=aAK rfl rfl K (fun o G hQ=>by obtain⟨_,rfl⟩:=hQ;exact g1)
 refine⟨es,e1,?_⟩
 rw[e2]
 apply List.ext_getElem?
 intro i
 by_cases hi:i<h.length
 ·by_cases e:i=b
  ·subst e
   rw[aoU hbl]
   exact g5 i (aoC ..) _ (aoU (by rw[af4];exact hbl))
  ·rw[g4 i hi (by simpa using e),ak3 (fun q=>e q.symm)]
 ·rw[ayG (by rw[g2];simp[af4];omega),ayG (by simp;omega)]
theorem aQL{w:agR}(h:aqE w=true){i:Nat}{p:acC}(hp:w.parts[i]?=some p):arL w.rooms p=true:=by
 simp only[aqE,amE,ayF]at h
 exact h.2 p (arY hp)
theorem aFC{N:Int}{p:acC}(h:arL N p=true):0≤p.tested∧p.tested≤5000∧0≤p.valid∧p.valid≤5000:=by
 simp only[arL,asD,inB,amE,decide_eq_true_eq]at h
 obtain⟨⟨⟨⟨⟨⟨⟨_,_⟩,_⟩,_⟩,a5⟩,a6⟩,_⟩,_⟩:=h
 exact⟨a5.1,a5.2,a6.1,a6.2⟩
theorem aUJ{w:agR}{N:Nat}(hW:WOk w N)(h12:w.parts.length≤12)(hs:w.small)(d:Int)(hb0:aqE w=true)(hd0:asD d=true):
 om'.call (.fn 23) [.agg [.int .i64 w.rooms,.int .i64 w.need,slv 9 true w.nn (w.parts.map acC.cells)],.int .i64 d] []=some (.ret (match ax5 w N d with|some t=>.tup [.int .i64 t,.int .i64 0]|none=>.tup [.int .i64 0,.int .i64 5]),[]):=by
 have h1:=aAE w hs d
 rw[hb0,hd0]at h1
 have hdd:0≤d∧d≤5000:=by simpa [asD,inB]using hd0
 rw[←aSR hb0 hdd.1 hdd.2]
 have hlen:=hW.len
 unfold awL
 (refine ce Tryd.func23 ?_;simp only[Tryd.f23];(have hb:=trivial;with_reducible repeat' (first|simp only[hb,Vc.down,seval,aAQ.down,h1,acD]|refine fsp ?_ ?_<;>intro hb|refine fd ?_|fail)))
 refine atG (lst 70 w.parts (fun i (zz:List Int) t h=>t 1=.int .i64 d∧t 2=.ptr 0 0 0∧t 6=.ptr 1 0 0∧t 25=slv 9 true w.nn (w.parts.map acC.cells)∧t 26=.int .i64 (w.parts.length:Nat)∧t 27=.int .i64 i∧(h[0]?=some (.live 3 false false [[.int .i64 w.rooms,.int .i64 w.need,slv 9 true w.nn (w.parts.map acC.cells)]])∧h[1]?=some (.live 4 false false [[.int .i64 w.rooms,.int .i64 w.need,slv 9 true w.nn (w.parts.map acC.cells),.int .i64 d]])∧1≤zz.length∧zz.length≤i+1∧acI h=true∧∃b,2≤b∧t 8=.slr 1 b 0 zz.length∧h[b]?=some (.live 1 true false (zz.map iv)))) (fun rest zz=>zz++(rest.filter fun p=>decide (arX p>d)&&decide (arX p≤5000)).map arX) (fun r e t h=>e=.exit 0∧t 2=.ptr 0 0 0∧t 6=.ptr 1 0 0∧h[0]?=some (.live 3 false false [[.int .i64 w.rooms,.int .i64 w.need,slv 9 true w.nn (w.parts.map acC.cells)]])∧h[1]?=some (.live 4 false false [[.int .i64 w.rooms,.int .i64 w.need,slv 9 true w.nn (w.parts.map acC.cells),.int .i64 d]])∧1≤r.length∧r.length≤1000∧acI h=true∧∃b,2≤b∧t 8=.slr 1 b 0 r.length∧h[b]?=some (.live 1 true false (r.map iv))) ?_ ?_ ([d]) _ _ ?_) (fun e t h hq=>?_)
 ·rintro a t h Q' kQ ⟨h1,h2,h6,h25,h26,h27,⟨hA,hB,ha1,ha2,hqu,b,hb2,ho,hbb⟩⟩
  (have hb:=trivial;with_reducible repeat' (first|simp only[hb,Vc.down,seval,aAQ.down,h1,h2,h6,h25,h26,h27,anO,decide_false,hA,acD]|refine fsp ?_ ?_<;>intro hb|refine fd ?_|fail))
  simp only[List.filter_nil,List.map_nil,apH]at kQ
  exact kQ _ _ _ ⟨rfl,by simp[up,h2],by simp[up,h6],hA,hB,ha1,by omega,hqu,b,hb2,by simpa [up]using ho,hbb⟩
 ·rintro x rest i a t h J Q' kJ kQ hx hi ⟨h1,h2,h6,h25,h26,h27,⟨hA,hB,ha1,ha2,hqu,b,hb2,ho,hbb⟩⟩
  have hd:decide ((i:Int)<(w.parts.length:Int))=true:=decide_eq_true (by omega)
  have hw:=aoH hi (by unfold maxLen;omega)
  have hpp:=aQL hb0 hx
  have hp4:IntKind.i64.wrap (x.tested+x.valid)=x.tested+x.valid:=by have:=aFC hpp;exact aqH (by omega) (by omega)
  have hp5:IntKind.i64.wrap (x.tested+x.valid+1)=arX x:=by have:=aFC hpp;rw[aqH (by omega) (by omega)];rfl
  have hbl:=qS hbb
  have hA1:=acG hA
  have hb1:=acG hbb
  have hB1:=acG hB
  have hS:=ap6 hbl
  have hi39:(a.length+1≤549755813888)=True:=eq_true (by omega)
  cases q1:decide (arX x>d)
  ·(have hb:=trivial;with_reducible repeat' (first|simp only[hb,Vc.down,seval,aAQ.down,h1,h2,h6,h25,h26,h27,hd,hw,hx,hA,hA1,ho,hbb,hb1,hp4,hp5,q1,acC.cells,acD]|refine fsp ?_ ?_<;>intro hb|refine fd ?_|fail))
   (refine alD (kJ _ _ a ⟨?_,?_,?_,?_,?_,?_,⟨hA1 _,hB1 _,ha1,by omega,ahG hqu rfl,b,hb2,ho,hb1 _⟩⟩ ?_);(simp[up,h1]);(simp[up,h2]);(simp[up,h6]);(simp[up,h25]);(simp[up,h26]);(simp[up]);(rw[atM];simp only[q1,an3,apG,an2,if_false]))
  ·cases q2:decide (arX x≤5000)
   ·(have hb:=trivial;with_reducible repeat' (first|simp only[hb,Vc.down,seval,aAQ.down,h1,h2,h6,h25,h26,h27,hd,hw,hx,hA,hA1,ho,hbb,hb1,hp4,hp5,q1,q2,acC.cells,acD]|refine fsp ?_ ?_<;>intro hb|refine fd ?_|fail))
    (refine alD (kJ _ _ a ⟨?_,?_,?_,?_,?_,?_,⟨hA1 _,hB1 _,ha1,by omega,ahG hqu rfl,b,hb2,ho,hb1 _⟩⟩ ?_);(simp[up,h1]);(simp[up,h2]);(simp[up,h6]);(simp[up,h25]);(simp[up,h26]);(simp[up]);(rw[atM];simp only[q1,q2,an3,apG,an2,if_false]))
   ·(have hb:=trivial;with_reducible repeat' (first|simp only[hb,Vc.down,seval,aAQ.down,h1,h2,h6,h25,h26,h27,hd,hw,hx,hA,hA1,ho,hbb,hb1,hp4,hp5,q1,q2,hS,aqF,aoZ,aqD,hi39,acC.cells,acD]|refine fsp ?_ ?_<;>intro hb|refine fd ?_|fail))
    (refine alD (kJ _ _ (a++[arX x]) ⟨?_,?_,?_,?_,?_,?_,⟨aAG _ (by omega) hA _,aAG _ (by omega) hB _,by simp,by simp;omega,ahG (agD hqu b rfl) rfl,h.length+2,by omega,by simp[up],by rw[aoZ];simp[iv]⟩⟩ ?_);(simp[up,h1]);(simp[up,h2]);(simp[up,h6]);(simp[up,h25]);(simp[up,h26]);(simp[up]);(rw[atM];simp only[q1,q2,Bool.and_self,if_true,List.map_cons,List.append_assoc,List.cons_append,au9]))
 ·exact⟨by simp[up,ent],by simp[up,ent],by simp[up,ent],by simp[up,ent],by simp[up,ent],by simp[up],⟨rfl,rfl,am7 _,am7 _,rfl,2,am7 _,by simp[up],rfl⟩⟩
 obtain⟨rfl,h2,h6,hA,hB,hr1,hr2,hqu,b,hb2,ho,hbb⟩:=hq
 rw[show d::((w.parts.filter fun p=>decide (arX p>d)&&decide (arX p≤5000)).map arX)=[d]++((w.parts.filter fun p=>decide (arX p>d)&&decide (arX p≤5000)).map arX)from rfl]
 generalize [d]++((w.parts.filter fun p=>decide (arX p>d)&&decide (arX p≤5000)).map arX)=zs at *
 obtain⟨q1,hq1⟩:∃q,Fn.func 46=q:=⟨_,rfl⟩
 obtain⟨es,e1,e2⟩:=aWK hqu hbb hr1 hr2
 rw[hq1]at e1
 have hsl:=aC8 zs
 rw[←hsl]at ho e1 hr2
 generalize ar7 zs=ys at *
 (have hb:=trivial;with_reducible repeat' (first|simp only[hb,Vc.down,seval,aAQ.down,h2,h6,ho,hq1,e1,e2]|refine fsp ?_ ?_<;>intro hb|refine fd ?_|fail))
 have hpz:=fun z:Int=>axW w z false h12
 have hnz:=fun z:Int=>avA hW h12 z (auM (d:=z) h12) false
 refine atG (lst 70 ys (fun i (zz:Unit) t h=>t 2=.ptr 0 0 0∧t 6=.ptr 1 0 0∧t 51=.slr 1 b 0 ys.length∧t 52=.int .i64 (ys.length:Nat)∧t 53=.int .i64 i∧(h[0]?=some (.live 3 false false [[.int .i64 w.rooms,.int .i64 w.need,slv 9 true w.nn (w.parts.map acC.cells)]])∧(∃wf dd,h[1]?=some (.live 4 false wf [[.int .i64 w.rooms,.int .i64 w.need,slv 9 true w.nn (w.parts.map acC.cells),.int .i64 dd]]))∧h[b]?=some (.live 1 true true (ys.map iv)))) (fun rest zz=>rest.find? (ax2 w N)) (fun r e t h=>(e=.exit 2∧r=none)∨∃t1,r=some t1∧e=.ret∧t 4=.int .i64 t1∧t 5=.int .i64 0) ?_ ?_ () _ _ ?_) (fun e t h hq=>?_)
 ·rintro _ t h Q' kQ ⟨h2,h6,h51,h52,h53,⟨hA,⟨wf,dd,hB⟩,hC⟩⟩
  (have hb:=trivial;with_reducible repeat' (first|simp only[hb,Vc.down,seval,aAQ.down,h2,h6,h51,h52,h53,anO,decide_false,acD]|refine fsp ?_ ?_<;>intro hb|refine fd ?_|fail))
  exact kQ _ _ _ (.inl ⟨rfl,rfl⟩)
 ·rintro x rest i _ t h J Q' kJ kQ hx hi ⟨h2,h6,h51,h52,h53,⟨hA,⟨wf,dd,hB⟩,hC⟩⟩
  have hd:decide ((i:Int)<(ys.length:Int))=true:=decide_eq_true (by omega)
  have hw:=aoH hi (by unfold maxLen;omega)
  have hp:=hpz x
  have hn:=hnz x
  rw[axF]at hn
  have f0:=asR (acE w x)
  have k0:=asW (acE w x)
  have v0:=aw8 (acE w x)
  have l0:=aw6 (acE w x)
  have r0:=aw7 (acE w x)
  have n0:=aD6 (acE w x)
  have i0:=aEN (acE w x)
  generalize pcs (acE w x)=ps at *
  have hl1:=qS hB
  have iln:((i:Int)<(ys.length:Int))=True:=eq_true (by omega)
  have g1:∀c,(h.set 1 c)[1]?=some c:=fun c=>aoU hl1
  have g0:∀c,(h.set 1 c)[0]?=h[0]?:=fun c=>ak3 (by omega)
  have gb:∀c,(h.set 1 c)[b]?=h[b]?:=fun c=>ak3 (by omega)
  cases hf:decide ((awG w N x:Int)<w.need)
  ·(have hb:=trivial;with_reducible repeat' (first|simp only[hb,Vc.down,seval,aAQ.down,h2,h6,h51,h52,h53,hd,hw,hx,iv,hA,hB,hC,g0,g1,gb,hp,hn,f0,k0,v0,l0,r0,n0,i0,hf,iln,acD]|refine fsp ?_ ?_<;>intro hb|refine fd ?_|fail))
   (refine alD (kJ _ _ () ⟨?_,?_,?_,?_,?_,⟨by rw[g0];exact hA,⟨true,x,g1 _⟩,by rw[gb];exact hC⟩⟩ ?_);(simp[up,h2]);(simp[up,h6]);(simp[up,h51]);(simp[up,h52]);(simp[up]);(rw[as0];simp only[ax2,hf]))
  ·(have hb:=trivial;with_reducible repeat' (first|simp only[hb,Vc.down,seval,aAQ.down,h2,h6,h51,h52,h53,hd,hw,hx,iv,hA,hB,hC,g0,g1,gb,hp,hn,f0,k0,v0,l0,r0,n0,i0,hf,iln,acD]|refine fsp ?_ ?_<;>intro hb|refine fd ?_|fail))
   exact kQ _ _ _ (.inr ⟨x,by rw[as0];simp only[ax2,hf],rfl,by simp[up],by simp[up]⟩)
 ·exact⟨by simp[up,ent,h2,h6],by simp[up,ent,h2,h6],by simp[up,ent,h2,h6],by simp[up,ent,h2,h6],by simp[up],⟨by rw[ak3 (by omega)];exact hA,⟨false,d,by rw[ak3 (by omega)];exact hB⟩,aoU (qS hbb)⟩⟩
 rcases hq with⟨rfl,hr⟩|⟨t1,hr,rfl,h4,h5⟩
 ·rw[hr]
  (have hb:=trivial;with_reducible repeat' (first|simp only[hb,Vc.down,seval,aAQ.down]|refine fsp ?_ ?_<;>intro hb|refine fd ?_|fail))
 ·rw[hr]
  (have hb:=trivial;with_reducible repeat' (first|simp only[hb,Vc.down,seval,aAQ.down,h4,h5]|refine fsp ?_ ?_<;>intro hb|refine fd ?_|fail))
theorem aVC{w:agR}{L:List (Int × Bool)}{i:Nat}{e:Net.Edge}(h:(edg w (tgt L))[i]?=some e):∃p x,w.parts[i]?=some p∧L[i]?=some x∧e=(p.one.toNat,p.other.toNat,if tgB x=true then 1 else 0):=by
 obtain⟨p,t,h1,h2,h3⟩:=aIU h
 unfold tgt at h2
 rw[arT,Option.map_eq_some_iff]at h2
 obtain⟨x,h4,rfl⟩:=h2
 exact⟨p,x,h1,h4,h3⟩
theorem aOR{w:agR}{N:Nat}(hw:WOk w N){d:Int}{ds:List Nat}(hR:aqV (edg w (anZ w d)) 0 N al0 (fun v=>ds.getD v 0)){p:Nat}(hp:p∈alL w N (acE w d)):
 awG w N d=1∧ds.getD 1 0=1∧aAL (edg w (anZ w d)) ds 0 p=true:=by
 have n2:=hw.n2
 have n8:=hw.n8
 have hnn:nmB w N (acE w d)=awG w N d:=axF
 have hal:=(akZ.1 hp).2
 unfold alB at hal
 split at hal
 ·rename_i x hx
  simp only[amE,Bool.not_eq_true',beq_eq_false_iff_ne,beq_iff_eq]at hal
  obtain⟨⟨h1,h2⟩,h3⟩:=hal
  rw[←auN]at hR ⊢
  have hE:=avV hw (tgt (acE w d))
  have hE':=avV hw (tgt ((acE w d).set p (2,x.2)))
  have h0:Cst (edg w (tgt ((acE w d).set p (2,x.2)))) 0 1 0:=by
   by_cases hc:∃k,Cst (edg w (tgt ((acE w d).set p (2,x.2)))) 0 1 k
   ·obtain⟨k,hk⟩:=hc
    obtain⟨j,hj⟩:=Lst.ex hk
    have:=(aUO (len:=w.parts.length) n2 (by omega) hE' hj).1
    unfold nmB at h3
    rw[h3]at this;subst this;exact hj.1
   ·have:=aT1 (len:=w.parts.length) n2 (by omega) hE' fun k hk=>hc ⟨k,hk⟩
    unfold nmB at h3;omega
  obtain⟨wn1,wn2⟩:=aT2 hw d (by rw[auN]at hR;exact hR)
  have hpos:0<ds.getD 1 0:=by
   by_cases e:ds.getD 1 0=al0
   ·unfold al0 at e;omega
   ·have:=(wn2 e).1;omega
  obtain⟨a1,e,a2,a3,a4,a5⟩:=aEZ (p:=p) hE hE' (by omega) hR (by unfold al0;omega)
   (fun i e hi hne=>by
     obtain⟨q,y,g1,g2,rfl⟩:=aVC hi
     refine ay1 g1 ?_
     rw[ak3 (fun e=>hne e.symm)];exact g2)
   (fun i e hi=>by
     obtain⟨q,y,g1,g2,rfl⟩:=aVC hi
     have hlt:=(List.getElem?_eq_some_iff.1 g2).1
     rw[aqD]at hlt
     exact⟨_,ay1 g1 (ao5 hlt)⟩) h0 hpos
  refine⟨?_,a1,?_⟩
  ·have:=(wn2 (by rw[a1];unfold al0;omega)).1
   omega
  ·unfold aAL
   rw[a2]
   simp only[amE,beq_iff_eq]
   exact⟨⟨a3,a4⟩,a5⟩
 ·cases hal
theorem aGO(kn:om'.call (.fn 10) [] []=some (.ret (.bool true),[]))(w:agR)(hs:w.small)(d x:Int):om'.call (.fn 6) [.agg [.int .i64 w.rooms,.int .i64 w.need,slv 9 true w.nn (w.parts.map acC.cells)],.int .i64 d,.int .i64 x] []=some (.ret (.bool true),[]):=by
 have h1:=aSL w
 have h3:=aXX w hs
 have h4:=aDK d
 have h5:=aDK x
 cases c1:aH1 w with
 |false=>
  rw[c1]at h1
  (refine ce Tryd.func6 ?_;simp only[Tryd.f6];(have hb:=trivial;with_reducible repeat' (first|simp only[hb,Vc.down,seval,TY6.down,h1,h3,h4,h5,kn,acD]|refine fsp ?_ ?_<;>intro hb|refine fd ?_|fail)))
 |true=>
 rw[c1]at h1
 cases c2:aqE w with
 |false=>
  rw[c2]at h3
  (refine ce Tryd.func6 ?_;simp only[Tryd.f6];(have hb:=trivial;with_reducible repeat' (first|simp only[hb,Vc.down,seval,TY6.down,h1,h3,h4,h5,kn,acD]|refine fsp ?_ ?_<;>intro hb|refine fd ?_|fail)))
 |true=>
 rw[c2]at h3
 cases c3:asD d with
 |false=>
  rw[c3]at h4
  (refine ce Tryd.func6 ?_;simp only[Tryd.f6];(have hb:=trivial;with_reducible repeat' (first|simp only[hb,Vc.down,seval,TY6.down,h1,h3,h4,h5,kn,acD]|refine fsp ?_ ?_<;>intro hb|refine fd ?_|fail)))
 |true=>
 rw[c3]at h4
 cases c4:asD x with
 |false=>
  rw[c4]at h5
  (refine ce Tryd.func6 ?_;simp only[Tryd.f6];(have hb:=trivial;with_reducible repeat' (first|simp only[hb,Vc.down,seval,TY6.down,h1,h3,h4,h5,kn,acD]|refine fsp ?_ ?_<;>intro hb|refine fd ?_|fail)))
 |true=>
 rw[c4]at h5
 cases c5:decide (x<d)with
 |true=>
  (refine ce Tryd.func6 ?_;simp only[Tryd.f6];(have hb:=trivial;with_reducible repeat' (first|simp only[hb,Vc.down,seval,TY6.down,h1,h3,h4,h5,kn,acD,c5]|refine fsp ?_ ?_<;>intro hb|refine fd ?_|fail)))
 |false=>
 obtain⟨N,hw,h12⟩:=aJ2 c2
 have hdd:0≤d∧d≤5000:=by simpa [asD,inB]using c3
 have hdx:0≤x∧x≤5000:=by simpa [asD,inB]using c4
 have hzx:(aqE w&&asD x)=true:=by rw[c2,c4];rfl
 have n2:=hw.n2
 have n8:=hw.n8
 have hLs:=aUJ hw h12 hs d c2 c3
 have hNx:=ayL hw h12 hs x hzx
 have hdx2:d≤x:=by simpa using c5
 have hz5:((5:Int)==0)=false:=rfl
 have hday:∀t,ax5 w N d=some t→decide (t<0)=false∧asD t=true∧decide (t<d)=false∧decide ((awG w N t:Int)<w.need)=true∧(x<t→decide ((awG w N x:Int)<w.need)=false):=fun t ht=>by
  obtain⟨a1,a2,a3,a4⟩:=av8 ht
  refine⟨decide_eq_false (by omega),by simp[asD,inB];omega,decide_eq_false (by omega),a3,fun hx=>a4 x hdx2 hx⟩
 have hno:ax5 w N d=none→decide (w.need≤(awG w N x:Int))=true:=fun h=>by
  have:=ay4 h x hdx2 (by omega)
  simp only[ax2,decide_eq_false_iff_not]at this
  exact decide_eq_true (by omega)
 by_cases he:alL w N (acE w x)=[]
 ·have hA:=aJH hw h12 hs x hzx (.ret (.tup [.nils,.int .i64 0])) [] (fun _=>rfl) (fun h=>(h he).elim)
  cases hl:ax5 w N d with
  |none=>
   have hn:=hno hl
   rw[hl]at hLs
   (refine ce Tryd.func6 ?_;simp only[Tryd.f6];(have hb:=trivial;with_reducible repeat' (first|simp only[hb,Vc.down,seval,TY6.down,hA,hLs,hNx,hn,h1,h3,h4,h5,c5,kn,bne,beq_self_eq_true,alE,hz5,acD]|refine fsp ?_ ?_<;>intro hb|refine fd ?_|fail)))
  |some t=>
   obtain⟨a1,a2,a3,a4,a5⟩:=hday t hl
   rw[hl]at hLs
   have hNt:=ayL hw h12 hs t (by rw[c2,a2];rfl)
   have hDt:=aDK t
   rw[a2]at hDt
   cases c6:decide (x<t)with
   |false=>
    (refine ce Tryd.func6 ?_;simp only[Tryd.f6];(have hb:=trivial;with_reducible repeat' (first|simp only[hb,Vc.down,seval,TY6.down,hA,hLs,hNx,hNt,hDt,a3,a4,c6,h1,h3,h4,h5,c5,kn,bne,beq_self_eq_true,alE,acD]|refine fsp ?_ ?_<;>intro hb|refine fd ?_|fail)))
   |true=>
    have a6:=a5 (by simpa using c6)
    (refine ce Tryd.func6 ?_;simp only[Tryd.f6];(have hb:=trivial;with_reducible repeat' (first|simp only[hb,Vc.down,seval,TY6.down,hA,hLs,hNx,hNt,hDt,a3,a4,a6,c6,h1,h3,h4,h5,c5,kn,bne,beq_self_eq_true,alE,acD]|refine fsp ?_ ?_<;>intro hb|refine fd ?_|fail)))
 have hA:=aJH hw h12 hs x hzx (.ret (.tup [.slr 1 0 0 (alL w N (acE w x)).length,.int .i64 0])) [.live 1 true false ((alL w N (acE w x)).map nvv)] (fun h=>(he h).elim) (fun _=>rfl)
 obtain⟨ds,hdl,hR,hB⟩:=aHI hw h12 hs x hzx
 have hcr:=fun p=>aOR (p:=p) hw hR
 have hal1:(alL w N (acE w x)).length≤1000:=by
  have:(alL w N (acE w x)).length≤(am5 w.parts.length).length:=ar1 ..
  rw[List.length_range]at this
  omega
 have hain:∀p∈alL w N (acE w x),p<w.parts.length:=fun p hp=>ayH.1 (akZ.1 hp).1
 generalize alL w N (acE w x)=al at *
 obtain⟨p0,hp0⟩:=List.exists_mem_of_ne_nil al he
 obtain⟨hn1,hd1,_⟩:=hcr p0 hp0
 rcases hB with⟨e,_⟩|⟨_,l,hl,hl0,outs,h',hB,hQ,hq1,hq2⟩
 ·rw[hd1]at e;cases e
 rw[hd1]at hQ hl
 have hbar:∀p∈al,(aB0 (edg w (anZ w x)) ds w.parts.length 0).contains p=true:=fun p hp=>by
  rw[List.contains_iff_mem]
  exact akZ.2 ⟨ayH.2 (hain p hp),(hcr p hp).2.2⟩
 have hbl:(aB0 (edg w (anZ w x)) ds w.parts.length 0).length≤maxLen:=by
  have:=ar1 (aAL (edg w (anZ w x)) ds 0) (am5 w.parts.length)
  unfold aB0 maxLen;simp at this;omega
 generalize edg w (anZ w x)=E at *
 obtain⟨rows,n,hS,hn,hr1,hr2⟩:=hQ
 rw[hn1]at hNx hday hno
 have kn':=kn
 obtain⟨q,hq⟩:∃q,Fn.func 11=q:=⟨_,rfl⟩
 obtain⟨qH,hqH⟩:∃q,Fn.func 21=q:=⟨_,rfl⟩
 have hpos:decide (((al.length:Nat):Int)>0)=true:=by
  have:al.length≠0:=fun h=>he (List.length_eq_zero_iff.1 h)
  exact decide_eq_true (by omega)
 obtain⟨lt,er,hLt⟩:∃lt er:Int,om'.call (.fn 23) [.agg [.int .i64 w.rooms,.int .i64 w.need,slv 9 true w.nn (w.parts.map acC.cells)],.int .i64 d] []=some (.ret (.tup [.int .i64 lt,.int .i64 er]),[])∧((ax5 w N d=none∧lt=0∧er=5)∨∃t,ax5 w N d=some t∧lt=t∧er=0):=by
  cases hl:ax5 w N d with
  |none=>rw[hl]at hLs;exact⟨0,5,hLs,.inl ⟨rfl,rfl,rfl⟩⟩
  |some t=>rw[hl]at hLs;exact⟨t,0,hLs,.inr ⟨t,rfl,rfl,rfl⟩⟩
 obtain⟨hLc,hLt⟩:=hLt
 simp only[au2]at hNx hday hno
 refine ce Tryd.func6 ?_
 simp only[Tryd.f6]
 (have hb:=trivial;with_reducible repeat' (first|simp only[hb,Vc.down,seval,TY6.down,h1,h3,h4,h5,c5,hLc,hNx,hA,hq,hpos,bne,beq_self_eq_true,alE,acD]|refine fsp ?_ ?_<;>intro hb|refine fd ?_|fail))
 generalize hE:cl om' _ (some (.func q [] [])) (some _)=E1
 rw[←hq]at hE
 obtain⟨outs1,es,H1,rfl,eh,k1,k2⟩:=aXU hE (aVW rfl) (aYJ _ w x) (aYL w x) hB hS hq1 hq2
 rw[show [AV.agg [AV.int .i64 w.rooms,.int .i64 w.need,slv 9 true w.nn (w.parts.map acC.cells)],.int .i64 x]=[AV.agg w.cells,.int .i64 x]from rfl,aR2]at k1
 obtain⟨v,b,R,rfl,kr,kl,kb,kb1,kR⟩:=k2.ex
 have m0:H1[0]?=some (.live 3 false false [[.int .i64 w.rooms,.int .i64 w.need,slv 9 true w.nn (w.parts.map acC.cells)]]):=k1.same 0 (by simp) (by simp)
 have m1:H1[1]?=some (.live 1 true false (al.map nvv)):=k1.same 1 (by simp) (by simp)
 have hlv:=aQG kr
 obtain⟨b1,x1,rfl,y1,R1,z1⟩:=aRI (i:=0) kr (by omega)
 obtain⟨u1,u2⟩:=aWN z1
 have h01:((0:Int)<1)=True:=eq_true (by omega)
 (have hb:=trivial;with_reducible repeat' (first|simp only[hb,Vc.down,seval,TY6.down,eh,hlv,asB,an3,asY,asZ,bne,beq_self_eq_true,alE,Int.reduceBEq,au2]|refine fsp ?_ ?_<;>intro hb|refine fdl ?_|fail))
 refine atG (lst 152 al (fun i (_:Unit) t h=>h=H1∧t 1=.int .i64 d∧t 2=.int .i64 x∧t 3=.ptr 0 0 0∧t 7=.int .i64 lt∧t 8=.int .i64 er∧t 9=.int .i64 1∧t 11=.slr 1 1 0 al.length∧t 13=.slr 1 b1 0 1∧t 16=.int .i64 (i:Int)) (fun _ _=>()) (fun _ e t h=>e=.exit 0∧h=H1∧t 1=.int .i64 d∧t 2=.int .i64 x∧t 3=.ptr 0 0 0∧t 7=.int .i64 lt∧t 8=.int .i64 er∧t 9=.int .i64 1) ?_ ?_ () _ _ ?_) (fun e t h hk=>?_)
 ·rintro _ t h Q' kQ ⟨rfl,g1,g2,g3,g7,g8,g9,g11,g13,g16⟩
  (have hb:=trivial;with_reducible repeat' (first|simp only[hb,Vc.down,seval,TY6.down,g11,g16,anO,decide_false]|refine fsp ?_ ?_<;>intro hb|refine fd ?_|fail))
  exact kQ _ _ _ ⟨rfl,rfl,by simp[up,g1],by simp[up,g2],by simp[up,g3],by simp[up,g7],by simp[up,g8],by simp[up,g9]⟩
 ·rintro p rest i _ t h J Q' kJ kQ hx hi ⟨rfl,g1,g2,g3,g7,g8,g9,g11,g13,g16⟩
  have hdd:decide ((i:Int)<(al.length:Int))=true:=decide_eq_true (by omega)
  have hii:((i:Int)<(al.length:Int))=True:=eq_true (by omega)
  have hww:=aoH hi (by unfold maxLen;omega)
  have hH:=aV0 (aB0 E ds w.parts.length 0) false p hbl
  rw[hbar p (arY hx)]at hH
  (have hb:=trivial;with_reducible repeat' (first|simp only[hb,Vc.down,seval,TY6.down,g11,g13,g16,m1,hdd,hii,hww,hx,y1,u1,u2,h01,nvv,hqH,asB,an3,asY,asZ,au2,Int.toNat_zero]|refine fsp ?_ ?_<;>intro hb|refine fd ?_|fail))
  generalize hE4:cl om' _ (some (.func qH [] [])) (some _)=E4
  rw[←hqH]at hE4
  have hS4:=hE4.symm.trans (aOV (vs:=[slv 1 true false ((aB0 E ds w.parts.length 0).map nvv),.int .i64 (p:Int)]) (v:=.bool true) (fun _=>by
   rcases aCF z1 with⟨rfl,_⟩|⟨b,_,rfl,_⟩<;>rfl) (by
   have hi2:aoK 12 (hf h) (.int .i64 (p:Int))=some (.int .i64 (p:Int)):=rfl
   simp only[ayY,aBZ,rdV,aEL (show 5≤12 by omega) z1,hi2,aw5]) (by simp[aq2,aAR]) hH rfl rfl)
  subst hS4
  (have hb:=trivial;with_reducible repeat' (first|simp only[hb,Vc.down,seval,TY6.down,g16,hww]|refine fsp ?_ ?_<;>intro hb|refine fd ?_|fail))
  exact alD (kJ _ _ () ⟨rfl,by simp[up,g1],by simp[up,g2],by simp[up,g3],by simp[up,g7],by simp[up,g8],by simp[up,g9],by simp[up,g11],by simp[up,g13],by simp[up]⟩ rfl)
 ·exact⟨rfl,by simp[up,ent],by simp[up,ent],by simp[up,ent],by simp[up],by simp[up],by simp[up],by simp[up],by simp[up],by simp[up]⟩
 obtain⟨rfl,rfl,g1,g2,g3,g7,g8,g9⟩:=hk
 rcases hLt with⟨hl2,rfl,rfl⟩|⟨t',hl2,rfl,rfl⟩
 ·have hn:=hno hl2
  (have hb:=trivial;with_reducible repeat' (first|simp only[hb,Vc.down,seval,TY6.down,g1,g2,g3,g7,g8,g9,m0,hn,kn',hz5,bne,beq_self_eq_true,alE]|refine fsp ?_ ?_<;>intro hb|refine fd ?_|fail))
 ·obtain⟨a1,a2,a3,a4,a5⟩:=hday _ hl2
  have hNt:=ayL hw h12 hs lt (by rw[c2,a2];rfl)
  have hDt:=aDK lt
  rw[a2]at hDt
  cases c6:decide (x<lt)with
  |false=>
   (have hb:=trivial;with_reducible repeat' (first|simp only[hb,Vc.down,seval,TY6.down,g1,g2,g3,g7,g8,g9,m0,hNt,hDt,a3,a4,c6,kn',bne,beq_self_eq_true,alE]|refine fsp ?_ ?_<;>intro hb|refine fd ?_|fail))
  |true=>
   have a6:=a5 (by simpa using c6)
   (have hb:=trivial;with_reducible repeat' (first|simp only[hb,Vc.down,seval,TY6.down,g1,g2,g3,g7,g8,g9,m0,hNt,hDt,a3,a4,a6,c6,kn',bne,beq_self_eq_true,alE]|refine fsp ?_ ?_<;>intro hb|refine fd ?_|fail))
theorem aGQ(hk:om'.call (.fn 10) [] []=some (.ret (.bool true),[])):∀avs,aIF Tryd.prog 7 Tryd.f6.params.toList avs→om'.call (.fn 6) avs []=some (.ret (.bool true),[]):=by
 intro avs h
 rw[show Tryd.f6.params.toList=[24,3,3]from rfl]at h
 match avs,h with
 | [a,b,c],h=>
   obtain⟨w,rfl,hs⟩:=aR5 h.1
   obtain⟨d,rfl,_⟩:=aMW h.2.1
   obtain⟨x,rfl,_⟩:=aMW h.2.2.1
   exact aGO hk w hs d x
 | [],h=>exact h.elim
 | [_],h=>exact h.2.elim
 | [_,_],h=>exact h.2.2.elim
 |_::_::_::_::_,h=>exact h.2.2.2.elim
end Go.Proofs.YtckfcfcmfjfchaaDoor
