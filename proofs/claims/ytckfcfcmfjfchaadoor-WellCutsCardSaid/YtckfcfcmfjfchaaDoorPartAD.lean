/- The functions of the layer, walked. -/
import Derived.Test.YtckfcfcmfjfchaaDoorLibE
import Derived.Test.YtckfcfcmfjfchaaDoorPartAB
import Derived.Test.YtckfcfcmfjfchaaDoorPartAC
open List renaming length_map→aaI,mem_of_getElem?→abN,getElem?_eq_getElem→abP,getElem?_append_left→abQ,range→abS,all_cons→ab7,all_nil→aeJ,length_replicate→afE,getD_eq_getElem?_getD→agB,getElem?_map→agF,replicate→agG,append_nil→agS,length_set→agX,getElem?_set_ne→ah1,nodup_cons→aiN,mem_filter→ajA,take_of_length_le→ajK,getElem?_zipWith→akA,length_filter_le→akP,getElem?_append_right→akQ,length_nil→akR,flatMap_cons→akS,getElem?_eq_none→akT,mem_range→ak3,any_eq_true→alE,take_add_one→alG,take_length→alH
open Bool renaming not_true→abO,true_and→abT,and_true→abV,and_false→abY,eq_iff_iff→afG,false_eq_true→af8,and_eq_true→af9,false_and→agQ,not_false→akZ
open Int renaming lt_irrefl→abR,natCast_zero→aj9
open Nat renaming le_refl→abU
set_option linter.unusedSimpArgs false
set_option linter.unusedVariables false
namespace Go.Proofs.YtckfcfcmfjfchaaDoor
open Go.Ev Go Go.Ev.Net
set_option maxRecDepth 100000
set_option maxHeartbeats 16000000
theorem iZ{d:Nat}{h:Aa}{v:AV}{p:AV × List Nat}{l:Aa}(hr:rd (d+1) (hf h) v=some p)(hd:d+1≤9:=by omega):rd (d+1) (hf (h++l)) v=some p:=by
 have:=abZ (g':=hf (h++l)) (fO hr oY) fun j hj z hz=>by
  show((h++l)[j]?).bind Aw=_
  rw[abQ (wQ hd (fO hr oY) j hj)];exact hz
 obtain⟨a,l',R1,R2,e,h1,h2,h3⟩:=jE this
 cases e
 obtain⟨_,rfl⟩:=qT h2
 simp at h3
 rw[h1,←h3]
def am1(Q:AV)(l:List Nat)(lo:Nat)(outs:List AV)(h:Aa):Prop:=∃rows n,wH Q 1 l.length rows .i64 0 n lo outs h∧n≤14∧rows.take l.length=l.map Ez∧l.length≤rows.length
def EBr(w:Au)(d:Int)(L:List (Int × Bool))(ds:List Nat)(h:Aa):Prop:=(∃x,h[1]?=some (.live 4 false x [[.int .i64 w.rooms,.int .i64 w.need,Dh 9 true w.nn (w.parts.map Ag.cells),.int .i64 d]]))∧(∃x,h[2]?=some (.live 24 true x [Gz L]))∧∃x,h[3]?=some (.live 1 true x (ds.map Ez))
theorem nO{w:Au}{N:Nat}(hw:tO w N)(h12:w.parts.length≤12)(hs:w.small)(d:Int)(hb0:(Oo w&&Vr d)=true):
 ∃ds:List Nat,ds.length=N∧Jr (Gj w (Az w d)) 0 N Dj (fun v=>ds.getD v 0)∧
  ((ds.getD 1 0=Dj∧Fq.call (.fn 11) [.agg [.int .i64 w.rooms,.int .i64 w.need,Dh 9 true w.nn (w.parts.map Ag.cells)],.int .i64 d] []=some (.ret (.tup [.nils,.nils,.int .i64 5]),[]))∨
   (ds.getD 1 0≠Dj∧∃l,Qi (Gj w (Az w d)) N (ds.getD 1 0) [0] 0=some l∧l≠[]∧∃outs h',Fq.call (.fn 11) [.agg [.int .i64 w.rooms,.int .i64 w.need,Dh 9 true w.nn (w.parts.map Ag.cells)],.int .i64 d] []=some (.ret (.tup outs),h')∧am1 (Dh 1 false false (Nr (Gj w (Az w d)) ds w.parts.length (ds.getD 1 0))) l 0 outs h'∧(∀f,∃y,Bc 8 f (.tup outs)=some y)∧∀c∈h',Rnm c)):=by
 have n2:=hw.n2
 have n8:=hw.n8
 have hlen:=hw.len
 have h1:=pT w hs d
 rw[hb0]at h1
 have hpc:=iK w d false h12
 have hL:=bT (d:=d) h12
 obtain⟨o,h',hc,f,ds,rfl,rfl,hdl,hR⟩:=Rk hw h12 (d:=d) (s:=0) (by omega) hL rfl (wf:=false)
 have hEq:=cJ (w:=w) (d:=d)
 have hEo:=Um hw (Az w d)
 rw[hEq]at hR
 refine⟨ds,hdl,hR,?_⟩
 have f0:=Wj (Be w d)
 have k0:=Vh (Be w d)
 have v0:=iF (Be w d)
 have l0:=fH (Be w d)
 have r0:=fL (Be w d)
 have p0:=aiM (Be w d)
 have n0:=vZ (Be w d)
 have i0:=wY (Be w d)
 have hpl:(Gz (Be w d)).length=24:=by rw[Ld];omega
 have htk24:=ajK (l:=Gz (Be w d)) (i:=24) (by omega)
 have hd1:ds[1]?=some (ds.getD 1 0):=by rw[agB,abP (by omega)];rfl
 have h1N:((1:Int)<(N:Int))=True:=eq_true (by omega)
 have hne:ds.getD 1 0≠Dj→ds.getD 1 0<N∧∃l,Qi (Gj w (Az w d)) N (ds.getD 1 0) [0] 0=some l∧l≠[]:=fun e=>by
  refine⟨(Jr.num hR hR (by unfold Dj;omega) (by unfold Dj;omega) (by omega) hEo (v:=1) (by omega)).2.2 e,?_⟩
  obtain⟨r1,r2⟩:=hR 1 (by omega)
  obtain⟨k,hk⟩:∃k,Yy (Gj w (Az w d)) 0 1 k:=Classical.byContradiction fun h=>e (r2 fun k hk=>h ⟨k,hk⟩)
  obtain⟨j,hj⟩:=Qn.ex hk
  have e1:=r1 j hj
  obtain⟨l,hl⟩:=aoN hEo (by omega) hj.1 (Nat.le_of_eq e1.symm)
  refine⟨l,hl,fun h=>?_⟩
  subst h
  have:=(Rl hl).1
  cases this
 simp only[aj9]at hc
 have hln:(ds.map Ez).length=N:=by simp[hdl]
 by_cases e:ds.getD 1 0=Dj
 ·left
  refine⟨e,?_⟩
  have e1:(((ds.getD 1 0:Nat):Int)==1048576)=true:=by rw[e];rfl
  have hd2:(ds.map Ez)[1]?=some [.int .i64 (ds.getD 1 0:Nat)]:=by rw[agF,hd1];rfl
  generalize ds.map Ez=dr at *
  generalize Gz (Be w d)=ps at *
  (refine ce Tryd.func11 ?_;simp only[Tryd.f11];(have hb:=trivial;with_reducible repeat' (first|simp only[hb,Vc.down,seval,Xb.down,h1,hpc,f0,k0,v0,l0,r0,p0,n0,i0,hpl,htk24,hc,hd2,h1N,e1,hln,aaI]|refine Br ?_ ?_<;>intro hb|refine fd ?_|fail)))
 ·right
  obtain⟨hlt,l,hl,hl0⟩:=hne e
  refine⟨e,l,hl,hl0,?_⟩
  have e1:(((ds.getD 1 0:Nat):Int)==1048576)=false:=beq_eq_false_iff_ne.2 fun h=>e (by unfold Dj;omega)
  suffices k:ClQ Fq 11 [.agg [.int .i64 w.rooms,.int .i64 w.need,Dh 9 true w.nn (w.parts.map Ag.cells)],.int .i64 d] [] fun o h'=>∃outs,o=.ret (.tup outs)∧am1 (Dh 1 false false (Nr (Gj w (Az w d)) ds w.parts.length (ds.getD 1 0))) l 0 outs h'∧(∀f,∃y,Bc 8 f (.tup outs)=some y)∧∀c∈h',Rnm c by
   obtain⟨o,h',hc,outs,rfl,q1,q2⟩:=k
   exact⟨outs,h',hc,q1,q2⟩
  obtain⟨o,h',hwy,xw,rw',rfl,rfl,hw1,hw2⟩:=al1 hw h12 (d:=d) hL (most:=ds.getD 1 0) (by omega) (wf:=false) (by rw[hEq];exact hl) hl0
  have hEg:∀(i:Nat) (p:Ag),w.parts[i]?=some p→(Gj w (Az w d))[i]?=some (p.one.toNat,p.other.toNat,if Nu p d=true then 1 else 0):=fun i p h1=>by simp[Gj,Az,akA,h1]
  have hpa:∀i p,w.parts[i]?=some p→(Be w d)[i]?=some (Iw p d,p.opn):=fun i p hp=>uB hp
  generalize ds.getD 1 0=c at *
  have hn:c≤13:=by omega
  generalize Gj w (Az w d)=E at *
  generalize Be w d=L at *
  refine adR rfl Tryd.func11 rfl rfl ?_
  simp only[Tryd.f11]
  refine Dn (fun KK iN hK=>?_)
  (have hb:=trivial;with_reducible repeat' (first|simp only[hb,Vc.down,seval,Xb.down,h1,hpc,f0,k0,v0,l0,r0,p0,n0,i0,hpl,htk24,hc,hd1,Ez,h1N,e1,hln,aaI]|refine Br ?_ ?_<;>intro hb|refine fd ?_|fail))
  refine Ls (eI 98 (agG c ()) (fun k (_:Unit) t h=>t 7=.ptr 1 0 0∧t 9=.ptr 2 0 0∧t 10=.slr 1 3 0 N∧t 37=.int .i64 (c:Int)∧t 38=.int .i64 (k:Int)∧EBr w d L ds h∧∃rows Ro,LLH 4 (t 11) h rows (Nr E ds w.parts.length k) Ro∧rows.length=k∧Ro.length≤k) (fun _ _=>())
   (fun _ e t h=>e=.exit 0∧t 7=.ptr 1 0 0∧t 9=.ptr 2 0 0∧t 10=.slr 1 3 0 N∧EBr w d L ds h∧∃rows Ro,LLH 4 (t 11) h rows (Nr E ds w.parts.length c) Ro∧rows.length=c∧Ro.length≤c) ?_ ?_ () _ _ ?_) (fun e t h hk=>?_)
  ·rintro _ t h Q' kQ ⟨g7,g9,g10,g37,g38,hB,hL⟩
   rw[afE]at g38 hL
   (have hb:=trivial;with_reducible repeat' (first|simp only[hb,Vc.down,seval,Xb.down,g37,g38,abR,decide_false]|refine Br ?_ ?_<;>intro hb|refine fd ?_|fail))
   exact kQ _ _ _ ⟨rfl,by simp[up,g7],by simp[up,g9],by simp[up,g10],hB,by simpa [up]using hL⟩
  ·rintro _ rest k _ t h J Q' kJ kQ hx hi ⟨g7,g9,g10,g37,g38,hB,rows,Ro,hL,hrl,hRl⟩
   rw[afE]at hi
   obtain⟨⟨x1,b1⟩,⟨x2,b2⟩,⟨x3,b3⟩⟩:=hB
   have hdk:decide ((k:Int)<(c:Int))=true:=decide_eq_true (by omega)
   have hwk:IntKind.i64.wrap ((k:Int)+1)=((k+1:Nat):Int):=by rw[Fz (by omega) (by omega)];omega
   obtain⟨ov,g11⟩:∃ov,t 11=ov:=⟨_,rfl⟩
   rw[g11]at hL
   have p1:=Ac b1
   have p2:=Ac b2
   have p3:=Ac b3
   (have hb:=trivial;with_reducible repeat' (first|simp only[hb,Vc.down,seval,Xb.down,g7,g9,g10,g37,g38,b1,b2,b3,hdk,aaI]|refine Br ?_ ?_<;>intro hb|refine fd ?_|fail))
   refine Ls (eI 98 w.parts (fun i (_:Unit) t h'=>t 7=.ptr 1 0 0∧t 9=.ptr 2 0 0∧t 10=.slr 1 3 0 N∧t 11=ov∧t 12=.int .i64 (k:Int)∧t 37=.int .i64 (c:Int)∧t 38=.int .i64 (k:Int)∧t 45=Dh 9 true w.nn (w.parts.map Ag.cells)∧t 46=.int .i64 (w.parts.length:Nat)∧t 47=.int .i64 (i:Int)∧(h.length≤h'.length∧∀b,b<h.length→h'[b]?=h[b]?)∧Ya (t 13) ((abS i).filter (Lr E ds k)) h' h.length) (fun _ _=>())
    (fun _ e t h'=>e=.exit 2∧t 7=.ptr 1 0 0∧t 9=.ptr 2 0 0∧t 10=.slr 1 3 0 N∧t 11=ov∧t 37=.int .i64 (c:Int)∧t 38=.int .i64 (k:Int)∧(h.length≤h'.length∧∀b,b<h.length→h'[b]?=h[b]?)∧Ya (t 13) (Zh E ds w.parts.length k) h' h.length) ?_ ?_ () _ _ ?_) (fun e t' h' hk=>?_)
   ·rintro _ t h' Q'' kQ ⟨g7,g9,g10,g11,g12,g37,g38,g45,g46,g47,hs,hN⟩
    (have hb:=trivial;with_reducible repeat' (first|simp only[hb,Vc.down,seval,Xb.down,g46,g47,abR,decide_false]|refine Br ?_ ?_<;>intro hb|refine fd ?_|fail))
    exact kQ _ _ _ ⟨rfl,by simp[up,g7],by simp[up,g9],by simp[up,g10],by simp[up,g11],by simp[up,g37],by simp[up,g38],hs,by simpa [up,Zh]using hN⟩
   ·rintro p rest i _ t h' J' Q'' kJ' kQ' hx hi ⟨g7,g9,g10,g11,g12,g37,g38,g45,g46,g47,hs,hN⟩
    have hdd:decide ((i:Int)<(w.parts.length:Int))=true:=decide_eq_true (by omega)
    have hdp:((i:Int)<(w.parts.length:Int))=True:=eq_true (by omega)
    have hww:=Em hi (by unfold maxLen;omega)
    have c1:=(hs.2 1 p1).trans b1
    have c2:=(hs.2 2 p2).trans b2
    have c3:=(hs.2 3 p3).trans b3
    have d2:=Ak c2
    have d3:=Ak c3
    have hy:=hpa i p hx
    have htt:=hU (Iw p d) p.opn
    rw[show(Iw p d==0&& !p.opn)=Nu p d from rfl]at htt
    have htk:=fR _ _ _ _ hy
    have i12:((i:Int)<12)=True:=eq_true (by omega)
    have hpz:(i*2≤23)=True:=eq_true (by omega)
    have hp24:(i*2+2≤24)=True:=eq_true (by omega)
    have hpo:=hw.part p (abN hx)
    have hE:=hEg i p hx
    generalize Nu p d=tt at *
    have hra:ds[p.one.toNat]?=some (ds.getD p.one.toNat 0):=by rw[agB,abP (by omega)];rfl
    have hrb:ds[p.other.toNat]?=some (ds.getD p.other.toNat 0):=by rw[agB,abP (by omega)];rfl
    have o1:(0≤p.one)=True:=eq_true hpo.1.1
    have o2:(p.one<(N:Int))=True:=eq_true hpo.1.2
    have o3:(0≤p.other)=True:=eq_true hpo.2.1.1
    have o4:(p.other<(N:Int))=True:=eq_true hpo.2.1.2
    have hbar:Lr E ds k i=(tt&&min (ds.getD p.one.toNat 0) (ds.getD p.other.toNat 0)==k&&max (ds.getD p.one.toNat 0) (ds.getD p.other.toNat 0)==k+1):=by
     unfold Lr;rw[hE];cases tt<;>simp
    have hrf:=sY (Lr E ds k) i
    rw[hbar]at hrf
    generalize ds.getD p.one.toNat 0=da at *
    generalize ds.getD p.other.toNat 0=db at *
    have hmn:(if(db:Int)<(da:Int)then(db:Int)else(da:Int))=((min da db:Nat):Int):=by split<;>omega
    have hmx:(if(db:Int)>(da:Int)then(db:Int)else(da:Int))=((max da db:Nat):Int):=by split<;>omega
    have hcast:∀a b:Nat,((a:Int)==(b:Int))=(a==b):=fun a b=>by rw[afG];simp;omega
    have hsA:h.length≤(h'++[CB.live 9 true true [p.cells]]).length∧∀b,b<h.length→(h'++[CB.live 9 true true [p.cells]])[b]?=h[b]?:=⟨by simp;omega,fun b hb=>by rw[abQ (by omega)];exact hs.2 b hb⟩
    cases tt with
    |false=>
     simp only[agQ,af8,if_false,agS]at hrf
     (have hb:=trivial;with_reducible repeat' (first|simp only[hb,Vc.down,seval,Xb.down,g7,g9,g10,g12,g45,g46,g47,c1,c2,c3,d2,d3,hdd,hdp,hww,hx,htt,htk,i12,hpz,hp24,hpl,Im,hra,hrb,o1,o2,o3,o4,hmn,hmx,hwk,hcast,Tc,Ez,Ag.cells,aaI]|refine Br ?_ ?_<;>intro hb|refine fd ?_|fail))
     exact Db (kJ' _ _ () ⟨by simp[up,g7],by simp[up,g9],by simp[up,g10],by simp[up,g11],by simp[up,g12],by simp[up,g37],by simp[up,g38],by simp[up,g45],by simp[up,g46],by simp[up],hsA,by rw[hrf];simpa [up]using hN.app _⟩ rfl)
    |true=>
     simp only[abT]at hrf
     cases q1:(min da db==k)with
     |false=>
      simp only[q1,agQ,af8,if_false,agS]at hrf
      (have hb:=trivial;with_reducible repeat' (first|simp only[hb,Vc.down,seval,Xb.down,g7,g9,g10,g12,g45,g46,g47,c1,c2,c3,d2,d3,hdd,hdp,hww,hx,htt,htk,i12,hpz,hp24,hpl,Im,hra,hrb,o1,o2,o3,o4,hmn,hmx,hwk,hcast,q1,Tc,Ez,Ag.cells,aaI]|refine Br ?_ ?_<;>intro hb|refine fd ?_|fail))
      exact Db (kJ' _ _ () ⟨by simp[up,g7],by simp[up,g9],by simp[up,g10],by simp[up,g11],by simp[up,g12],by simp[up,g37],by simp[up,g38],by simp[up,g45],by simp[up,g46],by simp[up],hsA,by rw[hrf];simpa [up]using hN.app _⟩ rfl)
     |true=>
     cases q2:(max da db==k+1)with
     |false=>
      simp only[q1,q2,abT,af8,if_false,agS]at hrf
      (have hb:=trivial;with_reducible repeat' (first|simp only[hb,Vc.down,seval,Xb.down,g7,g9,g10,g12,g45,g46,g47,c1,c2,c3,d2,d3,hdd,hdp,hww,hx,htt,htk,i12,hpz,hp24,hpl,Im,hra,hrb,o1,o2,o3,o4,hmn,hmx,hwk,hcast,q1,q2,Tc,Ez,Ag.cells,aaI]|refine Br ?_ ?_<;>intro hb|refine fd ?_|fail))
      exact Db (kJ' _ _ () ⟨by simp[up,g7],by simp[up,g9],by simp[up,g10],by simp[up,g11],by simp[up,g12],by simp[up,g37],by simp[up,g38],by simp[up,g45],by simp[up,g46],by simp[up],hsA,by rw[hrf];simpa [up]using hN.app _⟩ rfl)
     |true=>
     simp only[q1,q2,abT,if_true]at hrf
     have hal:((abS i).filter (Lr E ds k)).length≤i:=by have:=akP (Lr E ds k) (abS i);simpa using this
     generalize(abS i).filter (Lr E ds k)=a at *
     rcases hN with⟨rfl,ho⟩|⟨hne,b,hb3,ho,hb⟩
     ·(have hb:=trivial;with_reducible repeat' (first|simp only[hb,Vc.down,seval,Xb.down,g7,g9,g10,g12,g45,g46,g47,c1,c2,c3,d2,d3,hdd,hdp,hww,hx,htt,htk,i12,hpz,hp24,hpl,Im,hra,hrb,o1,o2,o3,o4,hmn,hmx,hwk,hcast,q1,q2,Tc,Ez,Ag.cells,aaI,ho]|refine Br ?_ ?_<;>intro hb|refine fd ?_|fail))
      exact Db (kJ' _ _ () ⟨by simp[up,g7],by simp[up,g9],by simp[up,g10],by simp[up,g11],by simp[up,g12],by simp[up,g37],by simp[up,g38],by simp[up,g45],by simp[up,g46],by simp[up],⟨by simp;omega,fun b hb=>by rw[abQ (by omega)];exact hs.2 b hb⟩,by rw[hrf];exact .inr ⟨by simp,h'.length+2,by omega,by simp[up],by rw[akQ (by omega),Nat.add_sub_cancel_left];rfl⟩⟩ rfl)
     ·have hbl:=Ac hb
      have hB2:=Ak hb
      have hS:=Hg hbl
      have hi39:(a.length+1≤549755813888)=True:=eq_true (by omega)
      (with_reducible repeat' (first|simp only[hb,Vc.down,seval,Xb.down,g7,g9,g10,g12,g45,g46,g47,c1,c2,c3,d2,d3,hdd,hdp,hww,hx,htt,htk,i12,hpz,hp24,hpl,Im,hra,hrb,o1,o2,o3,o4,hmn,hmx,hwk,hcast,q1,q2,Tc,Ez,Ag.cells,aaI,ho,hb,hB2,hS,Hn,Fe,agX,hi39]|refine Br ?_ ?_<;>intro hb|refine fd ?_|fail))
      exact Db (kJ' _ _ () ⟨by simp[up,g7],by simp[up,g9],by simp[up,g10],by simp[up,g11],by simp[up,g12],by simp[up,g37],by simp[up,g38],by simp[up,g45],by simp[up,g46],by simp[up],⟨by simp;omega,fun b' hb'=>by rw[abQ (by simp;omega),ah1 (by omega)];exact hs.2 b' hb'⟩,by rw[hrf];exact .inr ⟨by simp,h'.length+2,by omega,by simp[up],by rw[Fe];simp[Ez]⟩⟩ rfl)
   ·exact⟨by simp[up,g7],by simp[up,g9],by simp[up,g10],by simp[up,g11],by simp[up],by simp[up,g37],by simp[up,g38],by simp[up],by simp[up],by simp[up],⟨abU _,fun _ _=>rfl⟩,.inl ⟨rfl,by simp[up]⟩⟩
   obtain⟨rfl,g7,g9,g10,g11,g37,g38,hs,hN⟩:=hk
   obtain⟨bv,g13⟩:∃bv,t' 13=bv:=⟨_,rfl⟩
   rw[g13]at hN
   have hLk:=hL.keep hs.1 hs.2
   have hap:=fun(q:Aa) (r:List AV)=>ad9 hLk.own (pre:=[]) rfl q r [] (by simp;omega)
   have hhp:=fun(q:Aa) (r:List (List AV)) (ba:Nat)=>yY hLk.own (pre:=[]) rfl q 1 false r ba
   simp only[List.nil_append,List.length_cons,List.length_append,akR,agX,Nat.reduceAdd,hrl]at hap hhp
   have hcell:bv.isCell=true∧bv.flat=false∧Af bv=[bv]:=by
    rcases hN with⟨_,rfl⟩|⟨_,b,_,rfl,_⟩<;>exact⟨rfl,rfl,rfl⟩
   obtain⟨hc1,hc2,hc3⟩:=hcell
   (have hb:=trivial;with_reducible repeat' (first|simp only[hb,Vc.down,seval,Xb.down,g11,g13,g38,hwk,hap,hhp,hc1,hc2,hc3,abV,abY,ab7,aeJ]|refine Br ?_ ?_<;>intro hb|refine fd ?_|fail))
   obtain⟨R',r1,hL'⟩:=hL.snoc hs.1 hs.2 hN (by omega) (.live 1 false false [[bv]]) rfl (show k+1=rows.length+1 by omega)
   have low:∀j,j<4→(kl 0 ov h'++[CB.live 1 false false [[bv]],CB.live 1 false false (rows++[[bv]])])[j]?=h[j]?:=fun j hj=>by
    rw[jS _ (by have:=hs.1;omega) fun st m r n e e2=>by have:=(hL.dov st m r n e).1;omega,hs.2 j (by omega)]
   refine Db (kJ _ _ () ⟨by simp[up,g7],by simp[up,g9],by simp[up,g10],by simp[up,g37],by simp[up],⟨⟨x1,by rw[low 1 (by omega)];exact b1⟩,⟨x2,by rw[low 2 (by omega)];exact b2⟩,⟨x3,by rw[low 3 (by omega)];exact b3⟩⟩,rows++[[bv]],Ro++R',?_,by simp[hrl],by simp;omega⟩ rfl)
   rw[nU]
   simpa [up]using hL'
  ·exact⟨by simp[up],by simp[up],by simp[up],by simp[up],by simp[up],⟨⟨_,rfl⟩,⟨_,rfl⟩,⟨_,rfl⟩⟩,[],[],⟨.inl ⟨rfl,by simp[up]⟩,fun _=>by simp[up],rfl,by simp,fun _ _ _ _ e=>by simp[up]at e⟩,rfl,abU _⟩
  ·obtain⟨rfl,g7,g9,g10,hB,rows,Ro,hL,hrl,hRl⟩:=hk
   obtain⟨ov,g11⟩:∃ov,t 11=ov:=⟨_,rfl⟩
   rw[g11]at hL
   obtain⟨⟨x1,b1⟩,⟨x2,b2⟩,⟨x3,b3⟩⟩:=hB
   have hd2:(ds.map Ez)[1]?=some [.int .i64 (c:Nat)]:=by rw[agF,hd1];rfl
   (have hb:=trivial;with_reducible repeat' (first|simp only[hb,Vc.down,seval,Xb.down,g7,g9,g10,g11,b1,b2,b3,f0,k0,v0,l0,r0,p0,n0,i0,hpl,htk24,hwy,hd1,Ez,h1N,hln,aaI]|refine Br ?_ ?_<;>intro hb|refine fdl ?_|fail))
   obtain⟨R,r1,r2⟩:=ajG (d:=5) hL.own hL.q hL.nil
   simp only at r1 r2
   refine hK _ ?_
   rw[vU]
   have r1':rd 6 (hf (h++[CB.live 1 true xw rw'])) ov=some (Dh 1 false false (Nr E ds w.parts.length c),R):=iZ r1
   refine ah5 (vs:=[ov,.slr 1 h.length 0 l.length,.int .i64 0]) ?_ (ah4 (rows:=rw') r1' (by omega) ?_ fun outs h' k1 k2 k3=>⟨outs,rfl,⟨rw',_,k1,by omega,hw1,hw2⟩,k2,k3⟩)
   ·simp only[Vc.down,seval,Xb.down]
   ·show((h++_)[h.length]?).bind Aw=_
    rw[akQ (abU _),Nat.sub_self];rfl
theorem ab0{w:Au}{N:Nat}(hw:tO w N)(d:Int){ds:List Nat}(h:Jr (Gj w (Az w d)) 0 N Dj (fun v=>ds.getD v 0)):
 (ds.getD 1 0=Dj→Qi (Gj w (Az w d)) N (kV w N d) [0] 0=none∧kV w N d=w.parts.length+1)∧(ds.getD 1 0≠Dj→kV w N d=ds.getD 1 0∧ds.getD 1 0<N):=by
 have n2:=hw.n2
 have n8:=hw.n8
 have hE:=Um hw (Az w d)
 have hn:=yL (len:=w.parts.length) n2 (by omega) (by unfold Dj;omega) hE h
 rw[show uZ (Gj w (Az w d)) N w.parts.length=kV w N d from rfl]at hn
 refine⟨fun e=>⟨?_,by rw[←hn,if_pos e]⟩,fun e=>⟨by rw[←hn,if_neg e],(Jr.num h h (by unfold Dj;omega) (by unfold Dj;omega) (by omega) hE (v:=1) (by omega)).2.2 e⟩⟩
 cases hF:Qi (Gj w (Az w d)) N (kV w N d) [0] 0 with
 |none=>rfl
 |some l=>
  have hc:=(Rl hF).1.cst (s:=0) ⟨0,.nil 0⟩
  obtain⟨j,hj⟩:=Qn.ex hc
  have e1:=(h 1 (by omega)).1 j hj
  have e2:=hj.le (N:=N) (by omega) hE.ends hE.one
  simp only at e1
  unfold Dj at e;omega
theorem ahR(H:Aa)(w:Au)(d:Int):Ao (cN H) [.agg w.cells,.int .i64 d]=some [.agg w.cells,.int .i64 d]:=by
 have h1:cN H (.agg w.cells)=some (.agg w.cells):=Lj _ (d:=8) (by omega) (by simp[Au.cells,Xk,Xw,Gp])
 have h2:cN H (.int .i64 d)=some (.int .i64 d):=rfl
 simp only[Xj,aK,h1,h2,Ve]
theorem ah3(w:Au)(d:Int):[AV.agg w.cells,.int .i64 d].all (Aq 8)=true:=by simp[Au.cells,Xk,Xw,Gp]
theorem ab6(g:HF)(w:Au)(d:Int):[AV.agg w.cells,.int .i64 d].flatMap (Ap 12 g)=[]:=by
 rw[akS,akS,List.flatMap_nil,Lt (d:=8) (v:=.agg w.cells) _ (by omega) (by simp[Au.cells,Xk,Xw,Gp])];rfl
theorem Sl(E:List Net.Edge)(ds:List Nat)(n c:Nat):(Nr E ds n c).length=c:=by simp[Nr]
theorem aeS{H:Aa}{v:AV}{E:List Net.Edge}{ds:List Nat}{n c i:Nat}{R:List Nat}(h:rd 6 (hf H) v=some (Dh 1 false false (Nr E ds n c),R))(hi:i<c):
 ∃b x,v=.slr 1 b 0 c∧Kr (H[b]?) i=some [x]∧∃R',rd 5 (hf H) x=some (Dh 1 true false ((Zh E ds n i).map Ez),R'):=by
 rcases Vm h with⟨_,h0⟩|⟨b,rows',rfl,hb,_,_,hr⟩
 ·have:=Sl E ds n c
  rw[h0]at this;simp at this;omega
 ·obtain⟨R',hr⟩:=hr rfl
  have hX:(Nr E ds n c)[i]?=some [Dh 1 true false ((Zh E ds n i).map Ez)]:=by simp[Nr,hi]
  obtain⟨r,R2,k1,k2⟩:=cD (i:=i) hr hX
  obtain⟨a,l',R3,R4,rfl,k3,k4,_⟩:=jE k2
  obtain⟨rfl,_⟩:=qT k4
  exact⟨b,a,by rw[Sl],by rw[fE hb,k1],R3,k3⟩
theorem uV{g:HF}{v:AV}{E:List Net.Edge}{ds:List Nat}{n c:Nat}{R:List Nat}(h:rd 6 g v=some (Dh 1 false false (Nr E ds n c),R)):ln Tryd.prog 27 (some v)=some (.ret (.int .i64 (c:Int)),[]):=by
 rcases Vm h with⟨rfl,h0⟩|⟨b,rows',rfl,_⟩
 ·have:=Sl E ds n c
  rw[h0]at this;simp at this;subst this
  simp only[Vc.down,seval,TY3.down]
 ·rw[Sl]
  simp only[Vc.down,seval,TY3.down]
theorem yV{g:HF}{d b n:Nat}{rows:List (List AV)}(h:(g b).bind Aw=some (1,true,rows))(hn:n≤rows.length):Fg (d+1) g (.slr 1 b 0 n)=some (.imm 1 true (rows.take n)):=by
 obtain⟨c,hc,hz⟩:=Option.bind_eq_some_iff.1 h
 have:Du g b 0 n=some (1,true,rows.take n):=by
  unfold Du
  rw[hc]
  cases c<;>simp[Aw]at hz<;>(obtain⟨rfl,rfl,rfl⟩:=hz;simp[hn])
 simp[Fg,Ea,this]
theorem aaX{w:Au}{N:Nat}(hw:tO w N){ts:List Bool}{i:Nat}{p:Ag}{t:Bool}(hp:w.parts[i]?=some p)(ht:ts[i]?=some t):(Gj w ts)[i]?=some (p.one.toNat,p.other.toNat,if t=true then 1 else 0):=by simp[Gj,akA,hp,ht]
theorem agK{w:Au}{N:Nat}(hw:tO w N){ts:List Bool}(ht:ts.length=w.parts.length)(l:List Int)(nn:Bool)(hl:l.length≤1000):
 Fq.call (.fn 18) [.agg [.int .i64 w.rooms,.int .i64 w.need,Dh 9 true w.nn (w.parts.map Ag.cells)],Dh 1 true nn (l.map iv)] []=some (.ret (.bool (Xi (Gj w ts) [0] 0 l)),[]):=by
 have n2:=hw.n2
 have n8:=hw.n8
 have hlen:=hw.len
 have hpr:∀n:Int,Jz n 0 (IntKind.i64.wrap ((w.parts.length:Int)-1))=(decide (0≤n)&&decide (n<(w.parts.length:Int))):=fun n=>by
  unfold Jz
  have hne:w.parts.length≠0:=fun h=>hw.ne (List.length_eq_zero_iff.1 h)
  rw[Fz (by omega) (by omega)]
  rw[afG];simp;omega
 obtain⟨ans,hans⟩:∃a,Xi (Gj w ts) [0] 0 l=a:=⟨_,rfl⟩
 rw[hans]
 refine ce Tryd.func18 ?_
 simp only[Tryd.f18]
 (have hb:=trivial;with_reducible repeat' (first|simp only[hb,Vc.down,seval,iW.down,aaI]|refine Br ?_ ?_<;>intro hb|refine fd ?_|fail))
 refine Ls (eI 53 l (fun i (zz:Nat × List Nat) t h=>t 1=Dh 1 true nn (l.map iv)∧t 2=.ptr 0 0 0∧t 6=.int .i64 (i:Int)∧(∃fl x,h[0]?=some (.live 3 fl x [[.int .i64 w.rooms,.int .i64 w.need,Dh 9 true w.nn (w.parts.map Ag.cells)]]))∧zz.2.length=i∧(∀r∈zz.1::zz.2,r<N)∧∃b x,0<b∧t 5=.slr 1 b 0 (i+1)∧h[b]?=some (.live 1 true x ((zz.1::zz.2).reverse.map Ez))) (fun rest zz=>Xi (Gj w ts) (zz.1::zz.2) zz.1 rest)
  (fun r e t h=>(e=.exit 0∧∃(zz:Nat × List Nat) (b:Nat) (x:Bool),r=(zz.1==1)∧t 5=.slr 1 b 0 (zz.2.length+1)∧zz.2.length≤1000∧h[b]?=some (.live 1 true x ((zz.1::zz.2).reverse.map Ez)))∨(e=.ret∧r=false∧t 4=.bool false)) ?_ ?_ (0,[]) _ _ ?_) (fun e t h hk=>?_)
 ·rintro⟨a,rs⟩ t h Q' kQ ⟨g1,g2,g6,⟨fl,x,hb0⟩,hz,hN,b,x2,hb,g5,hB⟩
  dsimp only at *
  (have hb:=trivial;with_reducible repeat' (first|simp only[hb,Vc.down,seval,iW.down,g1,g2,g6,abR,decide_false,aaI]|refine Br ?_ ?_<;>intro hb|refine fd ?_|fail))
  exact kQ _ _ _ (.inl ⟨rfl,(a,rs),b,x2,rfl,by simp[up,g5,hz],by dsimp only;omega,hB⟩)
 ·rintro z rest i ⟨a,rs⟩ t h J Q' kJ kQ hx hi ⟨g1,g2,g6,⟨fl,x,hb0⟩,hz,hN,b,x2,hb,g5,hB⟩
  dsimp only at *
  have hd:decide ((i:Int)<(l.length:Int))=true:=decide_eq_true (by omega)
  have hw':=Em hi (by unfold maxLen;omega)
  have hP:=xC w z
  rw[hpr z]at hP
  have hwI:Xi (Gj w ts) (a::rs) a (z::rest)=(decide (0≤z)&&(match(Gj w ts)[z.toNat]? with
   |none=>false
   |some e=>match bW e a with
    |none=>false
    |some r=> !(a::rs).contains r&&Xi (Gj w ts) (r::a::rs) r rest)):=rfl
  obtain⟨rm,hrm⟩:∃r,(a::rs).reverse.map Ez=r:=⟨_,rfl⟩
  have hrl:rm.length=i+1:=by rw[←hrm];simp[hz]
  have hlast:rm[i]?=some [.int .i64 (a:Int)]:=by rw[←hrm,←hz];simp[Ez]
  rw[hrm]at hB
  cases cP:(decide (0≤z)&&decide (z<(w.parts.length:Int)))with
  |false=>
   rw[cP]at hP
   have hf:(decide (0≤z)&&(match(Gj w ts)[z.toNat]? with
    |none=>false
    |some e=>match bW e a with
     |none=>false
     |some r=> !(a::rs).contains r&&Xi (Gj w ts) (r::a::rs) r rest))=false:=by
    by_cases h0:0≤z
    ·have h1:¬z<(w.parts.length:Int):=by simpa [h0]using cP
     rw[akT (by rw[iG ht];omega)];simp
    ·simp[h0]
   rw[hf]at hwI
   (have hb:=trivial;with_reducible repeat' (first|simp only[hb,Vc.down,seval,iW.down,g1,g2,g6,hd,hw',hb0,hx,hP,iv,aaI]|refine Br ?_ ?_<;>intro hb|refine fd ?_|fail))
   exact kQ _ _ _ (.inr ⟨rfl,hwI,by simp[up]⟩)
  |true=>
  rw[cP]at hP
  simp only[af9,decide_eq_true_eq]at cP
  obtain⟨p,hp⟩:∃p,w.parts[z.toNat]?=some p:=⟨_,abP (by omega)⟩
  obtain⟨tt,htt⟩:∃b,ts[z.toNat]?=some b:=⟨_,abP (by omega)⟩
  have hpo:=hw.part p (abN hp)
  have hE:=aaX hw hp htt
  have z0:(0≤z)=True:=eq_true cP.1
  have z1:(z<(w.parts.length:Int))=True:=eq_true cP.2
  have z2:decide (0≤z)=true:=decide_eq_true cP.1
  have hT:=aMH p (a:Int)
  simp only[Ag.cells]at hT
  rw[amZ (c:=if tt=true then 1 else 0) hpo.1.1 hpo.2.1.1]at hT
  have hii:((i:Int)<((i+1:Nat):Int))=True:=eq_true (by omega)
  rw[hE,z2,abT]at hwI
  simp only at hwI
  cases hto:bW (p.one.toNat,p.other.toNat,if tt=true then 1 else 0) a with
  |none=>
   rw[hto]at hT hwI
   simp only at hT hwI
   (have hb:=trivial;with_reducible repeat' (first|simp only[hb,Vc.down,seval,iW.down,g1,g2,g5,g6,hd,hw',hb0,hB,hx,hp,hP,hT,z0,z1,hrl,hlast,hii,iv,Ag.cells,aaI]|refine Br ?_ ?_<;>intro hb|refine fd ?_|fail))
   exact kQ _ _ _ (.inr ⟨rfl,hwI,by simp[up]⟩)
  |some r=>
  rw[hto]at hT hwI
  simp only at hT hwI
  have hrN:r<N:=by
   have he:=Sj (E:=[(p.one.toNat,p.other.toNat,if tt=true then 1 else 0)]) (by simp) hto
   rcases he with he|he<;>simp at he<;>omega
  have c1:decide ((r:Int)<0)=false:=decide_eq_false (by omega)
  have hH:=ah6 (a::rs).reverse true r (by simp[maxLen];omega)
  rw[hrm,bU]at hH
  have hrev:(a::rs).reverse.contains r=(a::rs).contains r:=by
   rw[afG];simp[or_comm]
  rw[hrev]at hH
  have htk:List.take (i+1) rm=rm:=ajK (by omega)
  cases hin:(a::rs).contains r with
  |true=>
   rw[hin]at hH hwI
   simp only[abO,agQ]at hwI
   (have hb:=trivial;with_reducible repeat' (first|simp only[hb,Vc.down,seval,iW.down,g1,g2,g5,g6,hd,hw',hb0,hB,hx,hp,hP,hT,hH,htk,c1,z0,z1,hrl,hlast,hii,iv,Ag.cells,aaI]|refine Br ?_ ?_<;>intro hb|refine fd ?_|fail))
   exact kQ _ _ _ (.inr ⟨rfl,hwI,by simp[up]⟩)
  |false=>
   rw[hin]at hH hwI
   simp only[akZ,abT]at hwI
   have hbl:=Ac hB
   have hB2:=Ak hB
   have hS:=Hg hbl
   have hi39:(i+1+1≤549755813888)=True:=eq_true (by omega)
   have hi40:(i≤549755813886)=True:=eq_true (by omega)
   (have hb:=trivial;with_reducible repeat' (first|simp only[hb,Vc.down,seval,iW.down,g1,g2,g5,g6,hd,hw',hb0,hB,hB2,hS,Hn,Fe,agX,hi39,hi40,hx,hp,hP,hT,hH,htk,c1,z0,z1,hrl,hlast,hii,iv,Ag.cells,aaI]|refine Br ?_ ?_<;>intro hb|refine fd ?_|fail))
   refine Db (kJ _ _ ((r,a::rs):Nat × List Nat) ⟨by simp[up,g1],by simp[up,g2],by simp[up],⟨fl,x,pD _ (by omega) hb0 _⟩,by simp[hz],fun y hy=>?_,h.length+1,false,by omega,by simp[up],?_⟩ hwI.symm)
   ·rcases List.mem_cons.1 hy with rfl|hy
    ·exact hrN
    ·exact hN y hy
   ·rw[Fe,←hrm];simp[Ez]
 ·exact⟨by simp[up,Qo],by simp[up],by simp[up],⟨_,_,rfl⟩,rfl,by simp;omega,1,_,by omega,by simp[up],rfl⟩
 ·rcases hk with⟨rfl,⟨a,rs⟩,b,x,hr,g5,hl2,hB⟩|⟨rfl,hr,g4⟩
  ·dsimp only at *
   rw[hans]at hr
   obtain⟨rm,hrm⟩:∃r,(a::rs).reverse.map Ez=r:=⟨_,rfl⟩
   have hrl:rm.length=rs.length+1:=by rw[←hrm];simp
   have hlast:rm[rs.length]?=some [.int .i64 (a:Int)]:=by rw[←hrm];simp[Ez]
   rw[hrm]at hB
   have hw1:IntKind.i64.wrap (((rs.length+1:Nat):Int)-1)=(rs.length:Int):=by
    have:=Fz (n:=(rs.length:Int)) (by omega) (by omega)
    rw[show(((rs.length+1:Nat):Int)-1)=(rs.length:Int) by omega];exact this
   have hc:((a:Int)==1)=ans:=by rw[hr,afG];simp;omega
   have hii:((rs.length:Int)<((rs.length+1:Nat):Int))=True:=eq_true (by omega)
   (have hb:=trivial;with_reducible repeat' (first|simp only[hb,Vc.down,seval,iW.down,g5,hB,hrl,hlast,hw1,hc,hii,Int.toNat_natCast]|refine Br ?_ ?_<;>intro hb|refine fd ?_|fail))
  ·rw[hans]at hr
   rw[hr]
   (have hb:=trivial;with_reducible repeat' (first|simp only[hb,Vc.down,seval,iW.down,g4]|refine Br ?_ ?_<;>intro hb|refine fd ?_|fail))
theorem tW{w:Au}{ts:List Bool}{ds:List Nat}{k p:Nat}(h:Lr (Gj w ts) ds k p=true):ts[p]?=some true:=by
 unfold Lr at h
 split at h
 ·rename_i e he
  obtain⟨q,t,h1,h2,rfl⟩:=pV he
  simp only[af9,beq_iff_eq]at h
  cases t with
  |true=>exact h2
  |false=>simp at h
 ·cases h
theorem afX{E:List Net.Edge}{ds:List Nat}{k k' p:Nat}(h:Lr E ds k p=true)(h':Lr E ds k' p=true):k=k':=by
 unfold Lr at h h'
 cases he:E[p]? with
 |none=>rw[he]at h;cases h
 |some e=>
  rw[he]at h h'
  simp only[af9,beq_iff_eq]at h h'
  omega
theorem yF{g:HF}{v:AV}{l:List Nat}{R:List Nat}(h:rd 5 g v=some (Dh 1 true false (l.map Ez),R)):ln Tryd.prog 28 (some v)=some (.ret (.int .i64 (l.length:Int)),[]):=by
 rcases Vm h with⟨rfl,h0⟩|⟨b,rows',rfl,_⟩
 ·obtain rfl:=List.map_eq_nil_iff.1 h0
  simp only[Vc.down,seval,cO.down,akR,aj9]
 ·simp only[Vc.down,seval,cO.down,aaI]
theorem dT:∀{l:List Nat} {i j x:Nat},l.Nodup→l[i]?=some x→l[j]?=some x→i=j
 | [],i,j,x,_,h,_=>by simp at h
 |a::l,0,0,x,_,_,_=>rfl
 |a::l,0,j+1,x,hn,h1,h2=>by
  simp at h1 h2;subst h1
  exact absurd (abN h2) (aiN.1 hn).1
 |a::l,i+1,0,x,hn,h1,h2=>by
  simp at h1 h2;subst h2
  exact absurd (abN h1) (aiN.1 hn).1
 |a::l,i+1,j+1,x,hn,h1,h2=>by
  exact congrArg (· +1) (dT (l:=l) (x:=x) (aiN.1 hn).2 (by simpa using h1) (by simpa using h2))
theorem ah8(l:List Nat):(l.map Int.ofNat).map iv=l.map Ez:=by rw[List.map_map];rfl
theorem oO(kn:Fq.call (.fn 10) [] []=some (.ret (.bool true),[]))(w:Au)(hs:w.small)(d:Int)(oth:List Int)(nn:Bool)(hol:oth.length≤maxLen):Fq.call (.fn 4) [.agg [.int .i64 w.rooms,.int .i64 w.need,Dh 9 true w.nn (w.parts.map Ag.cells)],.int .i64 d,Dh 1 true nn (oth.map iv)] []=some (.ret (.bool true),[]):=by
 have h1:=ac2 w
 have h3:=ah2 w hs
 have h4:=yG d
 cases c1:mJ w with
 |false=>
  rw[c1]at h1
  (refine ce Tryd.func4 ?_;simp only[Tryd.f4];(have hb:=trivial;with_reducible repeat' (first|simp only[hb,Vc.down,seval,cO.down,h1,h3,h4,kn,aaI]|refine Br ?_ ?_<;>intro hb|refine fd ?_|fail)))
 |true=>
 rw[c1]at h1
 cases c2:Oo w with
 |false=>
  rw[c2]at h3
  (refine ce Tryd.func4 ?_;simp only[Tryd.f4];(have hb:=trivial;with_reducible repeat' (first|simp only[hb,Vc.down,seval,cO.down,h1,h3,h4,kn,aaI]|refine Br ?_ ?_<;>intro hb|refine fd ?_|fail)))
 |true=>
 rw[c2]at h3
 cases c3:Vr d with
 |false=>
  rw[c3]at h4
  (refine ce Tryd.func4 ?_;simp only[Tryd.f4];(have hb:=trivial;with_reducible repeat' (first|simp only[hb,Vc.down,seval,cO.down,h1,h3,h4,kn,aaI]|refine Br ?_ ?_<;>intro hb|refine fd ?_|fail)))
 |true=>
 rw[c3]at h4
 cases c4:decide ((oth.length:Int)>8)with
 |true=>
  (refine ce Tryd.func4 ?_;simp only[Tryd.f4];(have hb:=trivial;with_reducible repeat' (first|simp only[hb,Vc.down,seval,cO.down,h1,h3,h4,kn,aaI,c4]|refine Br ?_ ?_<;>intro hb|refine fd ?_|fail)))
 |false=>
 obtain⟨N,hw,h12⟩:=pK c2
 have hzd:(Oo w&&Vr d)=true:=by rw[c2,c3];rfl
 have n2:=hw.n2
 have n8:=hw.n8
 have ho8:oth.length≤8:=by
  have:((oth.length:Nat):Int)≤8:=by simpa using c4
  omega
 have hN:=uL hw h12 hs d hzd
 obtain⟨ds,hdl,hR,hB⟩:=nO hw h12 hs d hzd
 obtain⟨wn1,wn2⟩:=ab0 hw d hR
 have hWo:=agK hw (Mc w d) oth nn (by omega)
 have hE:=Um hw (Az w d)
 rcases hB with⟨e,hB⟩|⟨e,l,hl,hl0,outs,h',hB,hQ,hq1,hq2⟩
 ·have hno:Xi (Gj w (Az w d)) [0] 0 oth=false:=by
   rw[Bool.eq_false_iff];intro h
   obtain⟨l',rfl,hl'⟩:=Ri.1 h
   have hc:=hl'.cst (s:=0) ⟨0,.nil 0⟩
   obtain⟨j,hj⟩:=Qn.ex hc
   have e1:=(hR 1 (by omega)).1 j hj
   have e2:=hj.le (N:=N) (by omega) hE.ends hE.one
   simp only at e1
   unfold Dj at e;omega
  rw[hno]at hWo
  rw[(wn1 e).2]at hN
  have hlen:=hw.len
  have hwl:IntKind.i64.wrap ((w.parts.length:Int)+1)=((w.parts.length+1:Nat):Int):=by have:=Fz (n:=((w.parts.length+1:Nat):Int)) (by omega) (by omega);simpa using this
  (refine ce Tryd.func4 ?_;simp only[Tryd.f4];(have hb:=trivial;with_reducible repeat' (first|simp only[hb,Vc.down,seval,cO.down,hB,hN,hWo,hwl,c4,h1,h3,h4,kn,bne,beq_self_eq_true,abO,Int.reduceBEq,akZ,aaI]|refine Br ?_ ?_<;>intro hb|refine fd ?_|fail)))
 obtain⟨e2,e3⟩:=wn2 e
 have hlen:=hw.len
 have hiw:=(Rl hl).1
 have hll:l.length≤8:=by
  have:=hiw.len hE (by simp) (by simp;omega)
  simp at this;omega
 have hLst:Qn (Gj w (Az w d)) 0 1 (ds.getD 1 0):=by
  have hc:=hiw.cst (s:=0) ⟨0,.nil 0⟩
  obtain⟨j,hj⟩:=Qn.ex hc
  have e4:=(hR 1 (by omega)).1 j hj
  simp only at e4
  rw[e4];exact hj
 have hcost:=vK hl hLst
 have hWl:=agK hw (Mc w d) (l.map Int.ofNat) true (by simp;omega)
 rw[Ri.2 ⟨l,rfl,hiw⟩,ah8,bU]at hWl
 have hlt:=hiw.lt
 rw[iG (Mc w d)]at hlt
 have h5:=ad3 w d hw.len hw.ne
 have htl:=Mc w d
 have hmem:∀k p,p∈Zh (Gj w (Az w d)) ds w.parts.length k→p<w.parts.length∧Lr (Gj w (Az w d)) ds k p=true:=fun k p hp=>⟨ak3.1 (ajA.1 hp).1,(ajA.1 hp).2⟩
 have hnd:∀k,(Zh (Gj w (Az w d)) ds w.parts.length k).Nodup:=fun k=>List.Nodup.sublist List.filter_sublist List.nodup_range
 have hbl:∀k,(Zh (Gj w (Az w d)) ds w.parts.length k).length≤1000:=fun k=>by
  have:=akP (Lr (Gj w (Az w d)) ds k) (abS w.parts.length)
  unfold Zh;simp at this;omega
 have hthr:Xi (Gj w (Az w d)) [0] 0 oth=true→∀k,k<ds.getD 1 0→(Zh (Gj w (Az w d)) ds w.parts.length k).any (fun p=>oth.any (· ==(p:Int)))=true:=fun h k hk=>by
  obtain⟨l',rfl,hl'⟩:=Ri.1 h
  obtain⟨i,e,j1,j2,j3,j4,j5⟩:=eK hE (fun u v c hs=>sS hE hR hs) (k:=k) (show k+1≤ds.getD 1 0 by omega) hl' (show ds.getD 0 0≤k by have:=(hR 0 (by omega)).1 0 Qn.src;simp only at this;omega)
  rw[alE]
  refine⟨i,ajA.2 ⟨ak3.2 ?_,?_⟩,?_⟩
  ·have:=(List.getElem?_eq_some_iff.1 j2).1
   rwa[iG (Mc w d)]at this
  ·unfold Lr;rw[j2]
   simp only[af9,beq_iff_eq]
   exact⟨⟨j3,j4⟩,j5⟩
  ·rw[alE]
   exact⟨(i:Int),List.mem_map.2 ⟨i,j1,rfl⟩,by simp⟩
 have hta:∀k p,Lr (Gj w (Az w d)) ds k p=true→(Az w d)[p]?=some true:=fun k p h=>tW h
 have hec:∀i p,l[i]?=some p→∃t,(Az w d)[p]?=some t∧Ee (Gj w (Az w d)) (l.take (i+1))=Ee (Gj w (Az w d)) (l.take i)+if t=true then 1 else 0:=fun i p hp=>by
  have hpl:=hlt p (abN hp)
  obtain⟨t,ht⟩:∃t,(Az w d)[p]?=some t:=⟨_,abP (by omega)⟩
  refine⟨t,ht,?_⟩
  rw[alG,hp,Pj]
  simp only[Option.toList_some,Ee,aaX hw (abP hpl) ht,Option.map_some,Option.getD_some,Nat.add_zero]
 have htl0:Ee (Gj w (Az w d)) (l.take l.length)=ds.getD 1 0:=by rw[alH];exact hcost
 rw[e2]at hN
 have hone:∀k k' p,Lr (Gj w (Az w d)) ds k p=true→Lr (Gj w (Az w d)) ds k' p=true→k=k':=fun k k' p=>afX
 have hwle:∀i,Ee (Gj w (Az w d)) (l.take i)≤8:=fun i=>by
  have:=Pj (Gj w (Az w d)) (l.take i) (l.drop i)
  rw[List.take_append_drop]at this;omega
 obtain⟨rows,n,hS,hn,hr1,hr2⟩:=hQ
 generalize Xi (Gj w (Az w d)) [0] 0 oth=wb at *
 generalize ds.getD 1 0=c at *
 generalize Gj w (Az w d)=E at *
 generalize Az w d=ts at *
 have kn':=kn
 obtain⟨q,hq⟩:∃q,Fn.func 11=q:=⟨_,rfl⟩
 obtain⟨qW,hqW⟩:∃q,Fn.func 18=q:=⟨_,rfl⟩
 refine ce Tryd.func4 ?_
 simp only[Tryd.f4]
 (have hb:=trivial;with_reducible repeat' (first|simp only[hb,Vc.down,seval,cO.down,h1,h3,h4,c4,hN,hq,bne,beq_self_eq_true,abO,aaI]|refine Br ?_ ?_<;>intro hb|refine fd ?_|fail))
 generalize hE1:cl Fq _ (some (.func q [] [])) (some _)=E1
 rw[←hq]at hE1
 obtain⟨outs1,es,H1,rfl,eh,k1,k2⟩:=ag7 hE1 (xH rfl) (ahR _ w d) (ah3 w d) hB hS hq1 hq2
 rw[show [AV.agg [AV.int .i64 w.rooms,.int .i64 w.need,Dh 9 true w.nn (w.parts.map Ag.cells)],.int .i64 d]=[AV.agg w.cells,.int .i64 d]from rfl,ab6]at k1
 obtain⟨v,b,R,rfl,kr,kl,kb,kb1,kR⟩:=k2.ex
 have m0:H1[0]?=some (.live 3 false false [[.int .i64 w.rooms,.int .i64 w.need,Dh 9 true w.nn (w.parts.map Ag.cells)]]):=k1.same 0 (by simp) (by simp)
 have n0:=Ak m0
 have hlv:=uV kr
 obtain⟨p1,p2⟩:=zB kr
 have hbL:=fD kb
 have hrl:=wQ (by omega) (fO kr oY)
 (have hb:=trivial;with_reducible repeat' (first|simp only[hb,Vc.down,seval,cO.down,eh,p1,p2,h5,hlv,m0,n0,hqW,abV,abY,ab7,aeJ,bne,beq_self_eq_true,abO,Int.reduceBEq]|refine Br ?_ ?_<;>intro hb|refine fdl ?_|fail))
 generalize hE2:cl Fq _ (some (.func qW [] [])) (some _)=E2
 rw[←hqW]at hE2
 have kb2:∀l',(hf (H1++l') b).bind Aw=some (1,true,rows):=fun l'=>by
  show((H1++l')[b]?).bind Aw=_
  rw[abQ hbL];exact kb
 have hsl:∀l',cN (H1++l') (.slr 1 b 0 l.length)=some (.imm 1 true (l.map Ez)):=fun l'=>by
  rw[←hr1];exact yV (kb2 l') hr2
 have hwa:∀H,cN H (.agg [AV.int .i64 w.rooms,.int .i64 w.need,Dh 9 true w.nn (w.parts.map Ag.cells)])=some (.agg [AV.int .i64 w.rooms,.int .i64 w.need,Dh 9 true w.nn (w.parts.map Ag.cells)]):=fun H=>Lj _ (d:=8) (by omega) (by simp[Xk,Xw,Gp])
 have hpi:∀d rows,Aq (d+1) (.imm 1 true rows)=true:=fun d rows=>by have:=Gp d 1 true true rows;rwa[bU]at this
 have m1:((w.parts.length:Int)≤(w.parts.length:Int))=True:=eq_true (Int.le_refl _)
 have m2:((w.parts.length:Int)≤1099511627776)=True:=eq_true (by omega)
 have hS2:=hE2.symm.trans (aaB (vs:=[.agg [AV.int .i64 w.rooms,.int .i64 w.need,Dh 9 true w.nn (w.parts.map Ag.cells)],.imm 1 true (l.map Ez)]) (v:=.bool true) (xH rfl) (by
  simp only[Xj,aK,hsl,hwa,Ve]) (by simp[hpi,Xk,Xw,Gp]) hWl rfl rfl)
 subst hS2
 (have hb:=trivial;with_reducible repeat' (first|simp only[hb,Vc.down,seval,cO.down,n0,hlv,m1,m2,abO,aaI]|refine Br ?_ ?_<;>intro hb|refine fdl ?_|fail))
 have hbg:=fun k (hk:k<c)=>aeS (i:=k) kr hk
 have hyr:∀(bb i:Nat) (x:List AV) l',Kr (H1[bb]?) i=some x→Kr ((H1++l')[bb]?) i=some x:=fun bb i x l' h=>by
  have hlt:bb<H1.length:=by
   by_cases hh:bb<H1.length
   ·exact hh
   ·rw[akT (by omega)]at h;simp[Kr]at h
  rw[abQ hlt];exact h
 refine Ls (eI 172 (agG c ()) (fun k (_:Unit) t h=>t 2=Dh 1 true nn (oth.map iv)∧t 3=.ptr 0 0 0∧t 7=.int .i64 (c:Int)∧t 9=v∧t 10=.slr 1 b 0 l.length∧t 12=.slr 1 H1.length 0 w.parts.length∧t 13=.slr 1 (H1.length+1) 0 w.parts.length∧t 14=.int .i64 (k:Int)∧∃(x:Bool) (mm:List Int),h=H1++[.live 1 true false (ts.map Tc),.live 1 true x (mm.map iv)]∧mm.length=w.parts.length∧∀k' i,k≤k'→i<w.parts.length→Lr E ds k' i=true→mm[i]?=some 0) (fun _ _=>())
  (fun _ e t h=>e=.exit 0∧t 7=.int .i64 (c:Int)∧t 10=.slr 1 b 0 l.length∧t 12=.slr 1 H1.length 0 w.parts.length∧∃(x:Bool) (mm:List Int),h=H1++[.live 1 true false (ts.map Tc),.live 1 true x (mm.map iv)]) ?_ ?_ () _ _ ?_) (fun e t h hk=>?_)
 ·rintro _ t h Q' kQ ⟨g2,g3,g7,g9,g10,g12,g13,g14,x,mm,rfl,hm1,hm2⟩
  rw[afE]at g14
  (have hb:=trivial;with_reducible repeat' (first|simp only[hb,Vc.down,seval,cO.down,g9,g14,hlv,abR,decide_false]|refine Br ?_ ?_<;>intro hb|refine fd ?_|fail))
  exact kQ _ _ _ ⟨rfl,by simp[up,g7],by simp[up,g10],by simp[up,g12],x,mm,rfl⟩
 ·rintro _ rest k _ t h J Q' kJ kQ hx hi ⟨g2,g3,g7,g9,g10,g12,g13,g14,x,mm,rfl,hm1,hm2⟩
  rw[afE]at hi
  have hdd:decide ((k:Int)<(c:Int))=true:=decide_eq_true (by omega)
  have hii:((k:Int)<(c:Int))=True:=eq_true (by omega)
  have hwk:IntKind.i64.wrap ((k:Int)+1)=((k+1:Nat):Int):=by rw[Fz (by omega) (by omega)];omega
  obtain⟨b1,x1,rfl,y1,R1,z1⟩:=hbg k hi
  obtain⟨u1,u2⟩:=zB z1
  have hlx:=yF z1
  have y1':=fun l'=>hyr _ _ _ l' y1
  (have hb:=trivial;with_reducible repeat' (first|simp only[hb,Vc.down,seval,cO.down,g9,g14,hlv,hdd]|refine Br ?_ ?_<;>intro hb|refine fd ?_|fail))
  have hblk:=hbl k
  have hndk:=hnd k
  have hmk:=fun p=>hmem k p
  have hthk:=fun h=>hthr h k hi
  obtain⟨bl,hbk⟩:∃bl,Zh E ds w.parts.length k=bl:=⟨_,rfl⟩
  rw[hbk]at hblk hndk hmk hthk z1 hlx
  refine Ls (eI 172 bl (fun j (_:Unit) t h=>t 2=Dh 1 true nn (oth.map iv)∧t 3=.ptr 0 0 0∧t 7=.int .i64 (c:Int)∧t 9=.slr 1 b1 0 c∧t 10=.slr 1 b 0 l.length∧t 12=.slr 1 H1.length 0 w.parts.length∧t 13=.slr 1 (H1.length+1) 0 w.parts.length∧t 14=.int .i64 (k:Int)∧t 15=.bool ((bl.take j).any fun p=>oth.any (· ==(p:Int)))∧t 16=.int .i64 (j:Int)∧∃(x:Bool) (mm:List Int),h=H1++[.live 1 true false (ts.map Tc),.live 1 true x (mm.map iv)]∧mm.length=w.parts.length∧(∀k' i,k<k'→i<w.parts.length→Lr E ds k' i=true→mm[i]?=some 0)∧∀j' p,j≤j'→bl[j']?=some p→mm[p]?=some 0) (fun _ _=>())
   (fun _ e t h=>e=.exit 2∧t 2=Dh 1 true nn (oth.map iv)∧t 3=.ptr 0 0 0∧t 7=.int .i64 (c:Int)∧t 9=.slr 1 b1 0 c∧t 10=.slr 1 b 0 l.length∧t 12=.slr 1 H1.length 0 w.parts.length∧t 13=.slr 1 (H1.length+1) 0 w.parts.length∧t 14=.int .i64 (k:Int)∧t 15=.bool (bl.any fun p=>oth.any (· ==(p:Int)))∧∃(x:Bool) (mm:List Int),h=H1++[.live 1 true false (ts.map Tc),.live 1 true x (mm.map iv)]∧mm.length=w.parts.length∧(∀k' i,k<k'→i<w.parts.length→Lr E ds k' i=true→mm[i]?=some 0)) ?_ ?_ () _ _ ?_) (fun e t h hk=>?_)
  ·rintro _ t h Q'' kQ ⟨g2,g3,g7,g9,g10,g12,g13,g14,g15,g16,x,mm,rfl,hm1,hm2,_⟩
   rw[alH]at g15
   (have hb:=trivial;with_reducible repeat' (first|simp only[hb,Vc.down,seval,cO.down,g9,g14,g16,hii,y1',u1,u2,hlx,abV,abY,ab7,aeJ,abR,decide_false]|refine Br ?_ ?_<;>intro hb|refine fd ?_|fail))
   exact kQ _ _ _ ⟨rfl,by simp[up,g2],by simp[up,g3],by simp[up,g7],by simp[up,g9],by simp[up,g10],by simp[up,g12],by simp[up,g13],by simp[up,g14],by simp only[up];simpa using g15,x,mm,rfl,hm1,hm2⟩
  ·rintro p rest j _ t h J' Q'' kJ' kQ' hx hj ⟨g2,g3,g7,g9,g10,g12,g13,g14,g15,g16,x,mm,rfl,hm1,hm2,hm3⟩
   have hdj:decide ((j:Int)<(bl.length:Int))=true:=decide_eq_true (by omega)
   have hij:((j:Int)<(bl.length:Int))=True:=eq_true (by omega)
   have hwj:=Em hj (by unfold maxLen;omega)
   obtain⟨hpl,hpb⟩:=hmk p (abN hx)
   have hpt:=hta k p hpb
   have hm0:=hm3 j p (abU _) hx
   have hP:=xC w (p:Int)
   have hPt:Jz (p:Int) 0 (IntKind.i64.wrap ((w.parts.length:Int)-1))=true:=by
    unfold Jz
    rw[Fz (by omega) (by omega)]
    simp;omega
   rw[hPt]at hP
   have hip:((p:Int)<(w.parts.length:Int))=True:=eq_true (by omega)
   have hw1:IntKind.i64.wrap 1=1:=rfl
   have h00:decide ((0:Int)>0)=false:=rfl
   have hH:=agE oth nn (p:Int) hol
   have htk:(bl.take (j+1)).any (fun p=>oth.any (· ==(p:Int)))=((bl.take j).any (fun p=>oth.any (· ==(p:Int)))||oth.any (· ==(p:Int))):=by
    rw[alG,hx];simp[List.any_append]
   rcases Vm z1 with⟨_,h0⟩|⟨bb,rows',rfl,hbb,_,hfl,_⟩
   ·simp at h0;subst h0;simp at hx
   obtain rfl:=hfl rfl
   rw[aaI]at *
   have yb:=fun l'=>hyr bb j [.int .i64 (p:Int)] l' (by rw[fE hbb];simp[hx,Ez])
   have mS:(mm.map iv).set p [.int .i64 1]=(mm.set p 1).map iv:=by rw[List.map_set];rfl
   have hm2':∀k' i,k<k'→i<w.parts.length→Lr E ds k' i=true→(mm.set p 1)[i]?=some 0:=fun k' i hk hi hb=>by
    rw[ah1]
    ·exact hm2 k' i hk hi hb
    ·intro e;subst e;have:=hone _ _ _ hpb hb;omega
   have hm3':∀j' p',j+1≤j'→bl[j']?=some p'→(mm.set p 1)[p']?=some 0:=fun j' p' hj' hp'=>by
    rw[ah1]
    ·exact hm3 j' p' (by omega) hp'
    ·intro e;subst e
     have:=dT hndk hx hp'
     omega
   cases qA:(bl.take j).any fun p=>oth.any (· ==(p:Int))with
   |true=>
    rw[qA]at g15 htk
    rw[Bool.true_or]at htk
    (have hb:=trivial;with_reducible repeat' (first|simp only[hb,Vc.down,seval,cO.down,g2,g3,g9,g12,g13,g14,g15,g16,hii,y1',yb,n0,hdj,hij,hwj,hP,hpt,hm0,hip,hw1,h00,hm1,htl,hH,Tc,iv,abV,abY,ab7,aeJ,aaI,abO]|refine Br ?_ ?_<;>intro hb|refine fd ?_|fail))
    exact Db (kJ' _ _ () ⟨by simp[up,g2],by simp[up,g3],by simp[up,g7],by simp[up,g9],by simp[up,g10],by simp[up,g12],by simp[up,g13],by simp[up,g14],by rw[htk];simp[up],by simp[up],true,mm.set p 1,by rw[mS],by simp[hm1],hm2',hm3'⟩ rfl)
   |false=>
    rw[qA]at g15 htk
    rw[Bool.false_or]at htk
    generalize(oth.any (· ==(p:Int)))=qB at *
    (have hb:=trivial;with_reducible repeat' (first|simp only[hb,Vc.down,seval,cO.down,g2,g3,g9,g12,g13,g14,g15,g16,hii,y1',yb,n0,hdj,hij,hwj,hP,hpt,hm0,hip,hw1,h00,hm1,htl,hH,Tc,iv,abV,abY,ab7,aeJ,aaI,abO]|refine Br ?_ ?_<;>intro hb|refine fd ?_|fail))
    exact Db (kJ' _ _ () ⟨by simp[up,g2],by simp[up,g3],by simp[up,g7],by simp[up,g9],by simp[up,g10],by simp[up,g12],by simp[up,g13],by simp[up,g14],by rw[htk];simp[up],by simp[up],true,mm.set p 1,by rw[mS],by simp[hm1],hm2',hm3'⟩ rfl)
  ·exact⟨by simp[up,g2],by simp[up,g3],by simp[up,g7],by simp[up,g9],by simp[up,g10],by simp[up,g12],by simp[up,g13],by simp[up,g14],by simp[up],by simp[up],x,mm,rfl,hm1,fun k' i hk=>hm2 k' i (by omega),fun j' p _ hp=>hm2 k p (abU _) (hmk p (abN hp)).1 (hmk p (abN hp)).2⟩
  obtain⟨rfl,g2,g3,g7,g9,g10,g12,g13,g14,g15,x,mm,rfl,hm1,hm2⟩:=hk
  cases wb with
  |false=>
   (have hb:=trivial;with_reducible repeat' (first|simp only[hb,Vc.down,seval,cO.down,g2,g3,g14,g15,n0,hWo,hwk,abO,aaI]|refine Br ?_ ?_<;>intro hb|refine fd ?_|fail))
   exact Db (kJ _ _ () ⟨by simp[up,g2],by simp[up,g3],by simp[up,g7],by simp[up,g9],by simp[up,g10],by simp[up,g12],by simp[up,g13],by simp[up],x,mm,rfl,hm1,fun k' i hk=>hm2 k' i (by omega)⟩ rfl)
  |true=>
   rw[hthk rfl]at g15
   (have hb:=trivial;with_reducible repeat' (first|simp only[hb,Vc.down,seval,cO.down,g2,g3,g14,g15,n0,hWo,hwk,abO,aaI]|refine Br ?_ ?_<;>intro hb|refine fd ?_|fail))
   exact Db (kJ _ _ () ⟨by simp[up,g2],by simp[up,g3],by simp[up,g7],by simp[up,g9],by simp[up,g10],by simp[up,g12],by simp[up,g13],by simp[up],x,mm,rfl,hm1,fun k' i hk=>hm2 k' i (by omega)⟩ rfl)
 ·exact⟨by simp[up,Qo],by simp[up,Qo],by simp[up],by simp[up],by simp[up],by simp[up],by simp[up],by simp[up],false,agG w.parts.length 0,by rw[List.map_replicate];rfl,by simp,fun k' i _ hi _=>by simp[hi]⟩
 obtain⟨rfl,g7,g10,g12,x,mm,rfl⟩:=hk
 (have hb:=trivial;with_reducible repeat' (first|simp only[hb,Vc.down,seval,cO.down]|refine Br ?_ ?_<;>intro hb|refine fd ?_|fail))
 refine Ls (eI 172 l (fun i (_:Unit) t h=>t 7=.int .i64 (c:Int)∧t 10=.slr 1 b 0 l.length∧t 12=.slr 1 H1.length 0 w.parts.length∧t 18=.int .i64 (Ee E (l.take i):Nat)∧t 19=.int .i64 (i:Int)∧h=H1++[.live 1 true false (ts.map Tc),.live 1 true x (mm.map iv)]) (fun _ _=>())
  (fun _ e t h=>e=.exit 4∧t 7=.int .i64 (c:Int)∧t 18=.int .i64 (c:Int)) ?_ ?_ () _ _ ?_) (fun e t h hk=>?_)
 ·rintro _ t h Q' kQ ⟨g7,g10,g12,g18,g19,rfl⟩
  rw[htl0]at g18
  (have hb:=trivial;with_reducible repeat' (first|simp only[hb,Vc.down,seval,cO.down,g10,g19,abR,decide_false]|refine Br ?_ ?_<;>intro hb|refine fd ?_|fail))
  exact kQ _ _ _ ⟨rfl,by simp[up,g7],by simp[up,g18]⟩
 ·rintro p rest i _ t h J Q' kJ kQ hx hi ⟨g7,g10,g12,g18,g19,rfl⟩
  have hdd:decide ((i:Int)<(l.length:Int))=true:=decide_eq_true (by omega)
  have hii:((i:Int)<(l.length:Int))=True:=eq_true (by omega)
  have hww:=Em hi (by unfold maxLen;omega)
  obtain⟨t',ht',hc'⟩:=hec i p hx
  have hpl:=hlt p (abN hx)
  have hip:((p:Int)<(w.parts.length:Int))=True:=eq_true (by omega)
  have hrw:rows[i]?=some [.int .i64 (p:Int)]:=by
   have h0:(rows.take l.length)[i]?=rows[i]?:=List.getElem?_take_of_lt hi
   rw[←h0,hr1,agF,hx];rfl
  have yb:=fun l'=>hyr b i [.int .i64 (p:Int)] l' (by rw[fE kb];exact hrw)
  have hwc:=hwle i
  cases t' with
  |false=>
   simp only[af8,if_false,Nat.add_zero]at hc'
   (have hb:=trivial;with_reducible repeat' (first|simp only[hb,Vc.down,seval,cO.down,g7,g10,g12,g18,g19,hdd,hii,hww,yb,ht',hip,Tc,aaI]|refine Br ?_ ?_<;>intro hb|refine fd ?_|fail))
   exact Db (kJ _ _ () ⟨by simp[up,g7],by simp[up,g10],by simp[up,g12],by rw[hc'];simp[up,g18],by simp[up],rfl⟩ rfl)
  |true=>
   simp only[if_true]at hc'
   have hwn:IntKind.i64.wrap ((Ee E (l.take i):Nat)+1:Int)=((Ee E (l.take i)+1:Nat):Int):=by rw[Fz (by omega) (by omega)];omega
   (have hb:=trivial;with_reducible repeat' (first|simp only[hb,Vc.down,seval,cO.down,g7,g10,g12,g18,g19,hdd,hii,hww,yb,ht',hip,hwn,Tc,aaI]|refine Br ?_ ?_<;>intro hb|refine fd ?_|fail))
   exact Db (kJ _ _ () ⟨by simp[up,g7],by simp[up,g10],by simp[up,g12],by rw[hc'];simp[up],by simp[up],rfl⟩ rfl)
 ·exact⟨by simp[up,g7],by simp[up,g10],by simp[up,g12],by simp[up,Ee],by simp[up],rfl⟩
 obtain⟨rfl,g7,g18⟩:=hk
 have hcc:((c:Int)==(c:Int))=true:=by simp
 (have hb:=trivial;with_reducible repeat' (first|simp only[hb,Vc.down,seval,cO.down,g7,g18,hcc,kn']|refine Br ?_ ?_<;>intro hb|refine fd ?_|fail))
theorem afP{n:Nat}{r:List AV}(h:Ty Tryd.prog (n+2) 28 r):∃(nn:Bool) (l:List Int),r=[Dh 1 true nn (l.map iv)]∧l.length≤maxLen∧∀x∈l,i64 x:=by
 unfold Ty at h
 simp only[Tryd.underlying28]at h
 obtain⟨nn,rows,rfl,hl,hrows⟩:=h
 obtain⟨l,rfl,hi⟩:=fF (f:=iv) (q:=i64) (fun r hr=>by obtain⟨x,rfl,hx⟩:=Nv hr;exact⟨x,rfl,hx⟩) hrows
 have e1:Tryd.prog.cellsOf 3=1:=by kernel_rfl
 have e2:iH Tryd.prog (n+1) 3=true:=by
  simp only[iH,Tryd.underlying3]
 rw[e1,e2]
 exact⟨nn,l,rfl,by simpa using hl,hi⟩
theorem af0{av:AV}(h:mF Tryd.prog 7 28 av):∃(nn:Bool) (l:List Int),av=Dh 1 true nn (l.map iv)∧l.length≤maxLen∧∀x∈l,i64 x:=by
 unfold mF at h
 simp only[Tryd.underlying28]at h
 obtain⟨nn,l,hx,hl⟩:=afP h
 simp only[List.cons.injEq,and_true]at hx
 exact⟨nn,l,hx,hl⟩
theorem nR(hk:Fq.call (.fn 10) [] []=some (.ret (.bool true),[])):∀avs,nE Tryd.prog 7 Tryd.f4.params.toList avs→Fq.call (.fn 4) avs []=some (.ret (.bool true),[]):=by
 intro avs h
 rw[show Tryd.f4.params.toList=[24,3,28]from rfl]at h
 match avs,h with
 | [a,b,c],h=>
   obtain⟨w,rfl,hs⟩:=acS h.1
   obtain⟨d,rfl,_⟩:=ahY h.2.1
   obtain⟨nn,l,rfl,hl,_⟩:=af0 h.2.2.1
   exact oO hk w hs d l nn hl
 | [],h=>exact h.elim
 | [_],h=>exact h.2.elim
 | [_,_],h=>exact h.2.2.elim
 |_::_::_::_::_,h=>exact h.2.2.2.elim
end Go.Proofs.YtckfcfcmfjfchaaDoor
