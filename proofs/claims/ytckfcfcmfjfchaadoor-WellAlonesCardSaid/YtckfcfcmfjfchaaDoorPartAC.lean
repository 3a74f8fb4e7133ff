/- The functions of the layer, walked. -/
import Derived.Test.YtckfcfcmfjfchaaDoorPartAB
open List renaming length_map→ao5,range'→azH,length_cons→aET,getElem?_set_ne→aI5,filter_cons→aLO,getElem?_set_self→aL7,mem_filter→aND,take_of_length_le→aTC,mem_cons_self→aWQ,mem_cons→aWR,range→aXQ,nil_append→aX2,range'_succ→aY8,take→aZA,length_set→aZI,find?_cons→aZM,cons_append→aZX,getElem?_append_right→aZ5,range_eq_range'→aZ8,exists_cons_of_ne_nil→a0B,ext_getElem?→a0L,getElem?_map→a1U,mem_cons_of_mem→a1V,all_eq_true→a1W,getElem?_eq_none→a4V
open Nat renaming le_succ_of_le→aM2,le_refl→aTT,add_sub_cancel_left→aZ7
open Int renaming lt_irrefl→aTD
open Bool renaming and_eq_true→aW1,and_false→a4W,false_and→a5E,false_eq_true→a5T
open Option renaming getD_none→a6P,getD_some→a6S
set_option linter.unusedSimpArgs false
set_option linter.unusedVariables false
namespace Go.Proofs.YtckfcfcmfjfchaaDoor
open Go.Ev Go Go.Ev.Net
set_option maxRecDepth 100000
set_option maxHeartbeats 16000000
def alB(w:avQ)(N:Nat)(L:List (Int × Bool))(i:Nat):Bool:=match L[i]? with
 |some x=>tgB x&& !(nmB w N L==0)&&nmB w N (L.set i (2,x.2))==0
 |none=>false
def alL(w:avQ)(N:Nat)(L:List (Int × Bool)):List Nat:=(aXQ w.parts.length).filter (alB w N L)
def a3E(v:AV)(l:List Nat)(h:abY)(lo:Nat):Prop:=(l=[]∧v=.nils)∨(l≠[]∧∃b,lo≤b∧v=.slr 1 b 0 l.length∧h[b]?=some (.live 1 true false (l.map nvv)))
theorem a3E.app{v:AV}{l:List Nat}{h:abY}{lo:Nat}(B:a3E v l h lo)(x:abY):a3E v l (h++x) lo:=by
 rcases B with h1|⟨h1,b,h2,h3,h4⟩
 ·exact .inl h1
 ·exact .inr ⟨h1,b,h2,h3,as2 h4 x⟩
theorem blM(w:avQ)(hs:w.small)(d:Int)(h0:(aXT w&&a0Z d)=false):om'.call (.fn 22) [.agg [.int .i64 w.rooms,.int .i64 w.need,slv 9 true w.nn (w.parts.map ao7.cells)],.int .i64 d] []=some (.ret (.tup [.nils,.int .i64 2]),[]):=by
 have h1:=a6L w hs d
 rw[h0]at h1
 (refine ce Tryd.func22 ?_;simp only[Tryd.f22];(have hb:=trivial;with_reducible repeat' (first|simp only[hb,Vc.down,seval,a8X.down,h1]|refine fsp ?_ ?_<;>intro hb|refine fd ?_|fail)))
theorem bfE{w:avQ}{N:Nat}(hw:WOk w N)(h12:w.parts.length≤12)(hs:w.small)(d:Int)(hb0:(aXT w&&a0Z d)=true)(o:Out)(h':abY)
 (c0:alL w N (aqM w d)=[]→(o,h')=(.ret (.tup [.nils,.int .i64 0]),[])) (c1:alL w N (aqM w d)≠[]→(o,h')=(.ret (.tup [.slr 1 0 0 (alL w N (aqM w d)).length,.int .i64 0]),[.live 1 true false ((alL w N (aqM w d)).map nvv)])):
 om'.call (.fn 22) [.agg [.int .i64 w.rooms,.int .i64 w.need,slv 9 true w.nn (w.parts.map ao7.cells)],.int .i64 d] []=some (o,h'):=by
 have h1:=a6L w hs d
 rw[hb0]at h1
 have hpc:=bdB w d false h12
 have hL:=a7W (d:=d) h12
 have hn0:=a4C hw h12 d hL false
 have f0:=a3Z (aqM w d)
 have k0:=a30 (aqM w d)
 have v0:=baE (aqM w d)
 have l0:=baQ (aqM w d)
 have r0:=a95 (aqM w d)
 have p0:=brO (aqM w d)
 have n0:=bjN (aqM w d)
 have i0:=bi1 (aqM w d)
 have hpl:(pcs (aqM w d)).length=24:=by rw[a0C];omega
 have htk24:=aTC (l:=pcs (aqM w d)) (i:=24) (by omega)
 have hen:=fun(L:List (Int × Bool)) (hL:L.length=12)=>a4C hw h12 d hL false
 have hel:∀i x,(aqM w d)[i]?=some x→alB w N (aqM w d) i=(tgB x&& !(nmB w N (aqM w d)==0)&&nmB w N ((aqM w d).set i (2,x.2))==0):=fun i x hx=>by unfold alB;rw[hx]
 have hpa:∀i p,w.parts[i]?=some p→(aqM w d)[i]?=some (aYL p d,p.opn):=fun i p hp=>a9L hp
 unfold alL at c0 c1
 generalize aqM w d=L at *
 (refine ce Tryd.func22 ?_;simp only[Tryd.f22];(have hb:=trivial;with_reducible repeat' (first|simp only[hb,Vc.down,seval,a8X.down,h1,hpc,f0,k0,v0,l0,r0,p0,n0,i0,hpl,htk24,ao5]|refine fsp ?_ ?_<;>intro hb|refine fd ?_|fail)))
 refine aZG (lst 57 w.parts (fun i (zz:List Nat × Nat) t h=>t 6=.ptr 1 0 0∧t 8=.ptr 2 0 0∧t 27=.int .i64 (w.parts.length:Nat)∧t 28=.int .i64 i∧(h[1]?=some (.live 4 false false [[.int .i64 w.rooms,.int .i64 w.need,slv 9 true w.nn (w.parts.map ao7.cells),.int .i64 d]])∧h[2]?=some (.live 24 true true [pcs L])∧zz.2=i∧zz.1.length≤i∧a3E (t 9) zz.1 h 3)) (fun rest zz=>zz.1++(azH zz.2 rest.length).filter (alB w N L)) (fun r e t h=>e=.exit 0∧a3E (t 9) r h 3) ?_ ?_ ([],0) _ _ ?_) (fun e t h hk=>?_)
 ·rintro⟨a,c⟩ t h Q' kQ ⟨h6,h8,h27,h28,⟨hA,hP,hcc,hci,hB⟩⟩
  try dsimp only at *
  (have hb:=trivial;with_reducible repeat' (first|simp only[hb,Vc.down,seval,a8X.down,h6,h8,h27,h28,aTD,decide_false,hA,ao5]|refine fsp ?_ ?_<;>intro hb|refine fd ?_|fail))
  exact kQ _ _ _ ⟨rfl,by simpa [up]using hB⟩
 ·rintro x rest i ⟨a,c⟩ t h J Q' kJ kQ hx hi ⟨h6,h8,h27,h28,⟨hA,hP,hcc,hci,hB⟩⟩
  have hd:decide ((i:Int)<(w.parts.length:Int))=true:=decide_eq_true (by omega)
  have hw:=aVK hi (by have:=hw.len;unfold maxLen;omega)
  try dsimp only at *
  subst c
  have hy:=hpa i x hx
  have hly:=hel i _ hy
  generalize hyy:(aYL x d,x.opn)=y at *
  have htt:=bf0 y.1 y.2
  rw[show(y.1==0&& !y.2)=tgB y from rfl]at htt
  have htk:=bdR _ _ _ _ hy
  have hn1:=hen (L.set i (2,y.2)) (by simpa using hL)
  have i12:((i:Int)<12)=True:=eq_true (by omega)
  have hpz:(i*2≤23)=True:=eq_true (by omega)
  have hp24:(i*2+2≤24)=True:=eq_true (by omega)
  have hs1:=a8B L i y.1 2 y.2 hy
  have ht1:aZA (24-i*2) [AV.int .i64 2]=[AV.int .i64 2]:=aTC (by simp;omega)
  have f1:=a3Z (L.set i (2,y.2))
  have k1:=a30 (L.set i (2,y.2))
  have v1:=baE (L.set i (2,y.2))
  have l1:=baQ (L.set i (2,y.2))
  have r1:=a95 (L.set i (2,y.2))
  have hpl1:(pcs (L.set i (2,y.2))).length=24:=by rw[a0C];simp;omega
  have htk1:=aTC (l:=pcs (L.set i (2,y.2))) (i:=24) (by omega)
  simp only[aZX,aX2]at hs1
  generalize nmB w N (L.set i (2,y.2))=m1 at *
  generalize hm0:nmB w N L=m0 at *
  generalize pcs (L.set i (2,y.2))=ps1 at *
  generalize pcs L=ps at *
  have hA1:=as2 hA
  have hP1:=as2 hP
  have no:alB w N L i=false→(azH i (rest.length+1)).filter (alB w N L)=(azH (i+1) rest.length).filter (alB w N L):=fun e=>by rw[aY8,aLO,e];rfl
  have yes:alB w N L i=true→(azH i (rest.length+1)).filter (alB w N L)=i::(azH (i+1) rest.length).filter (alB w N L):=fun e=>by rw[aY8,aLO,e];rfl
  have ez:∀n:Nat,((n:Int)==0)=(n==0):=fun n=>by cases n<;>rfl
  have hl2:=asR hP
  cases t1:tgB y
  ·rw[t1]at hly
   (have hb:=trivial;with_reducible repeat' (first|simp only[hb,Vc.down,seval,a8X.down,h6,h8,h27,h28,hd,hw,hA,hA1,hP,hP1,htt,t1,htk,hn0,hn1,i12,hpz,hp24,hs1,ht1,f1,k1,v1,l1,r1,hpl,hpl1,htk1,htk24,f0,k0,v0,l0,r0,a0M,ao5]|refine fsp ?_ ?_<;>intro hb|refine fd ?_|fail))
   (refine aC8 (kJ _ _ (a,i+1) ⟨?_,?_,?_,?_,⟨hA1 _,hP1 _,rfl,aM2 hci,hB.app _⟩⟩ ?_);(simp[up,h6]);(simp[up,h8]);(simp[up,h27]);(simp[up]);(rw[aET,no hly]))
  ·cases z0:(m0==0)
   ·have z0':((m0:Int)==0)=false:=by rw[ez];exact z0
    cases z1:(m1==0)
    ·have z1':((m1:Int)==0)=false:=by rw[ez];exact z1
     rw[t1,z0,z1]at hly
     (have hb:=trivial;with_reducible repeat' (first|simp only[hb,Vc.down,seval,a8X.down,z0',z1',bne,h6,h8,h27,h28,hd,hw,hA,hA1,hP,hP1,htt,t1,htk,hn0,hn1,i12,hpz,hp24,hs1,ht1,f1,k1,v1,l1,r1,hpl,hpl1,htk1,htk24,f0,k0,v0,l0,r0,a0M,ao5]|refine fsp ?_ ?_<;>intro hb|refine fd ?_|fail))
     (refine aC8 (kJ _ _ (a,i+1) ⟨?_,?_,?_,?_,⟨hA1 _,hP1 _,rfl,aM2 hci,hB.app _⟩⟩ ?_);(simp[up,h6]);(simp[up,h8]);(simp[up,h27]);(simp[up]);(rw[aET,no hly]))
    ·have z1':((m1:Int)==0)=true:=by rw[ez];exact z1
     rw[t1,z0,z1]at hly
     have hal:a.length≤i:=hci
     rcases hB with⟨rfl,ho⟩|⟨hne,b,hb3,ho,hb⟩
     ·(have hb:=trivial;with_reducible repeat' (first|simp only[hb,Vc.down,seval,a8X.down,ho,z0',z1',bne,h6,h8,h27,h28,hd,hw,hA,hA1,hP,hP1,htt,t1,htk,hn0,hn1,i12,hpz,hp24,hs1,ht1,f1,k1,v1,l1,r1,hpl,hpl1,htk1,htk24,f0,k0,v0,l0,r0,a0M,ao5]|refine fsp ?_ ?_<;>intro hb|refine fd ?_|fail))
      (refine aC8 (kJ _ _ ([i],i+1) ⟨?_,?_,?_,?_,⟨hA1 _,hP1 _,rfl,by simp,.inr ⟨by simp,h.length+2,by omega,by simp[up],by rw[aZ5 (by omega),aZ7];rfl⟩⟩⟩ ?_);(simp[up,h6]);(simp[up,h8]);(simp[up,h27]);(simp[up]);(rw[aET,yes hly];simp))
     ·have hbl:=asR hb
      have hB2:=as2 hb
      have hS:=aXZ hbl
      have hi39:(a.length+1≤549755813888)=True:=eq_true (by omega)
      (with_reducible repeat' (first|simp only[hb,Vc.down,seval,a8X.down,ho,hb,hB2,hS,aXY,aTF,aZI,hi39,z0',z1',bne,h6,h8,h27,h28,hd,hw,hA,hA1,hP,hP1,htt,t1,htk,hn0,hn1,i12,hpz,hp24,hs1,ht1,f1,k1,v1,l1,r1,hpl,hpl1,htk1,htk24,f0,k0,v0,l0,r0,a0M,ao5]|refine fsp ?_ ?_<;>intro hb|refine fd ?_|fail))
      (refine aC8 (kJ _ _ (a++[i],i+1) ⟨?_,?_,?_,?_,⟨a1E _ (by omega) hA _,a1E _ (by omega) hP _,rfl,by simp;omega,.inr ⟨by simp,h.length+2,by omega,by simp[up],by rw[aTF];simp[nvv]⟩⟩⟩ ?_);(simp[up,h6]);(simp[up,h8]);(simp[up,h27]);(simp[up]);(rw[aET,yes hly];simp))
   ·have z0':((m0:Int)==0)=true:=by rw[ez];exact z0
    rw[t1,z0]at hly
    (have hb:=trivial;with_reducible repeat' (first|simp only[hb,Vc.down,seval,a8X.down,z0',bne,h6,h8,h27,h28,hd,hw,hA,hA1,hP,hP1,htt,t1,htk,hn0,hn1,i12,hpz,hp24,hs1,ht1,f1,k1,v1,l1,r1,hpl,hpl1,htk1,htk24,f0,k0,v0,l0,r0,a0M,ao5]|refine fsp ?_ ?_<;>intro hb|refine fd ?_|fail))
    (refine aC8 (kJ _ _ (a,i+1) ⟨?_,?_,?_,?_,⟨hA1 _,hP1 _,rfl,aM2 hci,hB.app _⟩⟩ ?_);(simp[up,h6]);(simp[up,h8]);(simp[up,h27]);(simp[up]);(rw[aET,no hly]))
 ·exact⟨by simp[up,ent],by simp[up,ent],by simp[up,ent],by simp[up],⟨rfl,rfl,rfl,aTT _,.inl ⟨rfl,by simp[up]⟩⟩⟩
 obtain⟨rfl,hB⟩:=hk
 simp only[aX2,←aZ8]at hB
 rcases hB with⟨hn,ho⟩|⟨hn,b,hb3,ho,hb⟩
 ·rw[c0 hn]
  (have hb:=trivial;with_reducible repeat' (first|simp only[hb,Vc.down,seval,a8X.down,ho]|refine fsp ?_ ?_<;>intro hb|refine fd ?_|fail))
 ·rw[c1 hn]
  generalize hr:List.filter (alB w N L) (aXQ w.parts.length)=r at *
  obtain⟨x,l,rfl⟩:=a0B hn
  (with_reducible repeat' (first|simp only[hb,Vc.down,seval,a8X.down,ho,hb]|refine fsp ?_ ?_<;>intro hb|refine fd ?_|fail))
theorem bfR(l:List Nat)(n1 n2:Bool)(hl:l.length≤1000):om'.call (.fn 16) [slv 1 true n1 (l.map nvv),slv 1 true n2 (l.map nvv)] []=some (.ret (.bool true),[]):=by
 (refine ce Tryd.func16 ?_;simp only[Tryd.f16];(have hb:=trivial;with_reducible repeat' (first|simp only[hb,Vc.down,seval,bnZ.down,bne,beq_self_eq_true,Bool.not_true,ao5]|refine fsp ?_ ?_<;>intro hb|refine fd ?_|fail)))
 refine aZG (lst 26 l (fun i (zz:Unit) t h=>t 0=slv 1 true n1 (l.map nvv)∧t 1=slv 1 true n2 (l.map nvv)∧t 5=.int .i64 i∧(h=[])) (fun rest zz=>()) (fun r e t h=>e=.exit 0∧h=[]) ?_ ?_ () _ _ ?_) (fun e t h hk=>?_)
 ·rintro _ t h Q' kQ ⟨h0,h1,h5,rfl⟩
  (have hb:=trivial;with_reducible repeat' (first|simp only[hb,Vc.down,seval,bnZ.down,h0,h1,h5,aTD,decide_false,ao5]|refine fsp ?_ ?_<;>intro hb|refine fd ?_|fail))
  exact kQ _ _ _ ⟨rfl,rfl⟩
 ·rintro x rest i _ t h J Q' kJ kQ hx hi ⟨h0,h1,h5,rfl⟩
  have hd:decide ((i:Int)<(l.length:Int))=true:=decide_eq_true (by omega)
  have hw:=aVK hi (by unfold maxLen;omega)
  (have hb:=trivial;with_reducible repeat' (first|simp only[hb,Vc.down,seval,bnZ.down,h0,h1,h5,hd,hw,hx,nvv,bne,beq_self_eq_true,Bool.not_true,ao5]|refine fsp ?_ ?_<;>intro hb|refine fd ?_|fail))
  (refine aC8 (kJ _ _ () ⟨?_,?_,?_,rfl⟩ ?_);(simp[up,h0]);(simp[up,h1]);(simp[up]);exact rfl)
 ·exact⟨by simp[up,ent],by simp[up,ent],by simp[up],rfl⟩
 obtain⟨rfl,rfl⟩:=hk
 (have hb:=trivial;with_reducible repeat' (first|simp only[hb,Vc.down,seval,bnZ.down]|refine fsp ?_ ?_<;>intro hb|refine fd ?_|fail))
def a2U(w:avQ)(N:Nat)(t:Int):Bool:=decide ((a8V w N t:Int)<w.need)
def a7G(q:Int→Bool):Nat→Int→Option Int
 |0,_=>none
 |n+1,t=>if q t=true then some t else a7G q n (t+1)
def a5M(w:avQ)(N:Nat)(d:Int):Option Int:=a7G (a2U w N) (5001-d).toNat d
theorem bnC{w:avQ}{N:Nat}(hw:WOk w N){d:Int}(hd0:0≤d)(hd1:d≤5000):om'.call (.fn 25) [.agg [.int .i64 w.rooms,.int .i64 w.need,slv 9 true w.nn (w.parts.map ao7.cells)],.int .i64 d] []=some (.ret (.int .i64 ((a5M w N d).getD (-1))),[]):=by
 unfold a5M
 obtain⟨n,hn⟩:∃n,(5001-d).toNat=n:=⟨_,rfl⟩
 have hdn:d+n=5001:=by omega
 rw[hn]
 (refine ce Tryd.func25 ?_;simp only[Tryd.f25];(have hb:=trivial;with_reducible repeat' (first|simp only[hb,Vc.down,seval,bhT.down]|refine fsp ?_ ?_<;>intro hb|refine fd ?_|fail)))
 refine aZG (cnt 18 (fun i (zz:Int) t h=>t 2=.ptr 0 0 0∧t 5=.int .i64 zz∧(h[0]?=some (.live 3 false false [[.int .i64 w.rooms,.int .i64 w.need,slv 9 true w.nn (w.parts.map ao7.cells)]])∧0≤zz∧zz+i=5001)) (fun rest zz=>a7G (a2U w N) rest zz) (fun r e t h=>(e=.exit 0∧r=none)∨∃t1,r=some t1∧e=.ret∧t 4=.int .i64 t1) ?_ ?_ (n) (d) _ _ ?_) (fun e t h hk=>?_)
 ·rintro z t h Q' kQ ⟨h2,h5,⟨hA,hz0,hz⟩⟩
  have hle:decide (z≤5000)=false:=decide_eq_false (by omega)
  (have hb:=trivial;with_reducible repeat' (first|simp only[hb,Vc.down,seval,bhT.down,h2,h5,hle]|refine fsp ?_ ?_<;>intro hb|refine fd ?_|fail))
  exact kQ _ _ _ (.inl ⟨rfl,rfl⟩)
 ·rintro i z t h J Q' kJ kQ ⟨h2,h5,⟨hA,hz0,hz⟩⟩
  have hle:decide (z≤5000)=true:=decide_eq_true (by omega)
  have hN:=baZ hw z
  have hA1:=as2 hA
  have hwz:IntKind.i64.wrap (z+1)=z+1:=aWO (by omega) (by omega)
  cases hf:decide ((a8V w N z:Int)<w.need)
  ·(have hb:=trivial;with_reducible repeat' (first|simp only[hb,Vc.down,seval,bhT.down,h2,h5,hle,hN,hA,hA1,hf,hwz]|refine fsp ?_ ?_<;>intro hb|refine fd ?_|fail))
   (refine aC8 (kJ _ _ (z+1) ⟨?_,?_,⟨hA,by omega,by omega⟩⟩ ?_);(simp[up,h2]);(simp[up,h5]);(simp only[a7G,a2U,hf];rfl))
  ·(have hb:=trivial;with_reducible repeat' (first|simp only[hb,Vc.down,seval,bhT.down,h2,h5,hle,hN,hA,hA1,hf,hwz]|refine fsp ?_ ?_<;>intro hb|refine fd ?_|fail))
   exact kQ _ _ _ (.inr ⟨z,by simp only[a7G,a2U,hf];rfl,rfl,by simp[up]⟩)
 ·exact⟨by simp[up,ent],by simp[up,ent],⟨rfl,hd0,hdn⟩⟩
 rcases hk with⟨rfl,hr⟩|⟨t1,hr,rfl,h4⟩
 ·rw[hr]
  (have hb:=trivial;with_reducible repeat' (first|simp only[hb,Vc.down,seval,bhT.down]|refine fsp ?_ ?_<;>intro hb|refine fd ?_|fail))
  rfl
 ·rw[hr]
  (have hb:=trivial;with_reducible repeat' (first|simp only[hb,Vc.down,seval,bhT.down,h4]|refine fsp ?_ ?_<;>intro hb|refine fd ?_|fail))
  rfl
theorem blB{w:avQ}{d:Int}{i:Nat}{o:Bool}:edg w (tgt ((aqM w d).set i (2,o)))=edg w ((aJ0 w d).set i false):=by
 have e0:tgt ((aqM w d).set i (2,o))=(tgt (aqM w d)).set i false:=by
  unfold tgt;rw[List.map_set];rfl
 rw[e0]
 apply a0L
 intro j
 have h:=congrArg (·[j]?) (a6X (w:=w) (d:=d))
 simp only[edg,List.getElem?_zipWith]at h ⊢
 by_cases e:i=j
 ·subst e
  cases hp:w.parts[i]? with
  |none=>rfl
  |some p=>
   have hi:i<w.parts.length:=(List.getElem?_eq_some_iff.1 hp).1
   rw[aL7 (by simp[tgt,aqM];omega),aL7 (by simp[aJ0];omega)]
 ·rw[aI5 e,aI5 e];exact h
theorem bm2{w:avQ}{N:Nat}{d:Int}{i:Nat}{p:ao7}(hp:w.parts[i]?=some p):alB w N (aqM w d) i=(aY9 p d&&decide (0<a8V w N d)&&(a97 (edg w ((aJ0 w d).set i false)) N w.parts.length==0)):=by
 unfold alB
 rw[a9L hp]
 simp only
 rw[a7C]
 have e1:nmB w N ((aqM w d).set i (2,p.opn))=a97 (edg w ((aJ0 w d).set i false)) N w.parts.length:=by unfold nmB;rw[blB]
 rw[e1]
 congr 1
 congr 1
 generalize a8V w N d=n
 cases n<;>simp
theorem bf4{w:avQ}{N:Nat}(hW:WOk w N)(d:Int)(o:Out)(h':abY)
 (c0:alL w N (aqM w d)=[]→(o,h')=(.ret .nils,[])) (c1:alL w N (aqM w d)≠[]→(o,h')=(.ret (.slr 1 0 0 (alL w N (aqM w d)).length),[.live 1 true false ((alL w N (aqM w d)).map nvv)])):
 om'.call (.fn 24) [.agg [.int .i64 w.rooms,.int .i64 w.need,slv 9 true w.nn (w.parts.map ao7.cells)],.int .i64 d] []=some (o,h'):=by
 have hN:=baZ hW d
 have hT:=bfN w d hW.len hW.ne
 have hl:=a3K w d
 unfold alL at c0 c1
 (refine ce Tryd.func24 ?_;simp only[Tryd.f24];(have hb:=trivial;with_reducible repeat' (first|simp only[hb,Vc.down,seval,baI.down]|refine fsp ?_ ?_<;>intro hb|refine fd ?_|fail)))
 refine aZG (lst 44 w.parts (fun i (zz:List Nat × Nat) t h=>t 1=.int .i64 d∧t 2=.ptr 0 0 0∧t 6=.int .i64 i∧(h[0]?=some (.live 3 false false [[.int .i64 w.rooms,.int .i64 w.need,slv 9 true w.nn (w.parts.map ao7.cells)]])∧zz.2=i∧zz.1.length≤i∧a3E (t 5) zz.1 h 1)) (fun rest zz=>zz.1++(azH zz.2 rest.length).filter (alB w N (aqM w d))) (fun r e t h=>e=.exit 0∧a3E (t 5) r h 1) ?_ ?_ ([],0) _ _ ?_) (fun e t h hk=>?_)
 ·rintro⟨a,c⟩ t h Q' kQ ⟨h1,h2,h6,⟨hA,hcc,hci,hB⟩⟩
  try dsimp only at *
  (have hb:=trivial;with_reducible repeat' (first|simp only[hb,Vc.down,seval,baI.down,h1,h2,h6,aTD,decide_false,hA,ao5]|refine fsp ?_ ?_<;>intro hb|refine fd ?_|fail))
  exact kQ _ _ _ ⟨rfl,by simpa [up]using hB⟩
 ·rintro x rest i ⟨a,c⟩ t h J Q' kJ kQ hx hi ⟨h1,h2,h6,⟨hA,hcc,hci,hB⟩⟩
  have hd:decide ((i:Int)<(w.parts.length:Int))=true:=decide_eq_true (by omega)
  have hw:=aVK hi (by have:=hW.len;unfold maxLen;omega)
  try dsimp only at *
  subst c
  have hly:=bm2 (N:=N) (d:=d) hx
  have hC:=bfA hW (ts:=(aJ0 w d).set i false) (nn:=true) (by simpa using hl)
  rw[a79]at hC
  have hti:(aJ0 w d)[i]?=some (aY9 x d):=by simp only[aJ0];rw[a1U,hx];rfl
  have hset:((aJ0 w d).map bvv).set i [.bool false]=((aJ0 w d).set i false).map bvv:=by rw[List.map_set];rfl
  have hls:((aJ0 w d).set i false).length=w.parts.length:=by simpa using hl
  have htk:aZA w.parts.length (((aJ0 w d).set i false).map bvv)=((aJ0 w d).set i false).map bvv:=aTC (by simp[hl])
  have hrow:((aJ0 w d).map bvv)[i]?=some [.bool (aY9 x d)]:=by rw[a1U,hti];rfl
  have iln:((i:Int)<(w.parts.length:Int))=True:=eq_true (by omega)
  have hrl:((aJ0 w d).map bvv).length=w.parts.length:=by rw[ao5];exact hl
  have hrl2:(((aJ0 w d).set i false).map bvv).length=w.parts.length:=by rw[ao5];exact hls
  generalize((aJ0 w d).set i false).map bvv=tb2 at *
  generalize(aJ0 w d).map bvv=tb at *
  generalize a97 (edg w ((aJ0 w d).set i false)) N w.parts.length=m1 at *
  generalize a8V w N d=m0 at *
  have hA1:=as2 hA
  have no:alB w N (aqM w d) i=false→(azH i (rest.length+1)).filter (alB w N (aqM w d))=(azH (i+1) rest.length).filter (alB w N (aqM w d)):=fun e=>by rw[aY8,aLO,e];rfl
  have yes:alB w N (aqM w d) i=true→(azH i (rest.length+1)).filter (alB w N (aqM w d))=i::(azH (i+1) rest.length).filter (alB w N (aqM w d)):=fun e=>by rw[aY8,aLO,e];rfl
  have ez:∀n:Nat,((n:Int)==0)=(n==0):=fun n=>by cases n<;>rfl
  have hS0:=aXZ (asR hA)
  generalize htx:aY9 x d=tx at *
  cases tx
  ·(have hb:=trivial;with_reducible repeat' (first|simp only[hb,Vc.down,seval,baI.down,h1,h2,h6,hd,hw,hx,hA,hA1,hT,hrow,hset,iln,hrl,hrl2,htk,hN,hC,ao5]|refine fsp ?_ ?_<;>intro hb|refine fd ?_|fail))
   (refine aC8 (kJ _ _ (a,i+1) ⟨?_,?_,?_,⟨hA1 _,rfl,aM2 hci,hB.app _⟩⟩ ?_);(simp[up,h1]);(simp[up,h2]);(simp[up]);(rw[aET,no (by rw[hly];rfl)]))
  ·cases z0:decide (0<m0)
   ·have z0':decide ((m0:Int)>0)=false:=decide_eq_false (by have:=of_decide_eq_false z0;omega)
    rw[z0]at hly
    (have hb:=trivial;with_reducible repeat' (first|simp only[hb,Vc.down,seval,baI.down,h1,h2,h6,hd,hw,hx,hA,hA1,hT,hrow,hset,iln,hrl,hrl2,htk,hN,hC,z0',gt_iff_lt,ao5]|refine fsp ?_ ?_<;>intro hb|refine fd ?_|fail))
    (refine aC8 (kJ _ _ (a,i+1) ⟨?_,?_,?_,⟨hA1 _,rfl,aM2 hci,hB.app _⟩⟩ ?_);(simp[up,h1]);(simp[up,h2]);(simp[up]);(rw[aET,no (by rw[hly];rfl)]))
   ·have z0':decide ((m0:Int)>0)=true:=decide_eq_true (by have:=of_decide_eq_true z0;omega)
    rw[z0]at hly
    cases z1:(m1==0)
    ·have z1':((m1:Int)==0)=false:=by rw[ez];exact z1
     rw[z1]at hly
     (have hb:=trivial;with_reducible repeat' (first|simp only[hb,Vc.down,seval,baI.down,h1,h2,h6,hd,hw,hx,hA,hA1,hT,hrow,hset,iln,hrl,hrl2,htk,hN,hC,z0',z1',gt_iff_lt,ao5]|refine fsp ?_ ?_<;>intro hb|refine fd ?_|fail))
     (refine aC8 (kJ _ _ (a,i+1) ⟨?_,?_,?_,⟨hA1 _,rfl,aM2 hci,hB.app _⟩⟩ ?_);(simp[up,h1]);(simp[up,h2]);(simp[up]);(rw[aET,no (by rw[hly];rfl)]))
    ·have z1':((m1:Int)==0)=true:=by rw[ez];exact z1
     rw[z1]at hly
     rcases hB with⟨rfl,ho⟩|⟨hne,b,hb3,ho,hb⟩
     ·(have hb:=trivial;with_reducible repeat' (first|simp only[hb,Vc.down,seval,baI.down,ho,h1,h2,h6,hd,hw,hx,hA,hA1,hT,hrow,hset,iln,hrl,hrl2,htk,hN,hC,z0',z1',gt_iff_lt,ao5]|refine fsp ?_ ?_<;>intro hb|refine fd ?_|fail))
      (refine aC8 (kJ _ _ ([i],i+1) ⟨?_,?_,?_,⟨hA1 _,rfl,by simp,.inr ⟨by simp,h.length+2,by omega,by simp[up],by rw[aZ5 (by omega),aZ7];rfl⟩⟩⟩ ?_);(simp[up,h1]);(simp[up,h2]);(simp[up]);(rw[aET,yes (by rw[hly];rfl)];simp))
     ·have hbl:=asR hb
      have hB2:=as2 hb
      have hS:=aXZ hbl
      have hwl:=hW.len
      have hi39:(a.length+1≤549755813888)=True:=eq_true (by omega)
      (with_reducible repeat' (first|simp only[hb,Vc.down,seval,baI.down,ho,hb,hB2,hS,aXY,aTF,aZI,hi39,h1,h2,h6,hd,hw,hx,hA,hA1,hT,hrow,hset,iln,hrl,hrl2,htk,hN,hC,z0',z1',gt_iff_lt,ao5]|refine fsp ?_ ?_<;>intro hb|refine fd ?_|fail))
      (refine aC8 (kJ _ _ (a++[i],i+1) ⟨?_,?_,?_,⟨a1E _ (by omega) hA _,rfl,by simp;omega,.inr ⟨by simp,h.length+2,by omega,by simp[up],by rw[aTF];simp[nvv]⟩⟩⟩ ?_);(simp[up,h1]);(simp[up,h2]);(simp[up]);(rw[aET,yes (by rw[hly];rfl)];simp))
 ·exact⟨by simp[up,ent],by simp[up,ent],by simp[up],⟨rfl,rfl,aTT _,.inl ⟨rfl,by simp[up]⟩⟩⟩
 obtain⟨rfl,hB⟩:=hk
 simp only[aX2,←aZ8]at hB
 rcases hB with⟨hn,ho⟩|⟨hn,b,hb3,ho,hb⟩
 ·rw[c0 hn]
  (have hb:=trivial;with_reducible repeat' (first|simp only[hb,Vc.down,seval,baI.down,ho]|refine fsp ?_ ?_<;>intro hb|refine fd ?_|fail))
 ·rw[c1 hn]
  generalize hr:List.filter (alB w N (aqM w d)) (aXQ w.parts.length)=r at *
  obtain⟨x,l,rfl⟩:=a0B hn
  (with_reducible repeat' (first|simp only[hb,Vc.down,seval,baI.down,ho,hb]|refine fsp ?_ ?_<;>intro hb|refine fd ?_|fail))
theorem a2K{q:Int→Bool}:∀{n:Nat} {t x:Int},a7G q n t=some x→t≤x∧x<t+n∧q x=true∧∀y,t≤y→y<x→q y=false
 |0,t,x,h=>by cases h
 |n+1,t,x,h=>by
  unfold a7G at h
  split at h
  ·rename_i hq;cases h;exact⟨by omega,by omega,hq,fun y _ _=>by omega⟩
  ·rename_i hq
   obtain⟨h1,h2,h3,h4⟩:=a2K h
   refine⟨by omega,by omega,h3,fun y h5 h6=>?_⟩
   by_cases e:y=t
   ·subst e;simpa using hq
   ·exact h4 y (by omega) h6
theorem a9P{q:Int→Bool}:∀{n:Nat} {t:Int},a7G q n t=none→∀y,t≤y→y<t+n→q y=false
 |0,t,h=>fun y _ _=>by omega
 |n+1,t,h=>fun y h1 h2=>by
  unfold a7G at h
  split at h
  ·cases h
  ·rename_i hq
   by_cases e:y=t
   ·subst e;simpa using hq
   ·exact a9P h y (by omega) (by omega)
theorem bkS:∀{l:List Int},l≠[]→∃m∈l,∀x∈l,x≤m
 | [],h=>(h rfl).elim
 | [a],_=>⟨a,aWQ ..,fun x hx=>by simp at hx;omega⟩
 |a::b::l,_=>by
  obtain⟨m,h1,h2⟩:=bkS (l:=b::l) (by simp)
  by_cases e:a≤m
  ·exact⟨m,a1V _ h1,fun x hx=>(aWR.1 hx).elim (fun h=>h▸e) (h2 x)⟩
  ·exact⟨a,aWQ ..,fun x hx=>(aWR.1 hx).elim (fun h=>by omega) (fun h=>by have:=h2 x h;omega)⟩
def aYV(p:ao7):Int:=p.tested+p.valid+1
def a2W(w:avQ)(d:Int):List Int:=d::(w.parts.filter fun p=>decide (aYV p>d)&&decide (aYV p≤5000)).map aYV
theorem bcW{N:Int}{p:ao7}(h:aYU N p=true)(t:Int):aYL p t=if p.bad=true then 2 else if aYV p≤t then 1 else 0:=by
 simp only[aYU,a0Z,inB,aW1,decide_eq_true_eq]at h
 obtain⟨⟨⟨⟨⟨⟨⟨_,_⟩,_⟩,_⟩,h5⟩,h6⟩,_⟩,_⟩:=h
 unfold aYL aYV
 rw[aWO (by omega) (by omega)]
 split
 ·rfl
 ·by_cases e:p.tested+p.valid<t
  ·rw[if_pos e,if_pos (by omega)]
  ·rw[if_neg e,if_neg (by omega)]
theorem boD{w:avQ}(hb:aXT w=true){N:Nat}{t t0:Int}(h0:t0≤t)(h:∀p∈w.parts,aYV p≤t→aYV p≤t0):a2U w N t=a2U w N t0:=by
 have hp:∀p∈w.parts,aYU w.rooms p=true:=by
  simp only[aXT,aW1,a1W]at hb
  exact hb.2
 have e:aJ0 w t=aJ0 w t0:=by
  unfold aJ0
  refine List.map_congr_left fun p hq=>?_
  unfold aY9
  rw[bcW (hp p hq),bcW (hp p hq)]
  by_cases e:aYV p≤t0
  ·rw[if_pos (show aYV p≤t by omega),if_pos e]
  ·rw[if_neg (fun e2=>e (h p hq e2)),if_neg e]
 unfold a2U a8V
 rw[e]
theorem bp7{w:avQ}{d t:Int}(h:t∈a2W w d)(hd:d≤5000):d≤t∧t≤5000:=by
 unfold a2W at h
 rcases aWR.1 h with rfl|h
 ·omega
 ·obtain⟨p,hp,rfl⟩:=List.mem_map.1 h
  rw[aND]at hp
  simp only[aW1,decide_eq_true_eq]at hp
  omega
theorem bkQ{w:avQ}(hb:aXT w=true){N:Nat}{d t:Int}(h1:d≤t)(h2:t≤5000):∃t0∈a2W w d,t0≤t∧a2U w N t0=a2U w N t:=by
 obtain⟨m,hm,hmax⟩:=bkS (l:=(a2W w d).filter fun x=>decide (x≤t)) (fun e=>by
  have:d∈(a2W w d).filter fun x=>decide (x≤t):=aND.2 ⟨aWQ ..,by simpa using h1⟩
  rw[e]at this;cases this)
 rw[aND]at hm
 refine⟨m,hm.1,by simpa using hm.2,(boD hb (by simpa using hm.2) fun p hp hpt=>?_).symm⟩
 by_cases e:aYV p>d
 ·exact hmax _ (aND.2 ⟨a1V _ (List.mem_map.2 ⟨p,aND.2 ⟨hp,by simp;omega⟩,rfl⟩),by simpa using hpt⟩)
 ·have:=hmax d (aND.2 ⟨aWQ ..,by simpa using h1⟩)
  omega
theorem a5I{q:Int→Bool}:∀{l:List Int},l.Pairwise (· ≤·)→(∀x,l.find? q=some x→∀y∈l,q y=true→x≤y)
 | [],_=>fun x h=>by cases h
 |a::l,hs=>fun x h y hy hq=>by
  rw[List.pairwise_cons]at hs
  rw[aZM]at h
  split at h
  ·cases h
   rcases aWR.1 hy with rfl|hy
   ·exact Int.le_refl _
   ·exact hs.1 y hy
  ·rename_i hqa
   rcases aWR.1 hy with rfl|hy
   ·rw[hqa]at hq;cases hq
   ·exact a5I hs.2 x h y hy hq
theorem bm9{w:avQ}(hb:aXT w=true){N:Nat}{d:Int}(h1:0≤d)(h2:d≤5000):(aZE (a2W w d)).find? (a2U w N)=a5M w N d:=by
 have hmem:∀x,x∈aZE (a2W w d)↔x∈a2W w d:=fun x=>(a1C _).mem_iff
 unfold a5M
 cases hf:(aZE (a2W w d)).find? (a2U w N)with
 |none=>
  rw[List.find?_eq_none]at hf
  cases hl:a7G (a2U w N) (5001-d).toNat d with
  |none=>rfl
  |some x=>
   obtain⟨a1,a2,a3,_⟩:=a2K hl
   obtain⟨t0,b1,b2,b3⟩:=bkQ hb (N:=N) a1 (t:=x) (by omega)
   exact(hf t0 ((hmem t0).2 b1) (by rw[b3];exact a3)).elim
 |some x=>
  have hq:=List.find?_some hf
  have hx:=(hmem x).1 (List.mem_of_find?_eq_some hf)
  have hr:=bp7 hx h2
  cases hl:a7G (a2U w N) (5001-d).toNat d with
  |none=>
   have:=a9P hl x (by omega) (by omega)
   rw[this]at hq;cases hq
  |some y=>
   obtain⟨a1,a2,a3,a4⟩:=a2K hl
   obtain⟨t0,b1,b2,b3⟩:=bkQ hb (N:=N) a1 (t:=y) (by omega)
   have c1:=a5I (a09 _) x hf t0 ((hmem t0).2 b1) (by rw[b3];exact a3)
   have c2:y≤x:=by
    by_cases e:x<y
    ·have:=a4 x (by omega) e
     rw[this]at hq;cases hq
    ·omega
   congr 1
   omega
theorem bsF{h:abY}(hq:auH h=true){b:Nat}{w:Bool}{zs:List Int}(hb:h[b]?=some (.live 1 true w (zs.map iv)))(h1:1≤zs.length)(h2:zs.length≤1000):
 ∃es,cl om' h (some (.func (.func 46) [] [])) (some [.slr 1 b 0 zs.length])=some (.ret (.tup []),es)∧aCD h es=h.set b (.live 1 true true ((aZE zs).map iv)):=by
 have hbl:=asR hb
 have hbc:=aVJ hb
 simp only[CB.clean]at hbc
 have hp:a7K [.slr 1 b 0 zs.length] (clH h)=some (.ret (.tup []),(clH h).set b (.live 1 true true ((aZE zs).map iv))):=by
  simp only[a7K,hbc]
  rw[if_pos ⟨by simp,h1,by omega⟩]
  have:a2D (zs.map iv)=some zs:=beG zs
  rw[this];rfl
 have K:ShQ om' 46 [.slr 1 b 0 zs.length] (clH h) fun o G=>o=.ret (.tup [])∧G=(clH h).set b (.live 1 true true ((aZE zs).map iv)):=⟨_,_,blG (P:=Tryd.prog) (pr:=pr) (p:=a7K) rfl hp,rfl,rfl⟩
 have kp:a33 [b] (clH h) ((clH h).set b (.live 1 true true ((aZE zs).map iv))):=⟨by simp,fun i hi hn=>by rw[aI5 (fun e=>hn (by simp[e]))]⟩
 have hX:∀i∈[b],i<h.length∧∀c0 c,h[i]?=some c0→((clH h).set b (.live 1 true true ((aZE zs).map iv)))[i]?=some c→c0.isLive=true∧c0.quiet c=false:=fun i hi=>by
  simp at hi;subst hi
  refine⟨hbl,fun c0 c k1 k2=>?_⟩
  rw[hb]at k1;rw[aL7 (by rw[aIB];exact hbl)]at k2
  cases k1;cases k2;exact⟨rfl,rfl⟩
 obtain⟨g1,g2,g3,g4,g5⟩:=aWX hq kp hX
 obtain⟨o,G,es,e1,e2,rfl,rfl⟩:=a6R rfl rfl K (fun o G hQ=>by obtain⟨_,rfl⟩:=hQ;exact g1)
 refine⟨es,e1,?_⟩
 rw[e2]
 apply a0L
 intro i
 by_cases hi:i<h.length
 ·by_cases e:i=b
  ·subst e
   rw[aL7 hbl]
   exact g5 i (aWQ ..) _ (aL7 (by rw[aIB];exact hbl))
  ·rw[g4 i hi (by simpa using e),aI5 (fun q=>e q.symm)]
 ·rw[a4V (by rw[g2];simp[aIB];omega),a4V (by simp;omega)]
theorem bk7(w:avQ)(hs:w.small)(d:Int)(h0:(aXT w&&a0Z d)=false):om'.call (.fn 23) [.agg [.int .i64 w.rooms,.int .i64 w.need,slv 9 true w.nn (w.parts.map ao7.cells)],.int .i64 d] []=some (.ret (.tup [.int .i64 0,.int .i64 2]),[]):=by
 have h1:=a6L w hs d
 rw[h0]at h1
 (refine ce Tryd.func23 ?_;simp only[Tryd.f23];(have hb:=trivial;with_reducible repeat' (first|simp only[hb,Vc.down,seval,a6G.down,h1]|refine fsp ?_ ?_<;>intro hb|refine fd ?_|fail)))
theorem blY{w:avQ}(h:aXT w=true){i:Nat}{p:ao7}(hp:w.parts[i]?=some p):aYU w.rooms p=true:=by
 simp only[aXT,aW1,a1W]at h
 exact h.2 p (List.mem_of_getElem? hp)
theorem bb9{N:Int}{p:ao7}(h:aYU N p=true):0≤p.tested∧p.tested≤5000∧0≤p.valid∧p.valid≤5000:=by
 simp only[aYU,a0Z,inB,aW1,decide_eq_true_eq]at h
 obtain⟨⟨⟨⟨⟨⟨⟨_,_⟩,_⟩,_⟩,a5⟩,a6⟩,_⟩,_⟩:=h
 exact⟨a5.1,a5.2,a6.1,a6.2⟩
theorem bn3{w:avQ}{N:Nat}(hW:WOk w N)(h12:w.parts.length≤12)(hs:w.small)(d:Int)(hb0:aXT w=true)(hd0:a0Z d=true):
 om'.call (.fn 23) [.agg [.int .i64 w.rooms,.int .i64 w.need,slv 9 true w.nn (w.parts.map ao7.cells)],.int .i64 d] []=some (.ret (match a5M w N d with|some t=>.tup [.int .i64 t,.int .i64 0]|none=>.tup [.int .i64 0,.int .i64 5]),[]):=by
 have h1:=a6L w hs d
 rw[hb0,hd0]at h1
 have hdd:0≤d∧d≤5000:=by simpa [a0Z,inB]using hd0
 rw[←bm9 hb0 hdd.1 hdd.2]
 have hlen:=hW.len
 unfold a2W
 (refine ce Tryd.func23 ?_;simp only[Tryd.f23];(have hb:=trivial;with_reducible repeat' (first|simp only[hb,Vc.down,seval,a6G.down,h1,ao5]|refine fsp ?_ ?_<;>intro hb|refine fd ?_|fail)))
 refine aZG (lst 70 w.parts (fun i (zz:List Int) t h=>t 1=.int .i64 d∧t 2=.ptr 0 0 0∧t 6=.ptr 1 0 0∧t 25=slv 9 true w.nn (w.parts.map ao7.cells)∧t 26=.int .i64 (w.parts.length:Nat)∧t 27=.int .i64 i∧(h[0]?=some (.live 3 false false [[.int .i64 w.rooms,.int .i64 w.need,slv 9 true w.nn (w.parts.map ao7.cells)]])∧h[1]?=some (.live 4 false false [[.int .i64 w.rooms,.int .i64 w.need,slv 9 true w.nn (w.parts.map ao7.cells),.int .i64 d]])∧1≤zz.length∧zz.length≤i+1∧auH h=true∧∃b,2≤b∧t 8=.slr 1 b 0 zz.length∧h[b]?=some (.live 1 true false (zz.map iv)))) (fun rest zz=>zz++(rest.filter fun p=>decide (aYV p>d)&&decide (aYV p≤5000)).map aYV) (fun r e t h=>e=.exit 0∧t 2=.ptr 0 0 0∧t 6=.ptr 1 0 0∧h[0]?=some (.live 3 false false [[.int .i64 w.rooms,.int .i64 w.need,slv 9 true w.nn (w.parts.map ao7.cells)]])∧h[1]?=some (.live 4 false false [[.int .i64 w.rooms,.int .i64 w.need,slv 9 true w.nn (w.parts.map ao7.cells),.int .i64 d]])∧1≤r.length∧r.length≤1000∧auH h=true∧∃b,2≤b∧t 8=.slr 1 b 0 r.length∧h[b]?=some (.live 1 true false (r.map iv))) ?_ ?_ ([d]) _ _ ?_) (fun e t h hq=>?_)
 ·rintro a t h Q' kQ ⟨h1,h2,h6,h25,h26,h27,⟨hA,hB,ha1,ha2,hqu,b,hb2,ho,hbb⟩⟩
  (have hb:=trivial;with_reducible repeat' (first|simp only[hb,Vc.down,seval,a6G.down,h1,h2,h6,h25,h26,h27,aTD,decide_false,hA,ao5]|refine fsp ?_ ?_<;>intro hb|refine fd ?_|fail))
  simp only[List.filter_nil,List.map_nil,List.append_nil]at kQ
  exact kQ _ _ _ ⟨rfl,by simp[up,h2],by simp[up,h6],hA,hB,ha1,by omega,hqu,b,hb2,by simpa [up]using ho,hbb⟩
 ·rintro x rest i a t h J Q' kJ kQ hx hi ⟨h1,h2,h6,h25,h26,h27,⟨hA,hB,ha1,ha2,hqu,b,hb2,ho,hbb⟩⟩
  have hd:decide ((i:Int)<(w.parts.length:Int))=true:=decide_eq_true (by omega)
  have hw:=aVK hi (by unfold maxLen;omega)
  have hpp:=blY hb0 hx
  have hp4:IntKind.i64.wrap (x.tested+x.valid)=x.tested+x.valid:=by have:=bb9 hpp;exact aWO (by omega) (by omega)
  have hp5:IntKind.i64.wrap (x.tested+x.valid+1)=aYV x:=by have:=bb9 hpp;rw[aWO (by omega) (by omega)];rfl
  have hbl:=asR hbb
  have hA1:=as2 hA
  have hb1:=as2 hbb
  have hB1:=as2 hB
  have hS:=aXZ hbl
  have hi39:(a.length+1≤549755813888)=True:=eq_true (by omega)
  cases q1:decide (aYV x>d)
  ·(have hb:=trivial;with_reducible repeat' (first|simp only[hb,Vc.down,seval,a6G.down,h1,h2,h6,h25,h26,h27,hd,hw,hx,hA,hA1,ho,hbb,hb1,hp4,hp5,q1,ao7.cells,ao5]|refine fsp ?_ ?_<;>intro hb|refine fd ?_|fail))
   (refine aC8 (kJ _ _ a ⟨?_,?_,?_,?_,?_,?_,⟨hA1 _,hB1 _,ha1,by omega,aH8 hqu rfl,b,hb2,ho,hb1 _⟩⟩ ?_);(simp[up,h1]);(simp[up,h2]);(simp[up,h6]);(simp[up,h25]);(simp[up,h26]);(simp[up]);(rw[aLO];simp only[q1,a4W,a5E,a5T,if_false]))
  ·cases q2:decide (aYV x≤5000)
   ·(have hb:=trivial;with_reducible repeat' (first|simp only[hb,Vc.down,seval,a6G.down,h1,h2,h6,h25,h26,h27,hd,hw,hx,hA,hA1,ho,hbb,hb1,hp4,hp5,q1,q2,ao7.cells,ao5]|refine fsp ?_ ?_<;>intro hb|refine fd ?_|fail))
    (refine aC8 (kJ _ _ a ⟨?_,?_,?_,?_,?_,?_,⟨hA1 _,hB1 _,ha1,by omega,aH8 hqu rfl,b,hb2,ho,hb1 _⟩⟩ ?_);(simp[up,h1]);(simp[up,h2]);(simp[up,h6]);(simp[up,h25]);(simp[up,h26]);(simp[up]);(rw[aLO];simp only[q1,q2,a4W,a5E,a5T,if_false]))
   ·(have hb:=trivial;with_reducible repeat' (first|simp only[hb,Vc.down,seval,a6G.down,h1,h2,h6,h25,h26,h27,hd,hw,hx,hA,hA1,ho,hbb,hb1,hp4,hp5,q1,q2,hS,aXY,aTF,aZI,hi39,ao7.cells,ao5]|refine fsp ?_ ?_<;>intro hb|refine fd ?_|fail))
    (refine aC8 (kJ _ _ (a++[aYV x]) ⟨?_,?_,?_,?_,?_,?_,⟨a1E _ (by omega) hA _,a1E _ (by omega) hB _,by simp,by simp;omega,aH8 (aMF hqu b rfl) rfl,h.length+2,by omega,by simp[up],by rw[aTF];simp[iv]⟩⟩ ?_);(simp[up,h1]);(simp[up,h2]);(simp[up,h6]);(simp[up,h25]);(simp[up,h26]);(simp[up]);(rw[aLO];simp only[q1,q2,Bool.and_self,if_true,List.map_cons,List.append_assoc,aZX,aX2]))
 ·exact⟨by simp[up,ent],by simp[up,ent],by simp[up,ent],by simp[up,ent],by simp[up,ent],by simp[up],⟨rfl,rfl,aTT _,aTT _,rfl,2,aTT _,by simp[up],rfl⟩⟩
 obtain⟨rfl,h2,h6,hA,hB,hr1,hr2,hqu,b,hb2,ho,hbb⟩:=hq
 rw[show d::((w.parts.filter fun p=>decide (aYV p>d)&&decide (aYV p≤5000)).map aYV)=[d]++((w.parts.filter fun p=>decide (aYV p>d)&&decide (aYV p≤5000)).map aYV)from rfl]
 generalize [d]++((w.parts.filter fun p=>decide (aYV p>d)&&decide (aYV p≤5000)).map aYV)=zs at *
 obtain⟨q1,hq1⟩:∃q,Fn.func 46=q:=⟨_,rfl⟩
 obtain⟨es,e1,e2⟩:=bsF hqu hbb hr1 hr2
 rw[hq1]at e1
 have hsl:=a9R zs
 rw[←hsl]at ho e1 hr2
 generalize aZE zs=ys at *
 (have hb:=trivial;with_reducible repeat' (first|simp only[hb,Vc.down,seval,a6G.down,h2,h6,ho,hq1,e1,e2]|refine fsp ?_ ?_<;>intro hb|refine fd ?_|fail))
 have hpz:=fun z:Int=>bdB w z false h12
 have hnz:=fun z:Int=>a4C hW h12 z (a7W (d:=z) h12) false
 refine aZG (lst 70 ys (fun i (zz:Unit) t h=>t 2=.ptr 0 0 0∧t 6=.ptr 1 0 0∧t 51=.slr 1 b 0 ys.length∧t 52=.int .i64 (ys.length:Nat)∧t 53=.int .i64 i∧(h[0]?=some (.live 3 false false [[.int .i64 w.rooms,.int .i64 w.need,slv 9 true w.nn (w.parts.map ao7.cells)]])∧(∃wf dd,h[1]?=some (.live 4 false wf [[.int .i64 w.rooms,.int .i64 w.need,slv 9 true w.nn (w.parts.map ao7.cells),.int .i64 dd]]))∧h[b]?=some (.live 1 true true (ys.map iv)))) (fun rest zz=>rest.find? (a2U w N)) (fun r e t h=>(e=.exit 2∧r=none)∨∃t1,r=some t1∧e=.ret∧t 4=.int .i64 t1∧t 5=.int .i64 0) ?_ ?_ () _ _ ?_) (fun e t h hq=>?_)
 ·rintro _ t h Q' kQ ⟨h2,h6,h51,h52,h53,⟨hA,⟨wf,dd,hB⟩,hC⟩⟩
  (have hb:=trivial;with_reducible repeat' (first|simp only[hb,Vc.down,seval,a6G.down,h2,h6,h51,h52,h53,aTD,decide_false,ao5]|refine fsp ?_ ?_<;>intro hb|refine fd ?_|fail))
  exact kQ _ _ _ (.inl ⟨rfl,rfl⟩)
 ·rintro x rest i _ t h J Q' kJ kQ hx hi ⟨h2,h6,h51,h52,h53,⟨hA,⟨wf,dd,hB⟩,hC⟩⟩
  have hd:decide ((i:Int)<(ys.length:Int))=true:=decide_eq_true (by omega)
  have hw:=aVK hi (by unfold maxLen;omega)
  have hp:=hpz x
  have hn:=hnz x
  rw[a7C]at hn
  have f0:=a3Z (aqM w x)
  have k0:=a30 (aqM w x)
  have v0:=baE (aqM w x)
  have l0:=baQ (aqM w x)
  have r0:=a95 (aqM w x)
  have n0:=bjN (aqM w x)
  have i0:=bi1 (aqM w x)
  generalize pcs (aqM w x)=ps at *
  have hl1:=asR hB
  have iln:((i:Int)<(ys.length:Int))=True:=eq_true (by omega)
  have g1:∀c,(h.set 1 c)[1]?=some c:=fun c=>aL7 hl1
  have g0:∀c,(h.set 1 c)[0]?=h[0]?:=fun c=>aI5 (by omega)
  have gb:∀c,(h.set 1 c)[b]?=h[b]?:=fun c=>aI5 (by omega)
  cases hf:decide ((a8V w N x:Int)<w.need)
  ·(have hb:=trivial;with_reducible repeat' (first|simp only[hb,Vc.down,seval,a6G.down,h2,h6,h51,h52,h53,hd,hw,hx,iv,hA,hB,hC,g0,g1,gb,hp,hn,f0,k0,v0,l0,r0,n0,i0,hf,iln,ao5]|refine fsp ?_ ?_<;>intro hb|refine fd ?_|fail))
   (refine aC8 (kJ _ _ () ⟨?_,?_,?_,?_,?_,⟨by rw[g0];exact hA,⟨true,x,g1 _⟩,by rw[gb];exact hC⟩⟩ ?_);(simp[up,h2]);(simp[up,h6]);(simp[up,h51]);(simp[up,h52]);(simp[up]);(rw[aZM];simp only[a2U,hf]))
  ·(have hb:=trivial;with_reducible repeat' (first|simp only[hb,Vc.down,seval,a6G.down,h2,h6,h51,h52,h53,hd,hw,hx,iv,hA,hB,hC,g0,g1,gb,hp,hn,f0,k0,v0,l0,r0,n0,i0,hf,iln,ao5]|refine fsp ?_ ?_<;>intro hb|refine fd ?_|fail))
   exact kQ _ _ _ (.inr ⟨x,by rw[aZM];simp only[a2U,hf],rfl,by simp[up],by simp[up]⟩)
 ·exact⟨by simp[up,ent,h2,h6],by simp[up,ent,h2,h6],by simp[up,ent,h2,h6],by simp[up,ent,h2,h6],by simp[up],⟨by rw[aI5 (by omega)];exact hA,⟨false,d,by rw[aI5 (by omega)];exact hB⟩,aL7 (asR hbb)⟩⟩
 rcases hq with⟨rfl,hr⟩|⟨t1,hr,rfl,h4,h5⟩
 ·rw[hr]
  (have hb:=trivial;with_reducible repeat' (first|simp only[hb,Vc.down,seval,a6G.down]|refine fsp ?_ ?_<;>intro hb|refine fd ?_|fail))
 ·rw[hr]
  (have hb:=trivial;with_reducible repeat' (first|simp only[hb,Vc.down,seval,a6G.down,h4,h5]|refine fsp ?_ ?_<;>intro hb|refine fd ?_|fail))
theorem baH(kn:om'.call (.fn 10) [] []=some (.ret (.bool true),[]))(w:avQ)(hs:w.small)(d:Int):om'.call (.fn 5) [.agg [.int .i64 w.rooms,.int .i64 w.need,slv 9 true w.nn (w.parts.map ao7.cells)],.int .i64 d] []=some (.ret (.bool true),[]):=by
 have h1:=bpP w
 have h3:=bsO w hs
 have h4:=biL d
 have hA0:=blM w hs d
 have hL0:=bk7 w hs d
 cases c1:bdJ w with
 |false=>
  rw[c1]at h1
  (refine ce Tryd.func5 ?_;simp only[Tryd.f5];(have hb:=trivial;with_reducible repeat' (first|simp only[hb,Vc.down,seval,TY5.down,h1,kn,ao5]|refine fsp ?_ ?_<;>intro hb|refine fd ?_|fail)))
 |true=>
 rw[c1]at h1
 cases c2:aXT w with
 |false=>
  rw[c2]at h3 hA0 hL0
  have hA0:=hA0 rfl
  have hL0:=hL0 rfl
  (refine ce Tryd.func5 ?_;simp only[Tryd.f5];(have hb:=trivial;with_reducible repeat' (first|simp only[hb,Vc.down,seval,TY5.down,hA0,hL0,h1,h3,kn,ao5]|refine fsp ?_ ?_<;>intro hb|refine fd ?_|fail)))
 |true=>
 cases c3:a0Z d with
 |false=>
  rw[c2,c3]at hA0 hL0
  rw[c2]at h3
  rw[c3]at h4
  have hA0:=hA0 rfl
  have hL0:=hL0 rfl
  (refine ce Tryd.func5 ?_;simp only[Tryd.f5];(have hb:=trivial;with_reducible repeat' (first|simp only[hb,Vc.down,seval,TY5.down,hA0,hL0,h1,h3,h4,kn,ao5]|refine fsp ?_ ?_<;>intro hb|refine fd ?_|fail)))
 |true=>
 clear hA0 hL0
 rw[c2]at h3
 rw[c3]at h4
 obtain⟨N,hw,h12⟩:=bfV c2
 have hzd:(aXT w&&a0Z d)=true:=by rw[c2,c3];rfl
 have hdd:0≤d∧d≤5000:=by simpa [a0Z,inB]using c3
 have hl1:(alL w N (aqM w d)).length≤1000:=by
  have:(alL w N (aqM w d)).length≤(aXQ w.parts.length).length:=List.length_filter_le ..
  rw[List.length_range]at this
  omega
 have hLs:=bn3 hw h12 hs d c2 c3
 have hRL:=bnC hw hdd.1 hdd.2
 have hlr:∀t,a5M w N d=some t→decide (t<0)=false:=fun t ht=>decide_eq_false (by have:=(a2K ht).1;omega)
 by_cases he:alL w N (aqM w d)=[]
 ·have hA:=bfE hw h12 hs d hzd (.ret (.tup [.nils,.int .i64 0])) [] (fun _=>rfl) (fun h=>(h he).elim)
  have hR:=bf4 hw d (.ret .nils) [] (fun _=>rfl) (fun h=>(h he).elim)
  have hS:=bfR [] false false (by simp)
  have e0:slv 1 true false (List.map nvv [])=.nils:=rfl
  rw[e0]at hS
  cases hl:a5M w N d with
  |none=>
   rw[hl]at hLs hRL
   simp only[a6P]at hRL
   (refine ce Tryd.func5 ?_;simp only[Tryd.f5];(have hb:=trivial;with_reducible repeat' (first|simp only[hb,Vc.down,seval,TY5.down,hA,hR,hS,hLs,hRL,h1,h3,h4,kn,ao5]|refine fsp ?_ ?_<;>intro hb|refine fd ?_|fail)))
  |some t=>
   have hlt:=hlr t hl
   rw[hl]at hLs hRL
   simp only[a6S]at hRL
   (refine ce Tryd.func5 ?_;simp only[Tryd.f5];(have hb:=trivial;with_reducible repeat' (first|simp only[hb,Vc.down,seval,TY5.down,hA,hR,hS,hLs,hRL,h1,h3,h4,kn,hlt,beq_self_eq_true,ao5]|refine fsp ?_ ?_<;>intro hb|refine fd ?_|fail)))
 ·have hA:=bfE hw h12 hs d hzd (.ret (.tup [.slr 1 0 0 (alL w N (aqM w d)).length,.int .i64 0])) [.live 1 true false ((alL w N (aqM w d)).map nvv)] (fun h=>(he h).elim) (fun _=>rfl)
  have hR:=bf4 hw d (.ret (.slr 1 0 0 (alL w N (aqM w d)).length)) [.live 1 true false ((alL w N (aqM w d)).map nvv)] (fun h=>(he h).elim) (fun _=>rfl)
  have hS:=bfR (alL w N (aqM w d)) true true hl1
  rw[a79]at hS
  generalize alL w N (aqM w d)=al at *
  have htA:aZA al.length (al.map nvv)=al.map nvv:=aTC (by simp)
  cases hl:a5M w N d with
  |none=>
   rw[hl]at hLs hRL
   simp only[a6P]at hRL
   (refine ce Tryd.func5 ?_;simp only[Tryd.f5];(have hb:=trivial;with_reducible repeat' (first|simp only[hb,Vc.down,seval,TY5.down,hA,hR,hS,htA,hLs,hRL,h1,h3,h4,kn,ao5]|refine fsp ?_ ?_<;>intro hb|refine fdl ?_|fail)))
  |some t=>
   have hlt:=hlr t hl
   rw[hl]at hLs hRL
   simp only[a6S]at hRL
   (refine ce Tryd.func5 ?_;simp only[Tryd.f5];(have hb:=trivial;with_reducible repeat' (first|simp only[hb,Vc.down,seval,TY5.down,hA,hR,hS,htA,hLs,hRL,h1,h3,h4,kn,hlt,beq_self_eq_true,ao5]|refine fsp ?_ ?_<;>intro hb|refine fdl ?_|fail)))
theorem baN(hk:om'.call (.fn 10) [] []=some (.ret (.bool true),[])):∀avs,bd6 Tryd.prog 7 Tryd.f5.params.toList avs→om'.call (.fn 5) avs []=some (.ret (.bool true),[]):=by
 intro avs h
 rw[show Tryd.f5.params.toList=[24,3]from rfl]at h
 match avs,h with
 | [a,b],h=>
   obtain⟨w,rfl,hs⟩:=bn2 h.1
   obtain⟨d,rfl,_⟩:=bs9 h.2.1
   exact baH hk w hs d
 | [],h=>exact h.elim
 | [_],h=>exact h.2.elim
 |_::_::_::_,h=>exact h.2.2.elim
end Go.Proofs.YtckfcfcmfjfchaaDoor
