/- The functions of the layer, walked. -/
import Derived.Test.YtcncggaobhbomaaGreatDoorPartAF
open List renaming length_set→aaN,length_map→adC,getElem?_append_left→af8,getElem?_set_self→ag1,getElem?_append_right→ai0,map→aj6,take→aj8,take_of_length_le→akX,length_replicate→akY
open Bool renaming not_false→adQ,not_true→ae2
open Nat renaming le_refl→afJ,add_sub_cancel_left→ajM,ne_of_lt→ajV,lt_succ_self→ajY
set_option linter.unusedSimpArgs false
set_option linter.unusedVariables false
namespace Go.Proofs.YtcncggaobhbomaaGreatDoor
open Go.Ev Go Go.Ev.Net
set_option maxRecDepth 100000
set_option maxHeartbeats 16000000
theorem Qr:Ze Tryz.prog .neq 4 (.bool true) (.bool true)=some (.bool false):=by kernel_rfl
theorem Qs:Ze Tryz.prog .neq 4 (.bool false) (.bool false)=some (.bool false):=by kernel_rfl
def Zr(b:Bool):List AV:=[.bool b]
def WV(z:Qh)(v:AV)(h:Qa):Prop:=v=.imm 9 true (z.parts.map Qc.cells)∨∃b wb,0<b∧v=.slr 9 b 0 z.parts.length∧h[b]?=some (.live 9 true wb (z.parts.map Qc.cells))
theorem uT(kn:Up.call (.fn 10) [] []=some (.ret (.bool true),[]))(w:Qh)(hs:w.small)(d:Int)(l:List Vg)(nn:Bool)(hl:l.length≤maxLen)(f:Int)(rs:List Bool)(nr:Bool)(hrl:rs.length≤maxLen):Up.call (.fn 7) [.agg [.int .i64 w.rooms,.int .i64 w.need,Rn 9 true w.nn (w.parts.map Qc.cells)],.int .i64 d,Rn 3 true nn (l.map Vg.cells),.int .i64 f,Rn 1 true nr (rs.map Zr)] []=some (.ret (.bool true),[]):=by
 have h1:=asR w
 have hpl:=ajL w hs d l nn hl f
 cases c1:aeA w with
 |false=>
  rw[c1]at h1
  (refine ce Tryz.func7 ?_;simp only[Tryz.f7];(have hb:=trivial;with_reducible repeat' (first|simp only[hb,Vc.down,seval,Yv.down,h1,kn,adC]|refine Qp ?_ ?_<;>intro hb|refine fd ?_|fail)))
 |true=>
 rw[c1]at h1
 cases c2:decide ((l.length:Int)>10)with
 |true=>
  (refine ce Tryz.func7 ?_;simp only[Tryz.f7];(have hb:=trivial;with_reducible repeat' (first|simp only[hb,Vc.down,seval,Yv.down,h1,kn,adC,c2]|refine Qp ?_ ?_<;>intro hb|refine fd ?_|fail)))
 |false=>
 cases c3:decide ((rs.length:Int)>50)with
 |true=>
  (refine ce Tryz.func7 ?_;simp only[Tryz.f7];(have hb:=trivial;with_reducible repeat' (first|simp only[hb,Vc.down,seval,Yv.down,h1,kn,adC,c2,c3]|refine Qp ?_ ?_<;>intro hb|refine fd ?_|fail)))
 |false=>
 by_cases c4:bF w d l f=0
 rotate_left
 ·have c4':(bF w d l f==0)=false:=by simpa using c4
  (refine ce Tryz.func7 ?_;simp only[Tryz.f7];(have hb:=trivial;with_reducible repeat' (first|simp only[hb,Vc.down,seval,Yv.down,h1,kn,c2,c3,hpl,c4',bne,adQ,adC]|refine Qp ?_ ?_<;>intro hb|refine fd ?_|fail)))
 rw[c4]at hpl
 cases c5:decide ((w.parts.length:Int)>5)with
 |true=>
  (refine ce Tryz.func7 ?_;simp only[Tryz.f7];(have hb:=trivial;with_reducible repeat' (first|simp only[hb,Vc.down,seval,Yv.down,h1,kn,c2,c3,hpl,c5,bne,beq_self_eq_true,ae2,adC]|refine Qp ?_ ?_<;>intro hb|refine fd ?_|fail)))
 |false=>
 obtain⟨h6,hwb,hdb,hgb,hf0,hf3⟩:=aQ c4
 obtain⟨fN,rfl⟩:∃n:Nat,f=(n:Int):=⟨f.toNat,by omega⟩
 obtain⟨N,hw,h12⟩:=agT hwb
 obtain⟨k1,i1,hA,_⟩:=aw0 hw hs d l nn hl fN c4
 by_cases hfin:bs w N l (Qb w d,fN)<Ud
 rotate_left
 ·have hM:=awC h12 d l nn hl (dR (by omega) hgb)
  have hmet:=apJ hw hl c4
  have c6:kS (Qb w d) l=false:=by
   cases e:kS (Qb w d) l with
   |false=>rfl
   |true=>exact absurd (hmet.2 e) (fun h=>hfin (by rw[h];unfold Ud;omega))
  rw[c6]at hM
  rw[show aiI (bs w N l (Qb w d,fN))=5 from if_neg hfin]at hA
  (refine ce Tryz.func7 ?_;simp only[Tryz.f7];(have hb:=trivial;with_reducible repeat' (first|simp only[hb,Vc.down,seval,Yv.down,h1,kn,c2,c3,hpl,c5,hA,hM,bne,beq_self_eq_true,ae2,adQ,adC]|refine Qp ?_ ?_<;>intro hb|refine fd ?_|fail)))
 rw[show aiI (bs w N l (Qb w d,fN))=0 from if_pos hfin,show apW (bs w N l (Qb w d,fN))=(bs w N l (Qb w d,fN):Int)from if_pos hfin]at hA
 obtain⟨told,htold⟩:∃n,bs w N l (Qb w d,fN)=n:=⟨_,rfl⟩
 rw[htold]at hA
 have hsl:Rn 9 true w.nn (w.parts.map Qc.cells)=.imm 9 true (w.parts.map Qc.cells):=bS (by simpa using hw.ne)
 (refine ce Tryz.func7 ?_;simp only[Tryz.f7];(have hb:=trivial;with_reducible repeat' (first|simp only[hb,Vc.down,seval,Yv.down,h1,kn,c2,c3,hpl,c5,hA,bne,beq_self_eq_true,ae2,adQ,adC]|refine Qp ?_ ?_<;>intro hb|refine fd ?_|fail)))
 refine Wz (lst 199 (List.replicate 200 ()) (fun i (_:Unit) t h=>∃(z:Qh) (g paid:Nat) (tr:Nat→St) (wf:Bool) (v:AV),t 1=.int .i64 d∧t 2=Rn 3 true nn (l.map Vg.cells)∧t 3=.int .i64 (g:Int)∧t 4=Rn 1 true nr (rs.map Zr)∧t 5=.ptr 0 0 0∧t 12=.int .i64 (told:Int)∧t 14=.int .i64 (paid:Int)∧t 15=.int .i64 (i:Int)∧h[0]?=some (.live 3 false wf [[.int .i64 z.rooms,.int .i64 z.need,v]])∧WV z v h∧AdI w N l d z g∧paid+bs w N l (Qb z d,g)≤told∧tr 0=(Qb w d,fN)∧tr i=(Qb z d,g)∧∀j,j<i→Xy w N l (tr j) (tr (j+1))) (fun _ _=>())
  (fun _ e t h=>e=.ret∧t 10=.bool true) ?_ ?_ () _ _ ?_) (fun e t h hk=>?_)
 ·rintro _ t h Q' kQ ⟨z,g,paid,tr,wf,v,_,_,_,_,_,_,_,_,_,_,_,_,e0,_,hst⟩
  rw[akY]at hst
  have:=ahK hw hl c4 (by have:=of_decide_eq_false c5;omega) tr 200 e0 hst
  omega
 ·rintro _ rest i _ t h J Q' kJ kQ hx0 hi ⟨z,g,paid,tr,wf,v,g1,g2,g3,g4,g5,g12,g14,g15,hB,hv,A,hpaid,e0,ei,hst⟩
  rw[akY]at hi
  clear hx0 hA hpl
  have h200:decide ((i:Int)<200)=true:=decide_eq_true (by omega)
  have hww:IntKind.i64.wrap ((i:Int)+1)=((i+1:Nat):Int):=by rw[Us (by omega) (by omega)];omega
  obtain⟨y6,zwb,zdb,zgb,_,zg3⟩:=aQ A.plan
  have zsl:Rn 9 true z.nn (z.parts.map Qc.cells)=.imm 9 true (z.parts.map Qc.cells):=bS (by simpa using A.ok.ne)
  obtain⟨kz,iz,hAz,hop,_⟩:=aw0 A.ok A.small d l nn hl g A.plan
  have hbE:=A.bsE (Qb z d,g)
  have hMz:=awC (w:=z) (by omega) d l nn hl (dR (by omega) zgb)
  have hmz:=apJ A.ok hl A.plan
  have hB2:=Qg hB
  have hl0:=Qv hB
  have htold':told<Ud:=by rw[←htold];exact hfin
  have htop:Ud=1099511627776:=rfl
  have htR:aj8 z.parts.length (z.parts.map Qc.cells)=z.parts.map Qc.cells:=akX (by simp)
  have hfz:=A.fin
  rw[←hbE]at hfz hpaid
  rw[show aiI (bs z N l (Qb z d,g))=0 from if_pos hfz,show apW (bs z N l (Qb z d,g))=(bs z N l (Qb z d,g):Int)from if_pos hfz]at hAz
  rw[zsl]at hAz hMz
  have m1:decide ((bs z N l (Qb z d,g):Int)<0)=false:=decide_eq_false (by omega)
  have m2:IntKind.i64.wrap ((paid:Int)+(bs z N l (Qb z d,g):Int))=((paid+bs z N l (Qb z d,g):Nat):Int):=by rw[Us (by omega) (by omega)];omega
  have m3:decide (((paid+bs z N l (Qb z d,g):Nat):Int)>(told:Int))=false:=decide_eq_false (by omega)
  by_cases hb0:bs z N l (Qb z d,g)=0
  ·rw[hmz.1 hb0]at hMz
   have m4:((bs z N l (Qb z d,g):Int)==0)=true:=by rw[hb0];rfl
   rcases hv with rfl|⟨b,wb,hbb,rfl,hb⟩
   ·(have hb:=trivial;with_reducible repeat' (first|simp only[hb,Vc.down,seval,Yv.down,g1,g2,g3,g4,g5,g12,g14,g15,h200,hww,hB,hB2,hAz,hMz,m1,m2,m3,m4,kn,Qr,Qs,bne,beq_self_eq_true,ae2,adQ,adC]|refine Qp ?_ ?_<;>intro hb|refine aH ?_|fail))
    exact kQ _ _ _ ⟨rfl,by simp[up]⟩
   ·have hb2:=Qg hb
    (with_reducible repeat' (first|simp only[hb,Vc.down,seval,Yv.down,g1,g2,g3,g4,g5,g12,g14,g15,h200,hww,hB,hB2,hb,hb2,htR,hAz,hMz,m1,m2,m3,m4,kn,Qr,Qs,bne,beq_self_eq_true,ae2,adQ,adC]|refine Qp ?_ ?_<;>intro hb|refine aH ?_|fail))
    exact kQ _ _ _ ⟨rfl,by simp[up]⟩
  ·have c6:kS (Qb z d) l=false:=by
    cases e:kS (Qb z d) l with
    |false=>rfl
    |true=>exact absurd (hmz.2 e) hb0
   rw[c6]at hMz
   have m4:((bs z N l (Qb z d,g):Int)==0)=false:=beq_eq_false_iff_ne.2 (by omega)
   obtain⟨o,ho,rfl,rfl⟩:=hop hb0 hfz
   have hom:=List.mem_of_find?_eq_some ho
   have hoe:kZ (bs z N l) o=bs z N l (Qb z d,g):=by simpa using List.find?_some ho
   obtain⟨p,_,Io⟩:=dE.1 hom
   have hp:=Io.hp
   have hil:=(List.getElem?_eq_some_iff.1 hp).1
   have hk:=Io.k4
   clear Io ho hop
   have hzd:(Vw z&&aS d)=true:=by rw[zwb,zdb];rfl
   have hAl:∃va ga,Up.call (.fn 23) [.agg [.int .i64 z.rooms,.int .i64 z.need,Rn 9 true z.nn (z.parts.map Qc.cells)],.int .i64 d] []=some (.ret (.tup [va,.int .i64 0]),ga)∧((alL z N (Qb z d)=[]∧va=.nils∧ga=[])∨(alL z N (Qb z d)≠[]∧va=.slr 1 0 0 (alL z N (Qb z d)).length∧ga=[.live 1 true false ((alL z N (Qb z d)).map Zq)])):=by
    by_cases he:alL z N (Qb z d)=[]
    ·exact⟨_,_,afO A.ok (by omega) A.small d hzd _ _ (fun _=>rfl) (fun h=>(h he).elim),.inl ⟨he,rfl,rfl⟩⟩
    ·exact⟨_,_,afO A.ok (by omega) A.small d hzd _ _ (fun h=>(he h).elim) (fun _=>rfl),.inr ⟨he,rfl,rfl⟩⟩
   obtain⟨va,ga,hAl,hva⟩:=hAl
   have hcon:=ayO (w:=z) (N:=N) (L:=Qb z d) hil
   have hHas:=fun nn=>axJ (alL z N (Qb z d)) nn o.i (by
    have:(alL z N (Qb z d)).length≤(List.range z.parts.length).length:=List.length_filter_le ..
    rw[List.length_range]at this
    unfold maxLen;omega)
   rw[hcon]at hHas
   rw[zsl]at hAl
   have hS0:=Yg hl0
   have htR2:∀q,aj8 z.parts.length ((z.parts.set o.i q).map Qc.cells)=(z.parts.set o.i q).map Qc.cells:=fun q=>akX (by simp)
   have htk:∀L:List Nat,aj8 L.length (L.map Zq)=L.map Zq:=fun L=>akX (by simp)
   have hslL:∀L:List Nat,L≠[]→Rn 1 true true (L.map Zq)=.imm 1 true (L.map Zq):=fun L h=>bS (by simpa using h)
   cases k3:(o.k==3)with
   |false=>
    have hpb:(true:Bool)=false→o.k=3∧0<g:=fun e=>by cases e
    obtain⟨q1,q2,q3,q4,q5,_,An,hSt,hle⟩:=A.next hl hom hoe hp true hpb
    simp only[if_true]at An hSt hle
    obtain⟨wd,hD⟩:=(aaT A.ok (by omega) A.small d hzd hp hk true).2.2 q1 q2
    change Up.call _ _ _=some (Tu.ret (AV.tup [_,.int .i64 (fU p o.k),_]),_)at hD
    rw[q3,zsl]at hD
    have hWz:=nE A.small zwb zdb hp q1 true
    have mc:decide (o.c<1)=false:=decide_eq_false (by omega)
    have mp:IntKind.i64.wrap ((paid:Int)+o.c)=((paid+o.c.toNat:Nat):Int):=by rw[Us (by omega) (by omega)];omega
    have mn:True:=trivial
    have hal:jD z N (Qb z d) o.i=true→0<z.need→(o.k==1)=false∧(o.k==4)=false:=fun ha hn=>by
     constructor<;>refine beq_eq_false_iff_ne.2 fun e=>?_
     ·have:=Yb A.ok hp (.inl e) true hn ha;rw[q2]at this;cases this
     ·have:=Yb A.ok hp (.inr e) true hn ha;rw[q2]at this;cases this
    rcases hva with⟨hna,rfl,rfl⟩|⟨hna,rfl,rfl⟩
    ·have hHas0:=hHas false
     rw[hna,show Rn 1 true false (aj6 Zq [])=AV.nils from rfl,show jD z N (Qb z d) o.i=false by rw[←hcon,hna];rfl]at hHas0
     rcases hv with rfl|⟨b,wb,hbb,rfl,hb⟩
     ·cases mz:decide (z.need>0)with
      |false=>
       (have hb:=trivial;with_reducible repeat' (first|simp only[hb,Vc.down,seval,Yv.down,g1,g2,g3,g4,g5,g12,g14,g15,h200,hww,hB,hB2,hAz,hMz,m1,m2,m3,m4,hAl,hD,hWz,htR2,hS0,mc,mp,mn,k3,mz,kn,Qr,Qs,bne,beq_self_eq_true,ae2,adQ,Zr,aaN,afJ,adC]|refine Qp ?_ ?_<;>intro hb|refine aH ?_|fail))
       refine Qj (kJ _ _ () ⟨Qq z o.i (Qw p d o.k true),g,paid+o.c.toNat,fun j=>if j=i+1 then(Qb (Qq z o.i (Qw p d o.k true)) d,g)else tr j,true,.slr 9 (h.length+1) 0 z.parts.length,by simp[up,g1],by simp[up,g2],by simp[up,g3],by simp[up,g4],by simp[up,g5],by simp[up,g12],by simp[up],by simp[up],by rw[af8 (by simpa using hl0),ag1 hl0];rfl,.inr ⟨h.length+1,_,by omega,by rw[Qk],by rw[ai0 (by simp),aaN,ajM];rfl⟩,An,by have:=A.bsE;omega,by simp[e0],by simp,fun j hj=>?_⟩ rfl)
       show Xy w N l (if j=i+1 then _ else tr j) (if j+1=i+1 then _ else tr (j+1))
       by_cases ej:j=i
       ·subst ej
        simp only[if_true,ajV (ajY j),if_false]
        rw[ei];exact hSt
       ·rw[if_neg (by omega),if_neg (by omega)]
        exact hst j (by omega)
      |true=>
       (have hb:=trivial;with_reducible repeat' (first|simp only[hb,Vc.down,seval,Yv.down,g1,g2,g3,g4,g5,g12,g14,g15,h200,hww,hB,hB2,hAz,hMz,m1,m2,m3,m4,hAl,hD,hWz,htR2,hS0,mc,mp,mn,k3,mz,hHas0,kn,Qr,Qs,bne,beq_self_eq_true,ae2,adQ,Zr,aaN,afJ,adC]|refine Qp ?_ ?_<;>intro hb|refine aH ?_|fail))
       refine Qj (kJ _ _ () ⟨Qq z o.i (Qw p d o.k true),g,paid+o.c.toNat,fun j=>if j=i+1 then(Qb (Qq z o.i (Qw p d o.k true)) d,g)else tr j,true,.slr 9 (h.length+1) 0 z.parts.length,by simp[up,g1],by simp[up,g2],by simp[up,g3],by simp[up,g4],by simp[up,g5],by simp[up,g12],by simp[up],by simp[up],by rw[af8 (by simpa using hl0),ag1 hl0];rfl,.inr ⟨h.length+1,_,by omega,by rw[Qk],by rw[ai0 (by simp),aaN,ajM];rfl⟩,An,by have:=A.bsE;omega,by simp[e0],by simp,fun j hj=>?_⟩ rfl)
       show Xy w N l (if j=i+1 then _ else tr j) (if j+1=i+1 then _ else tr (j+1))
       by_cases ej:j=i
       ·subst ej
        simp only[if_true,ajV (ajY j),if_false]
        rw[ei];exact hSt
       ·rw[if_neg (by omega),if_neg (by omega)]
        exact hst j (by omega)
     ·have hb2:=Qg hb
      cases mz:decide (z.need>0)with
      |false=>
       (with_reducible repeat' (first|simp only[hb,Vc.down,seval,Yv.down,g1,g2,g3,g4,g5,g12,g14,g15,h200,hww,hB,hB2,hb,hb2,htR,hAz,hMz,m1,m2,m3,m4,hAl,hD,hWz,htR2,hS0,mc,mp,mn,k3,mz,kn,Qr,Qs,bne,beq_self_eq_true,ae2,adQ,Zr,aaN,afJ,adC]|refine Qp ?_ ?_<;>intro hb|refine aH ?_|fail))
       refine Qj (kJ _ _ () ⟨Qq z o.i (Qw p d o.k true),g,paid+o.c.toNat,fun j=>if j=i+1 then(Qb (Qq z o.i (Qw p d o.k true)) d,g)else tr j,true,.slr 9 (h.length+1) 0 z.parts.length,by simp[up,g1],by simp[up,g2],by simp[up,g3],by simp[up,g4],by simp[up,g5],by simp[up,g12],by simp[up],by simp[up],by rw[af8 (by simpa using hl0),ag1 hl0];rfl,.inr ⟨h.length+1,_,by omega,by rw[Qk],by rw[ai0 (by simp),aaN,ajM];rfl⟩,An,by have:=A.bsE;omega,by simp[e0],by simp,fun j hj=>?_⟩ rfl)
       show Xy w N l (if j=i+1 then _ else tr j) (if j+1=i+1 then _ else tr (j+1))
       by_cases ej:j=i
       ·subst ej
        simp only[if_true,ajV (ajY j),if_false]
        rw[ei];exact hSt
       ·rw[if_neg (by omega),if_neg (by omega)]
        exact hst j (by omega)
      |true=>
       (with_reducible repeat' (first|simp only[hb,Vc.down,seval,Yv.down,g1,g2,g3,g4,g5,g12,g14,g15,h200,hww,hB,hB2,hb,hb2,htR,hAz,hMz,m1,m2,m3,m4,hAl,hD,hWz,htR2,hS0,mc,mp,mn,k3,mz,hHas0,kn,Qr,Qs,bne,beq_self_eq_true,ae2,adQ,Zr,aaN,afJ,adC]|refine Qp ?_ ?_<;>intro hb|refine aH ?_|fail))
       refine Qj (kJ _ _ () ⟨Qq z o.i (Qw p d o.k true),g,paid+o.c.toNat,fun j=>if j=i+1 then(Qb (Qq z o.i (Qw p d o.k true)) d,g)else tr j,true,.slr 9 (h.length+1) 0 z.parts.length,by simp[up,g1],by simp[up,g2],by simp[up,g3],by simp[up,g4],by simp[up,g5],by simp[up,g12],by simp[up],by simp[up],by rw[af8 (by simpa using hl0),ag1 hl0];rfl,.inr ⟨h.length+1,_,by omega,by rw[Qk],by rw[ai0 (by simp),aaN,ajM];rfl⟩,An,by have:=A.bsE;omega,by simp[e0],by simp,fun j hj=>?_⟩ rfl)
       show Xy w N l (if j=i+1 then _ else tr j) (if j+1=i+1 then _ else tr (j+1))
       by_cases ej:j=i
       ·subst ej
        simp only[if_true,ajV (ajY j),if_false]
        rw[ei];exact hSt
       ·rw[if_neg (by omega),if_neg (by omega)]
        exact hst j (by omega)
    ·have hHas1:=hHas true
     rw[hslL _ hna]at hHas1
     rcases hv with rfl|⟨b,wb,hbb,rfl,hb⟩
     ·cases mz:decide (z.need>0)with
      |false=>
       (have hb:=trivial;with_reducible repeat' (first|simp only[hb,Vc.down,seval,Yv.down,g1,g2,g3,g4,g5,g12,g14,g15,h200,hww,hB,hB2,hAz,hMz,m1,m2,m3,m4,hAl,hD,hWz,htR2,hS0,mc,mp,mn,k3,mz,kn,Qr,Qs,bne,beq_self_eq_true,ae2,adQ,Zr,aaN,afJ,adC]|refine Qp ?_ ?_<;>intro hb|refine aH ?_|fail))
       refine Qj (kJ _ _ () ⟨Qq z o.i (Qw p d o.k true),g,paid+o.c.toNat,fun j=>if j=i+1 then(Qb (Qq z o.i (Qw p d o.k true)) d,g)else tr j,true,.slr 9 (h.length+2) 0 z.parts.length,by simp[up,g1],by simp[up,g2],by simp[up,g3],by simp[up,g4],by simp[up,g5],by simp[up,g12],by simp[up],by simp[up],by rw[af8 (by simpa using hl0),ag1 hl0];rfl,.inr ⟨h.length+2,_,by omega,by rw[Qk],by rw[ai0 (by simp),aaN,ajM];rfl⟩,An,by have:=A.bsE;omega,by simp[e0],by simp,fun j hj=>?_⟩ rfl)
       show Xy w N l (if j=i+1 then _ else tr j) (if j+1=i+1 then _ else tr (j+1))
       by_cases ej:j=i
       ·subst ej
        simp only[if_true,ajV (ajY j),if_false]
        rw[ei];exact hSt
       ·rw[if_neg (by omega),if_neg (by omega)]
        exact hst j (by omega)
      |true=>
       cases hab:jD z N (Qb z d) o.i with
       |false=>
        rw[hab]at hHas1
        (have hb:=trivial;with_reducible repeat' (first|simp only[hb,Vc.down,seval,Yv.down,g1,g2,g3,g4,g5,g12,g14,g15,h200,hww,hB,hB2,hAz,hMz,m1,m2,m3,m4,hAl,hD,hWz,htR2,hS0,mc,mp,mn,k3,mz,hHas1,htk,kn,Qr,Qs,bne,beq_self_eq_true,ae2,adQ,Zr,aaN,afJ,adC]|refine Qp ?_ ?_<;>intro hb|refine aH ?_|fail))
        refine Qj (kJ _ _ () ⟨Qq z o.i (Qw p d o.k true),g,paid+o.c.toNat,fun j=>if j=i+1 then(Qb (Qq z o.i (Qw p d o.k true)) d,g)else tr j,true,.slr 9 (h.length+2) 0 z.parts.length,by simp[up,g1],by simp[up,g2],by simp[up,g3],by simp[up,g4],by simp[up,g5],by simp[up,g12],by simp[up],by simp[up],by rw[af8 (by simpa using hl0),ag1 hl0];rfl,.inr ⟨h.length+2,_,by omega,by rw[Qk],by rw[ai0 (by simp),aaN,ajM];rfl⟩,An,by have:=A.bsE;omega,by simp[e0],by simp,fun j hj=>?_⟩ rfl)
        show Xy w N l (if j=i+1 then _ else tr j) (if j+1=i+1 then _ else tr (j+1))
        by_cases ej:j=i
        ·subst ej
         simp only[if_true,ajV (ajY j),if_false]
         rw[ei];exact hSt
        ·rw[if_neg (by omega),if_neg (by omega)]
         exact hst j (by omega)
       |true=>
        rw[hab]at hHas1
        obtain⟨ma,mb⟩:=hal hab (of_decide_eq_true mz)
        (have hb:=trivial;with_reducible repeat' (first|simp only[hb,Vc.down,seval,Yv.down,g1,g2,g3,g4,g5,g12,g14,g15,h200,hww,hB,hB2,hAz,hMz,m1,m2,m3,m4,hAl,hD,hWz,htR2,hS0,mc,mp,mn,k3,mz,hHas1,htk,ma,mb,kn,Qr,Qs,bne,beq_self_eq_true,ae2,adQ,Zr,aaN,afJ,adC]|refine Qp ?_ ?_<;>intro hb|refine aH ?_|fail))
        refine Qj (kJ _ _ () ⟨Qq z o.i (Qw p d o.k true),g,paid+o.c.toNat,fun j=>if j=i+1 then(Qb (Qq z o.i (Qw p d o.k true)) d,g)else tr j,true,.slr 9 (h.length+2) 0 z.parts.length,by simp[up,g1],by simp[up,g2],by simp[up,g3],by simp[up,g4],by simp[up,g5],by simp[up,g12],by simp[up],by simp[up],by rw[af8 (by simpa using hl0),ag1 hl0];rfl,.inr ⟨h.length+2,_,by omega,by rw[Qk],by rw[ai0 (by simp),aaN,ajM];rfl⟩,An,by have:=A.bsE;omega,by simp[e0],by simp,fun j hj=>?_⟩ rfl)
        show Xy w N l (if j=i+1 then _ else tr j) (if j+1=i+1 then _ else tr (j+1))
        by_cases ej:j=i
        ·subst ej
         simp only[if_true,ajV (ajY j),if_false]
         rw[ei];exact hSt
        ·rw[if_neg (by omega),if_neg (by omega)]
         exact hst j (by omega)
     ·have hb2:=Qg hb
      cases mz:decide (z.need>0)with
      |false=>
       (with_reducible repeat' (first|simp only[hb,Vc.down,seval,Yv.down,g1,g2,g3,g4,g5,g12,g14,g15,h200,hww,hB,hB2,hb,hb2,htR,hAz,hMz,m1,m2,m3,m4,hAl,hD,hWz,htR2,hS0,mc,mp,mn,k3,mz,kn,Qr,Qs,bne,beq_self_eq_true,ae2,adQ,Zr,aaN,afJ,adC]|refine Qp ?_ ?_<;>intro hb|refine aH ?_|fail))
       refine Qj (kJ _ _ () ⟨Qq z o.i (Qw p d o.k true),g,paid+o.c.toNat,fun j=>if j=i+1 then(Qb (Qq z o.i (Qw p d o.k true)) d,g)else tr j,true,.slr 9 (h.length+2) 0 z.parts.length,by simp[up,g1],by simp[up,g2],by simp[up,g3],by simp[up,g4],by simp[up,g5],by simp[up,g12],by simp[up],by simp[up],by rw[af8 (by simpa using hl0),ag1 hl0];rfl,.inr ⟨h.length+2,_,by omega,by rw[Qk],by rw[ai0 (by simp),aaN,ajM];rfl⟩,An,by have:=A.bsE;omega,by simp[e0],by simp,fun j hj=>?_⟩ rfl)
       show Xy w N l (if j=i+1 then _ else tr j) (if j+1=i+1 then _ else tr (j+1))
       by_cases ej:j=i
       ·subst ej
        simp only[if_true,ajV (ajY j),if_false]
        rw[ei];exact hSt
       ·rw[if_neg (by omega),if_neg (by omega)]
        exact hst j (by omega)
      |true=>
       cases hab:jD z N (Qb z d) o.i with
       |false=>
        rw[hab]at hHas1
        (with_reducible repeat' (first|simp only[hb,Vc.down,seval,Yv.down,g1,g2,g3,g4,g5,g12,g14,g15,h200,hww,hB,hB2,hb,hb2,htR,hAz,hMz,m1,m2,m3,m4,hAl,hD,hWz,htR2,hS0,mc,mp,mn,k3,mz,hHas1,htk,kn,Qr,Qs,bne,beq_self_eq_true,ae2,adQ,Zr,aaN,afJ,adC]|refine Qp ?_ ?_<;>intro hb|refine aH ?_|fail))
        refine Qj (kJ _ _ () ⟨Qq z o.i (Qw p d o.k true),g,paid+o.c.toNat,fun j=>if j=i+1 then(Qb (Qq z o.i (Qw p d o.k true)) d,g)else tr j,true,.slr 9 (h.length+2) 0 z.parts.length,by simp[up,g1],by simp[up,g2],by simp[up,g3],by simp[up,g4],by simp[up,g5],by simp[up,g12],by simp[up],by simp[up],by rw[af8 (by simpa using hl0),ag1 hl0];rfl,.inr ⟨h.length+2,_,by omega,by rw[Qk],by rw[ai0 (by simp),aaN,ajM];rfl⟩,An,by have:=A.bsE;omega,by simp[e0],by simp,fun j hj=>?_⟩ rfl)
        show Xy w N l (if j=i+1 then _ else tr j) (if j+1=i+1 then _ else tr (j+1))
        by_cases ej:j=i
        ·subst ej
         simp only[if_true,ajV (ajY j),if_false]
         rw[ei];exact hSt
        ·rw[if_neg (by omega),if_neg (by omega)]
         exact hst j (by omega)
       |true=>
        rw[hab]at hHas1
        obtain⟨ma,mb⟩:=hal hab (of_decide_eq_true mz)
        (with_reducible repeat' (first|simp only[hb,Vc.down,seval,Yv.down,g1,g2,g3,g4,g5,g12,g14,g15,h200,hww,hB,hB2,hb,hb2,htR,hAz,hMz,m1,m2,m3,m4,hAl,hD,hWz,htR2,hS0,mc,mp,mn,k3,mz,hHas1,htk,ma,mb,kn,Qr,Qs,bne,beq_self_eq_true,ae2,adQ,Zr,aaN,afJ,adC]|refine Qp ?_ ?_<;>intro hb|refine aH ?_|fail))
        refine Qj (kJ _ _ () ⟨Qq z o.i (Qw p d o.k true),g,paid+o.c.toNat,fun j=>if j=i+1 then(Qb (Qq z o.i (Qw p d o.k true)) d,g)else tr j,true,.slr 9 (h.length+2) 0 z.parts.length,by simp[up,g1],by simp[up,g2],by simp[up,g3],by simp[up,g4],by simp[up,g5],by simp[up,g12],by simp[up],by simp[up],by rw[af8 (by simpa using hl0),ag1 hl0];rfl,.inr ⟨h.length+2,_,by omega,by rw[Qk],by rw[ai0 (by simp),aaN,ajM];rfl⟩,An,by have:=A.bsE;omega,by simp[e0],by simp,fun j hj=>?_⟩ rfl)
        show Xy w N l (if j=i+1 then _ else tr j) (if j+1=i+1 then _ else tr (j+1))
        by_cases ej:j=i
        ·subst ej
         simp only[if_true,ajV (ajY j),if_false]
         rw[ei];exact hSt
        ·rw[if_neg (by omega),if_neg (by omega)]
         exact hst j (by omega)
   |true=>
    have hk3:o.k=3:=by simpa using k3
    cases p1:((g:Int)==0)with
    |true=>
     have hpb:(true:Bool)=false→o.k=3∧0<g:=fun e=>by cases e
     obtain⟨q1,q2,q3,q4,q5,_,An,hSt,hle⟩:=A.next hl hom hoe hp true hpb
     simp only[if_true]at An hSt hle
     obtain⟨wd,hD⟩:=(aaT A.ok (by omega) A.small d hzd hp hk true).2.2 q1 q2
     change Up.call _ _ _=some (Tu.ret (AV.tup [_,.int .i64 (fU p o.k),_]),_)at hD
     rw[q3,zsl]at hD
     have hWz:=nE A.small zwb zdb hp q1 true
     have mc:decide (o.c<1)=false:=decide_eq_false (by omega)
     have mp:IntKind.i64.wrap ((paid:Int)+o.c)=((paid+o.c.toNat:Nat):Int):=by rw[Us (by omega) (by omega)];omega
     have mn:True:=trivial
     have hal:jD z N (Qb z d) o.i=true→0<z.need→(o.k==1)=false∧(o.k==4)=false:=fun ha hn=>by
      constructor<;>refine beq_eq_false_iff_ne.2 fun e=>?_
      ·have:=Yb A.ok hp (.inl e) true hn ha;rw[q2]at this;cases this
      ·have:=Yb A.ok hp (.inr e) true hn ha;rw[q2]at this;cases this
     rcases hva with⟨hna,rfl,rfl⟩|⟨hna,rfl,rfl⟩
     ·have hHas0:=hHas false
      rw[hna,show Rn 1 true false (aj6 Zq [])=AV.nils from rfl,show jD z N (Qb z d) o.i=false by rw[←hcon,hna];rfl]at hHas0
      rcases hv with rfl|⟨b,wb,hbb,rfl,hb⟩
      ·cases mz:decide (z.need>0)with
       |false=>
        (have hb:=trivial;with_reducible repeat' (first|simp only[hb,Vc.down,seval,Yv.down,g1,g2,g3,g4,g5,g12,g14,g15,h200,hww,hB,hB2,hAz,hMz,m1,m2,m3,m4,hAl,hD,hWz,htR2,hS0,mc,mp,mn,k3,p1,mz,kn,Qr,Qs,bne,beq_self_eq_true,ae2,adQ,Zr,aaN,afJ,adC]|refine Qp ?_ ?_<;>intro hb|refine aH ?_|fail))
        refine Qj (kJ _ _ () ⟨Qq z o.i (Qw p d o.k true),g,paid+o.c.toNat,fun j=>if j=i+1 then(Qb (Qq z o.i (Qw p d o.k true)) d,g)else tr j,true,.slr 9 (h.length+1) 0 z.parts.length,by simp[up,g1],by simp[up,g2],by simp[up,g3],by simp[up,g4],by simp[up,g5],by simp[up,g12],by simp[up],by simp[up],by rw[af8 (by simpa using hl0),ag1 hl0];rfl,.inr ⟨h.length+1,_,by omega,by rw[Qk],by rw[ai0 (by simp),aaN,ajM];rfl⟩,An,by have:=A.bsE;omega,by simp[e0],by simp,fun j hj=>?_⟩ rfl)
        show Xy w N l (if j=i+1 then _ else tr j) (if j+1=i+1 then _ else tr (j+1))
        by_cases ej:j=i
        ·subst ej
         simp only[if_true,ajV (ajY j),if_false]
         rw[ei];exact hSt
        ·rw[if_neg (by omega),if_neg (by omega)]
         exact hst j (by omega)
       |true=>
        (have hb:=trivial;with_reducible repeat' (first|simp only[hb,Vc.down,seval,Yv.down,g1,g2,g3,g4,g5,g12,g14,g15,h200,hww,hB,hB2,hAz,hMz,m1,m2,m3,m4,hAl,hD,hWz,htR2,hS0,mc,mp,mn,k3,p1,mz,hHas0,kn,Qr,Qs,bne,beq_self_eq_true,ae2,adQ,Zr,aaN,afJ,adC]|refine Qp ?_ ?_<;>intro hb|refine aH ?_|fail))
        refine Qj (kJ _ _ () ⟨Qq z o.i (Qw p d o.k true),g,paid+o.c.toNat,fun j=>if j=i+1 then(Qb (Qq z o.i (Qw p d o.k true)) d,g)else tr j,true,.slr 9 (h.length+1) 0 z.parts.length,by simp[up,g1],by simp[up,g2],by simp[up,g3],by simp[up,g4],by simp[up,g5],by simp[up,g12],by simp[up],by simp[up],by rw[af8 (by simpa using hl0),ag1 hl0];rfl,.inr ⟨h.length+1,_,by omega,by rw[Qk],by rw[ai0 (by simp),aaN,ajM];rfl⟩,An,by have:=A.bsE;omega,by simp[e0],by simp,fun j hj=>?_⟩ rfl)
        show Xy w N l (if j=i+1 then _ else tr j) (if j+1=i+1 then _ else tr (j+1))
        by_cases ej:j=i
        ·subst ej
         simp only[if_true,ajV (ajY j),if_false]
         rw[ei];exact hSt
        ·rw[if_neg (by omega),if_neg (by omega)]
         exact hst j (by omega)
      ·have hb2:=Qg hb
       cases mz:decide (z.need>0)with
       |false=>
        (with_reducible repeat' (first|simp only[hb,Vc.down,seval,Yv.down,g1,g2,g3,g4,g5,g12,g14,g15,h200,hww,hB,hB2,hb,hb2,htR,hAz,hMz,m1,m2,m3,m4,hAl,hD,hWz,htR2,hS0,mc,mp,mn,k3,p1,mz,kn,Qr,Qs,bne,beq_self_eq_true,ae2,adQ,Zr,aaN,afJ,adC]|refine Qp ?_ ?_<;>intro hb|refine aH ?_|fail))
        refine Qj (kJ _ _ () ⟨Qq z o.i (Qw p d o.k true),g,paid+o.c.toNat,fun j=>if j=i+1 then(Qb (Qq z o.i (Qw p d o.k true)) d,g)else tr j,true,.slr 9 (h.length+1) 0 z.parts.length,by simp[up,g1],by simp[up,g2],by simp[up,g3],by simp[up,g4],by simp[up,g5],by simp[up,g12],by simp[up],by simp[up],by rw[af8 (by simpa using hl0),ag1 hl0];rfl,.inr ⟨h.length+1,_,by omega,by rw[Qk],by rw[ai0 (by simp),aaN,ajM];rfl⟩,An,by have:=A.bsE;omega,by simp[e0],by simp,fun j hj=>?_⟩ rfl)
        show Xy w N l (if j=i+1 then _ else tr j) (if j+1=i+1 then _ else tr (j+1))
        by_cases ej:j=i
        ·subst ej
         simp only[if_true,ajV (ajY j),if_false]
         rw[ei];exact hSt
        ·rw[if_neg (by omega),if_neg (by omega)]
         exact hst j (by omega)
       |true=>
        (with_reducible repeat' (first|simp only[hb,Vc.down,seval,Yv.down,g1,g2,g3,g4,g5,g12,g14,g15,h200,hww,hB,hB2,hb,hb2,htR,hAz,hMz,m1,m2,m3,m4,hAl,hD,hWz,htR2,hS0,mc,mp,mn,k3,p1,mz,hHas0,kn,Qr,Qs,bne,beq_self_eq_true,ae2,adQ,Zr,aaN,afJ,adC]|refine Qp ?_ ?_<;>intro hb|refine aH ?_|fail))
        refine Qj (kJ _ _ () ⟨Qq z o.i (Qw p d o.k true),g,paid+o.c.toNat,fun j=>if j=i+1 then(Qb (Qq z o.i (Qw p d o.k true)) d,g)else tr j,true,.slr 9 (h.length+1) 0 z.parts.length,by simp[up,g1],by simp[up,g2],by simp[up,g3],by simp[up,g4],by simp[up,g5],by simp[up,g12],by simp[up],by simp[up],by rw[af8 (by simpa using hl0),ag1 hl0];rfl,.inr ⟨h.length+1,_,by omega,by rw[Qk],by rw[ai0 (by simp),aaN,ajM];rfl⟩,An,by have:=A.bsE;omega,by simp[e0],by simp,fun j hj=>?_⟩ rfl)
        show Xy w N l (if j=i+1 then _ else tr j) (if j+1=i+1 then _ else tr (j+1))
        by_cases ej:j=i
        ·subst ej
         simp only[if_true,ajV (ajY j),if_false]
         rw[ei];exact hSt
        ·rw[if_neg (by omega),if_neg (by omega)]
         exact hst j (by omega)
     ·have hHas1:=hHas true
      rw[hslL _ hna]at hHas1
      rcases hv with rfl|⟨b,wb,hbb,rfl,hb⟩
      ·cases mz:decide (z.need>0)with
       |false=>
        (have hb:=trivial;with_reducible repeat' (first|simp only[hb,Vc.down,seval,Yv.down,g1,g2,g3,g4,g5,g12,g14,g15,h200,hww,hB,hB2,hAz,hMz,m1,m2,m3,m4,hAl,hD,hWz,htR2,hS0,mc,mp,mn,k3,p1,mz,kn,Qr,Qs,bne,beq_self_eq_true,ae2,adQ,Zr,aaN,afJ,adC]|refine Qp ?_ ?_<;>intro hb|refine aH ?_|fail))
        refine Qj (kJ _ _ () ⟨Qq z o.i (Qw p d o.k true),g,paid+o.c.toNat,fun j=>if j=i+1 then(Qb (Qq z o.i (Qw p d o.k true)) d,g)else tr j,true,.slr 9 (h.length+2) 0 z.parts.length,by simp[up,g1],by simp[up,g2],by simp[up,g3],by simp[up,g4],by simp[up,g5],by simp[up,g12],by simp[up],by simp[up],by rw[af8 (by simpa using hl0),ag1 hl0];rfl,.inr ⟨h.length+2,_,by omega,by rw[Qk],by rw[ai0 (by simp),aaN,ajM];rfl⟩,An,by have:=A.bsE;omega,by simp[e0],by simp,fun j hj=>?_⟩ rfl)
        show Xy w N l (if j=i+1 then _ else tr j) (if j+1=i+1 then _ else tr (j+1))
        by_cases ej:j=i
        ·subst ej
         simp only[if_true,ajV (ajY j),if_false]
         rw[ei];exact hSt
        ·rw[if_neg (by omega),if_neg (by omega)]
         exact hst j (by omega)
       |true=>
        cases hab:jD z N (Qb z d) o.i with
        |false=>
         rw[hab]at hHas1
         (have hb:=trivial;with_reducible repeat' (first|simp only[hb,Vc.down,seval,Yv.down,g1,g2,g3,g4,g5,g12,g14,g15,h200,hww,hB,hB2,hAz,hMz,m1,m2,m3,m4,hAl,hD,hWz,htR2,hS0,mc,mp,mn,k3,p1,mz,hHas1,htk,kn,Qr,Qs,bne,beq_self_eq_true,ae2,adQ,Zr,aaN,afJ,adC]|refine Qp ?_ ?_<;>intro hb|refine aH ?_|fail))
         refine Qj (kJ _ _ () ⟨Qq z o.i (Qw p d o.k true),g,paid+o.c.toNat,fun j=>if j=i+1 then(Qb (Qq z o.i (Qw p d o.k true)) d,g)else tr j,true,.slr 9 (h.length+2) 0 z.parts.length,by simp[up,g1],by simp[up,g2],by simp[up,g3],by simp[up,g4],by simp[up,g5],by simp[up,g12],by simp[up],by simp[up],by rw[af8 (by simpa using hl0),ag1 hl0];rfl,.inr ⟨h.length+2,_,by omega,by rw[Qk],by rw[ai0 (by simp),aaN,ajM];rfl⟩,An,by have:=A.bsE;omega,by simp[e0],by simp,fun j hj=>?_⟩ rfl)
         show Xy w N l (if j=i+1 then _ else tr j) (if j+1=i+1 then _ else tr (j+1))
         by_cases ej:j=i
         ·subst ej
          simp only[if_true,ajV (ajY j),if_false]
          rw[ei];exact hSt
         ·rw[if_neg (by omega),if_neg (by omega)]
          exact hst j (by omega)
        |true=>
         rw[hab]at hHas1
         obtain⟨ma,mb⟩:=hal hab (of_decide_eq_true mz)
         (have hb:=trivial;with_reducible repeat' (first|simp only[hb,Vc.down,seval,Yv.down,g1,g2,g3,g4,g5,g12,g14,g15,h200,hww,hB,hB2,hAz,hMz,m1,m2,m3,m4,hAl,hD,hWz,htR2,hS0,mc,mp,mn,k3,p1,mz,hHas1,htk,ma,mb,kn,Qr,Qs,bne,beq_self_eq_true,ae2,adQ,Zr,aaN,afJ,adC]|refine Qp ?_ ?_<;>intro hb|refine aH ?_|fail))
         refine Qj (kJ _ _ () ⟨Qq z o.i (Qw p d o.k true),g,paid+o.c.toNat,fun j=>if j=i+1 then(Qb (Qq z o.i (Qw p d o.k true)) d,g)else tr j,true,.slr 9 (h.length+2) 0 z.parts.length,by simp[up,g1],by simp[up,g2],by simp[up,g3],by simp[up,g4],by simp[up,g5],by simp[up,g12],by simp[up],by simp[up],by rw[af8 (by simpa using hl0),ag1 hl0];rfl,.inr ⟨h.length+2,_,by omega,by rw[Qk],by rw[ai0 (by simp),aaN,ajM];rfl⟩,An,by have:=A.bsE;omega,by simp[e0],by simp,fun j hj=>?_⟩ rfl)
         show Xy w N l (if j=i+1 then _ else tr j) (if j+1=i+1 then _ else tr (j+1))
         by_cases ej:j=i
         ·subst ej
          simp only[if_true,ajV (ajY j),if_false]
          rw[ei];exact hSt
         ·rw[if_neg (by omega),if_neg (by omega)]
          exact hst j (by omega)
      ·have hb2:=Qg hb
       cases mz:decide (z.need>0)with
       |false=>
        (with_reducible repeat' (first|simp only[hb,Vc.down,seval,Yv.down,g1,g2,g3,g4,g5,g12,g14,g15,h200,hww,hB,hB2,hb,hb2,htR,hAz,hMz,m1,m2,m3,m4,hAl,hD,hWz,htR2,hS0,mc,mp,mn,k3,p1,mz,kn,Qr,Qs,bne,beq_self_eq_true,ae2,adQ,Zr,aaN,afJ,adC]|refine Qp ?_ ?_<;>intro hb|refine aH ?_|fail))
        refine Qj (kJ _ _ () ⟨Qq z o.i (Qw p d o.k true),g,paid+o.c.toNat,fun j=>if j=i+1 then(Qb (Qq z o.i (Qw p d o.k true)) d,g)else tr j,true,.slr 9 (h.length+2) 0 z.parts.length,by simp[up,g1],by simp[up,g2],by simp[up,g3],by simp[up,g4],by simp[up,g5],by simp[up,g12],by simp[up],by simp[up],by rw[af8 (by simpa using hl0),ag1 hl0];rfl,.inr ⟨h.length+2,_,by omega,by rw[Qk],by rw[ai0 (by simp),aaN,ajM];rfl⟩,An,by have:=A.bsE;omega,by simp[e0],by simp,fun j hj=>?_⟩ rfl)
        show Xy w N l (if j=i+1 then _ else tr j) (if j+1=i+1 then _ else tr (j+1))
        by_cases ej:j=i
        ·subst ej
         simp only[if_true,ajV (ajY j),if_false]
         rw[ei];exact hSt
        ·rw[if_neg (by omega),if_neg (by omega)]
         exact hst j (by omega)
       |true=>
        cases hab:jD z N (Qb z d) o.i with
        |false=>
         rw[hab]at hHas1
         (with_reducible repeat' (first|simp only[hb,Vc.down,seval,Yv.down,g1,g2,g3,g4,g5,g12,g14,g15,h200,hww,hB,hB2,hb,hb2,htR,hAz,hMz,m1,m2,m3,m4,hAl,hD,hWz,htR2,hS0,mc,mp,mn,k3,p1,mz,hHas1,htk,kn,Qr,Qs,bne,beq_self_eq_true,ae2,adQ,Zr,aaN,afJ,adC]|refine Qp ?_ ?_<;>intro hb|refine aH ?_|fail))
         refine Qj (kJ _ _ () ⟨Qq z o.i (Qw p d o.k true),g,paid+o.c.toNat,fun j=>if j=i+1 then(Qb (Qq z o.i (Qw p d o.k true)) d,g)else tr j,true,.slr 9 (h.length+2) 0 z.parts.length,by simp[up,g1],by simp[up,g2],by simp[up,g3],by simp[up,g4],by simp[up,g5],by simp[up,g12],by simp[up],by simp[up],by rw[af8 (by simpa using hl0),ag1 hl0];rfl,.inr ⟨h.length+2,_,by omega,by rw[Qk],by rw[ai0 (by simp),aaN,ajM];rfl⟩,An,by have:=A.bsE;omega,by simp[e0],by simp,fun j hj=>?_⟩ rfl)
         show Xy w N l (if j=i+1 then _ else tr j) (if j+1=i+1 then _ else tr (j+1))
         by_cases ej:j=i
         ·subst ej
          simp only[if_true,ajV (ajY j),if_false]
          rw[ei];exact hSt
         ·rw[if_neg (by omega),if_neg (by omega)]
          exact hst j (by omega)
        |true=>
         rw[hab]at hHas1
         obtain⟨ma,mb⟩:=hal hab (of_decide_eq_true mz)
         (with_reducible repeat' (first|simp only[hb,Vc.down,seval,Yv.down,g1,g2,g3,g4,g5,g12,g14,g15,h200,hww,hB,hB2,hb,hb2,htR,hAz,hMz,m1,m2,m3,m4,hAl,hD,hWz,htR2,hS0,mc,mp,mn,k3,p1,mz,hHas1,htk,ma,mb,kn,Qr,Qs,bne,beq_self_eq_true,ae2,adQ,Zr,aaN,afJ,adC]|refine Qp ?_ ?_<;>intro hb|refine aH ?_|fail))
         refine Qj (kJ _ _ () ⟨Qq z o.i (Qw p d o.k true),g,paid+o.c.toNat,fun j=>if j=i+1 then(Qb (Qq z o.i (Qw p d o.k true)) d,g)else tr j,true,.slr 9 (h.length+2) 0 z.parts.length,by simp[up,g1],by simp[up,g2],by simp[up,g3],by simp[up,g4],by simp[up,g5],by simp[up,g12],by simp[up],by simp[up],by rw[af8 (by simpa using hl0),ag1 hl0];rfl,.inr ⟨h.length+2,_,by omega,by rw[Qk],by rw[ai0 (by simp),aaN,ajM];rfl⟩,An,by have:=A.bsE;omega,by simp[e0],by simp,fun j hj=>?_⟩ rfl)
         show Xy w N l (if j=i+1 then _ else tr j) (if j+1=i+1 then _ else tr (j+1))
         by_cases ej:j=i
         ·subst ej
          simp only[if_true,ajV (ajY j),if_false]
          rw[ei];exact hSt
         ·rw[if_neg (by omega),if_neg (by omega)]
          exact hst j (by omega)
    |false=>
     have hg0:0<g:=by have:=ne_of_beq_false p1;omega
     cases p2:decide ((i:Int)≥(rs.length:Int))with
     |true=>
      have hpb:(true:Bool)=false→o.k=3∧0<g:=fun e=>by cases e
      obtain⟨q1,q2,q3,q4,q5,_,An,hSt,hle⟩:=A.next hl hom hoe hp true hpb
      simp only[if_true]at An hSt hle
      obtain⟨wd,hD⟩:=(aaT A.ok (by omega) A.small d hzd hp hk true).2.2 q1 q2
      change Up.call _ _ _=some (Tu.ret (AV.tup [_,.int .i64 (fU p o.k),_]),_)at hD
      rw[q3,zsl]at hD
      have hWz:=nE A.small zwb zdb hp q1 true
      have mc:decide (o.c<1)=false:=decide_eq_false (by omega)
      have mp:IntKind.i64.wrap ((paid:Int)+o.c)=((paid+o.c.toNat:Nat):Int):=by rw[Us (by omega) (by omega)];omega
      have mn:True:=trivial
      have hal:jD z N (Qb z d) o.i=true→0<z.need→(o.k==1)=false∧(o.k==4)=false:=fun ha hn=>by
       constructor<;>refine beq_eq_false_iff_ne.2 fun e=>?_
       ·have:=Yb A.ok hp (.inl e) true hn ha;rw[q2]at this;cases this
       ·have:=Yb A.ok hp (.inr e) true hn ha;rw[q2]at this;cases this
      rcases hva with⟨hna,rfl,rfl⟩|⟨hna,rfl,rfl⟩
      ·have hHas0:=hHas false
       rw[hna,show Rn 1 true false (aj6 Zq [])=AV.nils from rfl,show jD z N (Qb z d) o.i=false by rw[←hcon,hna];rfl]at hHas0
       rcases hv with rfl|⟨b,wb,hbb,rfl,hb⟩
       ·cases mz:decide (z.need>0)with
        |false=>
         (have hb:=trivial;with_reducible repeat' (first|simp only[hb,Vc.down,seval,Yv.down,g1,g2,g3,g4,g5,g12,g14,g15,h200,hww,hB,hB2,hAz,hMz,m1,m2,m3,m4,hAl,hD,hWz,htR2,hS0,mc,mp,mn,k3,p1,p2,mz,kn,Qr,Qs,bne,beq_self_eq_true,ae2,adQ,Zr,aaN,afJ,adC]|refine Qp ?_ ?_<;>intro hb|refine aH ?_|fail))
         refine Qj (kJ _ _ () ⟨Qq z o.i (Qw p d o.k true),g,paid+o.c.toNat,fun j=>if j=i+1 then(Qb (Qq z o.i (Qw p d o.k true)) d,g)else tr j,true,.slr 9 (h.length+1) 0 z.parts.length,by simp[up,g1],by simp[up,g2],by simp[up,g3],by simp[up,g4],by simp[up,g5],by simp[up,g12],by simp[up],by simp[up],by rw[af8 (by simpa using hl0),ag1 hl0];rfl,.inr ⟨h.length+1,_,by omega,by rw[Qk],by rw[ai0 (by simp),aaN,ajM];rfl⟩,An,by have:=A.bsE;omega,by simp[e0],by simp,fun j hj=>?_⟩ rfl)
         show Xy w N l (if j=i+1 then _ else tr j) (if j+1=i+1 then _ else tr (j+1))
         by_cases ej:j=i
         ·subst ej
          simp only[if_true,ajV (ajY j),if_false]
          rw[ei];exact hSt
         ·rw[if_neg (by omega),if_neg (by omega)]
          exact hst j (by omega)
        |true=>
         (have hb:=trivial;with_reducible repeat' (first|simp only[hb,Vc.down,seval,Yv.down,g1,g2,g3,g4,g5,g12,g14,g15,h200,hww,hB,hB2,hAz,hMz,m1,m2,m3,m4,hAl,hD,hWz,htR2,hS0,mc,mp,mn,k3,p1,p2,mz,hHas0,kn,Qr,Qs,bne,beq_self_eq_true,ae2,adQ,Zr,aaN,afJ,adC]|refine Qp ?_ ?_<;>intro hb|refine aH ?_|fail))
         refine Qj (kJ _ _ () ⟨Qq z o.i (Qw p d o.k true),g,paid+o.c.toNat,fun j=>if j=i+1 then(Qb (Qq z o.i (Qw p d o.k true)) d,g)else tr j,true,.slr 9 (h.length+1) 0 z.parts.length,by simp[up,g1],by simp[up,g2],by simp[up,g3],by simp[up,g4],by simp[up,g5],by simp[up,g12],by simp[up],by simp[up],by rw[af8 (by simpa using hl0),ag1 hl0];rfl,.inr ⟨h.length+1,_,by omega,by rw[Qk],by rw[ai0 (by simp),aaN,ajM];rfl⟩,An,by have:=A.bsE;omega,by simp[e0],by simp,fun j hj=>?_⟩ rfl)
         show Xy w N l (if j=i+1 then _ else tr j) (if j+1=i+1 then _ else tr (j+1))
         by_cases ej:j=i
         ·subst ej
          simp only[if_true,ajV (ajY j),if_false]
          rw[ei];exact hSt
         ·rw[if_neg (by omega),if_neg (by omega)]
          exact hst j (by omega)
       ·have hb2:=Qg hb
        cases mz:decide (z.need>0)with
        |false=>
         (with_reducible repeat' (first|simp only[hb,Vc.down,seval,Yv.down,g1,g2,g3,g4,g5,g12,g14,g15,h200,hww,hB,hB2,hb,hb2,htR,hAz,hMz,m1,m2,m3,m4,hAl,hD,hWz,htR2,hS0,mc,mp,mn,k3,p1,p2,mz,kn,Qr,Qs,bne,beq_self_eq_true,ae2,adQ,Zr,aaN,afJ,adC]|refine Qp ?_ ?_<;>intro hb|refine aH ?_|fail))
         refine Qj (kJ _ _ () ⟨Qq z o.i (Qw p d o.k true),g,paid+o.c.toNat,fun j=>if j=i+1 then(Qb (Qq z o.i (Qw p d o.k true)) d,g)else tr j,true,.slr 9 (h.length+1) 0 z.parts.length,by simp[up,g1],by simp[up,g2],by simp[up,g3],by simp[up,g4],by simp[up,g5],by simp[up,g12],by simp[up],by simp[up],by rw[af8 (by simpa using hl0),ag1 hl0];rfl,.inr ⟨h.length+1,_,by omega,by rw[Qk],by rw[ai0 (by simp),aaN,ajM];rfl⟩,An,by have:=A.bsE;omega,by simp[e0],by simp,fun j hj=>?_⟩ rfl)
         show Xy w N l (if j=i+1 then _ else tr j) (if j+1=i+1 then _ else tr (j+1))
         by_cases ej:j=i
         ·subst ej
          simp only[if_true,ajV (ajY j),if_false]
          rw[ei];exact hSt
         ·rw[if_neg (by omega),if_neg (by omega)]
          exact hst j (by omega)
        |true=>
         (with_reducible repeat' (first|simp only[hb,Vc.down,seval,Yv.down,g1,g2,g3,g4,g5,g12,g14,g15,h200,hww,hB,hB2,hb,hb2,htR,hAz,hMz,m1,m2,m3,m4,hAl,hD,hWz,htR2,hS0,mc,mp,mn,k3,p1,p2,mz,hHas0,kn,Qr,Qs,bne,beq_self_eq_true,ae2,adQ,Zr,aaN,afJ,adC]|refine Qp ?_ ?_<;>intro hb|refine aH ?_|fail))
         refine Qj (kJ _ _ () ⟨Qq z o.i (Qw p d o.k true),g,paid+o.c.toNat,fun j=>if j=i+1 then(Qb (Qq z o.i (Qw p d o.k true)) d,g)else tr j,true,.slr 9 (h.length+1) 0 z.parts.length,by simp[up,g1],by simp[up,g2],by simp[up,g3],by simp[up,g4],by simp[up,g5],by simp[up,g12],by simp[up],by simp[up],by rw[af8 (by simpa using hl0),ag1 hl0];rfl,.inr ⟨h.length+1,_,by omega,by rw[Qk],by rw[ai0 (by simp),aaN,ajM];rfl⟩,An,by have:=A.bsE;omega,by simp[e0],by simp,fun j hj=>?_⟩ rfl)
         show Xy w N l (if j=i+1 then _ else tr j) (if j+1=i+1 then _ else tr (j+1))
         by_cases ej:j=i
         ·subst ej
          simp only[if_true,ajV (ajY j),if_false]
          rw[ei];exact hSt
         ·rw[if_neg (by omega),if_neg (by omega)]
          exact hst j (by omega)
      ·have hHas1:=hHas true
       rw[hslL _ hna]at hHas1
       rcases hv with rfl|⟨b,wb,hbb,rfl,hb⟩
       ·cases mz:decide (z.need>0)with
        |false=>
         (have hb:=trivial;with_reducible repeat' (first|simp only[hb,Vc.down,seval,Yv.down,g1,g2,g3,g4,g5,g12,g14,g15,h200,hww,hB,hB2,hAz,hMz,m1,m2,m3,m4,hAl,hD,hWz,htR2,hS0,mc,mp,mn,k3,p1,p2,mz,kn,Qr,Qs,bne,beq_self_eq_true,ae2,adQ,Zr,aaN,afJ,adC]|refine Qp ?_ ?_<;>intro hb|refine aH ?_|fail))
         refine Qj (kJ _ _ () ⟨Qq z o.i (Qw p d o.k true),g,paid+o.c.toNat,fun j=>if j=i+1 then(Qb (Qq z o.i (Qw p d o.k true)) d,g)else tr j,true,.slr 9 (h.length+2) 0 z.parts.length,by simp[up,g1],by simp[up,g2],by simp[up,g3],by simp[up,g4],by simp[up,g5],by simp[up,g12],by simp[up],by simp[up],by rw[af8 (by simpa using hl0),ag1 hl0];rfl,.inr ⟨h.length+2,_,by omega,by rw[Qk],by rw[ai0 (by simp),aaN,ajM];rfl⟩,An,by have:=A.bsE;omega,by simp[e0],by simp,fun j hj=>?_⟩ rfl)
         show Xy w N l (if j=i+1 then _ else tr j) (if j+1=i+1 then _ else tr (j+1))
         by_cases ej:j=i
         ·subst ej
          simp only[if_true,ajV (ajY j),if_false]
          rw[ei];exact hSt
         ·rw[if_neg (by omega),if_neg (by omega)]
          exact hst j (by omega)
        |true=>
         cases hab:jD z N (Qb z d) o.i with
         |false=>
          rw[hab]at hHas1
          (have hb:=trivial;with_reducible repeat' (first|simp only[hb,Vc.down,seval,Yv.down,g1,g2,g3,g4,g5,g12,g14,g15,h200,hww,hB,hB2,hAz,hMz,m1,m2,m3,m4,hAl,hD,hWz,htR2,hS0,mc,mp,mn,k3,p1,p2,mz,hHas1,htk,kn,Qr,Qs,bne,beq_self_eq_true,ae2,adQ,Zr,aaN,afJ,adC]|refine Qp ?_ ?_<;>intro hb|refine aH ?_|fail))
          refine Qj (kJ _ _ () ⟨Qq z o.i (Qw p d o.k true),g,paid+o.c.toNat,fun j=>if j=i+1 then(Qb (Qq z o.i (Qw p d o.k true)) d,g)else tr j,true,.slr 9 (h.length+2) 0 z.parts.length,by simp[up,g1],by simp[up,g2],by simp[up,g3],by simp[up,g4],by simp[up,g5],by simp[up,g12],by simp[up],by simp[up],by rw[af8 (by simpa using hl0),ag1 hl0];rfl,.inr ⟨h.length+2,_,by omega,by rw[Qk],by rw[ai0 (by simp),aaN,ajM];rfl⟩,An,by have:=A.bsE;omega,by simp[e0],by simp,fun j hj=>?_⟩ rfl)
          show Xy w N l (if j=i+1 then _ else tr j) (if j+1=i+1 then _ else tr (j+1))
          by_cases ej:j=i
          ·subst ej
           simp only[if_true,ajV (ajY j),if_false]
           rw[ei];exact hSt
          ·rw[if_neg (by omega),if_neg (by omega)]
           exact hst j (by omega)
         |true=>
          rw[hab]at hHas1
          obtain⟨ma,mb⟩:=hal hab (of_decide_eq_true mz)
          (have hb:=trivial;with_reducible repeat' (first|simp only[hb,Vc.down,seval,Yv.down,g1,g2,g3,g4,g5,g12,g14,g15,h200,hww,hB,hB2,hAz,hMz,m1,m2,m3,m4,hAl,hD,hWz,htR2,hS0,mc,mp,mn,k3,p1,p2,mz,hHas1,htk,ma,mb,kn,Qr,Qs,bne,beq_self_eq_true,ae2,adQ,Zr,aaN,afJ,adC]|refine Qp ?_ ?_<;>intro hb|refine aH ?_|fail))
          refine Qj (kJ _ _ () ⟨Qq z o.i (Qw p d o.k true),g,paid+o.c.toNat,fun j=>if j=i+1 then(Qb (Qq z o.i (Qw p d o.k true)) d,g)else tr j,true,.slr 9 (h.length+2) 0 z.parts.length,by simp[up,g1],by simp[up,g2],by simp[up,g3],by simp[up,g4],by simp[up,g5],by simp[up,g12],by simp[up],by simp[up],by rw[af8 (by simpa using hl0),ag1 hl0];rfl,.inr ⟨h.length+2,_,by omega,by rw[Qk],by rw[ai0 (by simp),aaN,ajM];rfl⟩,An,by have:=A.bsE;omega,by simp[e0],by simp,fun j hj=>?_⟩ rfl)
          show Xy w N l (if j=i+1 then _ else tr j) (if j+1=i+1 then _ else tr (j+1))
          by_cases ej:j=i
          ·subst ej
           simp only[if_true,ajV (ajY j),if_false]
           rw[ei];exact hSt
          ·rw[if_neg (by omega),if_neg (by omega)]
           exact hst j (by omega)
       ·have hb2:=Qg hb
        cases mz:decide (z.need>0)with
        |false=>
         (with_reducible repeat' (first|simp only[hb,Vc.down,seval,Yv.down,g1,g2,g3,g4,g5,g12,g14,g15,h200,hww,hB,hB2,hb,hb2,htR,hAz,hMz,m1,m2,m3,m4,hAl,hD,hWz,htR2,hS0,mc,mp,mn,k3,p1,p2,mz,kn,Qr,Qs,bne,beq_self_eq_true,ae2,adQ,Zr,aaN,afJ,adC]|refine Qp ?_ ?_<;>intro hb|refine aH ?_|fail))
         refine Qj (kJ _ _ () ⟨Qq z o.i (Qw p d o.k true),g,paid+o.c.toNat,fun j=>if j=i+1 then(Qb (Qq z o.i (Qw p d o.k true)) d,g)else tr j,true,.slr 9 (h.length+2) 0 z.parts.length,by simp[up,g1],by simp[up,g2],by simp[up,g3],by simp[up,g4],by simp[up,g5],by simp[up,g12],by simp[up],by simp[up],by rw[af8 (by simpa using hl0),ag1 hl0];rfl,.inr ⟨h.length+2,_,by omega,by rw[Qk],by rw[ai0 (by simp),aaN,ajM];rfl⟩,An,by have:=A.bsE;omega,by simp[e0],by simp,fun j hj=>?_⟩ rfl)
         show Xy w N l (if j=i+1 then _ else tr j) (if j+1=i+1 then _ else tr (j+1))
         by_cases ej:j=i
         ·subst ej
          simp only[if_true,ajV (ajY j),if_false]
          rw[ei];exact hSt
         ·rw[if_neg (by omega),if_neg (by omega)]
          exact hst j (by omega)
        |true=>
         cases hab:jD z N (Qb z d) o.i with
         |false=>
          rw[hab]at hHas1
          (with_reducible repeat' (first|simp only[hb,Vc.down,seval,Yv.down,g1,g2,g3,g4,g5,g12,g14,g15,h200,hww,hB,hB2,hb,hb2,htR,hAz,hMz,m1,m2,m3,m4,hAl,hD,hWz,htR2,hS0,mc,mp,mn,k3,p1,p2,mz,hHas1,htk,kn,Qr,Qs,bne,beq_self_eq_true,ae2,adQ,Zr,aaN,afJ,adC]|refine Qp ?_ ?_<;>intro hb|refine aH ?_|fail))
          refine Qj (kJ _ _ () ⟨Qq z o.i (Qw p d o.k true),g,paid+o.c.toNat,fun j=>if j=i+1 then(Qb (Qq z o.i (Qw p d o.k true)) d,g)else tr j,true,.slr 9 (h.length+2) 0 z.parts.length,by simp[up,g1],by simp[up,g2],by simp[up,g3],by simp[up,g4],by simp[up,g5],by simp[up,g12],by simp[up],by simp[up],by rw[af8 (by simpa using hl0),ag1 hl0];rfl,.inr ⟨h.length+2,_,by omega,by rw[Qk],by rw[ai0 (by simp),aaN,ajM];rfl⟩,An,by have:=A.bsE;omega,by simp[e0],by simp,fun j hj=>?_⟩ rfl)
          show Xy w N l (if j=i+1 then _ else tr j) (if j+1=i+1 then _ else tr (j+1))
          by_cases ej:j=i
          ·subst ej
           simp only[if_true,ajV (ajY j),if_false]
           rw[ei];exact hSt
          ·rw[if_neg (by omega),if_neg (by omega)]
           exact hst j (by omega)
         |true=>
          rw[hab]at hHas1
          obtain⟨ma,mb⟩:=hal hab (of_decide_eq_true mz)
          (with_reducible repeat' (first|simp only[hb,Vc.down,seval,Yv.down,g1,g2,g3,g4,g5,g12,g14,g15,h200,hww,hB,hB2,hb,hb2,htR,hAz,hMz,m1,m2,m3,m4,hAl,hD,hWz,htR2,hS0,mc,mp,mn,k3,p1,p2,mz,hHas1,htk,ma,mb,kn,Qr,Qs,bne,beq_self_eq_true,ae2,adQ,Zr,aaN,afJ,adC]|refine Qp ?_ ?_<;>intro hb|refine aH ?_|fail))
          refine Qj (kJ _ _ () ⟨Qq z o.i (Qw p d o.k true),g,paid+o.c.toNat,fun j=>if j=i+1 then(Qb (Qq z o.i (Qw p d o.k true)) d,g)else tr j,true,.slr 9 (h.length+2) 0 z.parts.length,by simp[up,g1],by simp[up,g2],by simp[up,g3],by simp[up,g4],by simp[up,g5],by simp[up,g12],by simp[up],by simp[up],by rw[af8 (by simpa using hl0),ag1 hl0];rfl,.inr ⟨h.length+2,_,by omega,by rw[Qk],by rw[ai0 (by simp),aaN,ajM];rfl⟩,An,by have:=A.bsE;omega,by simp[e0],by simp,fun j hj=>?_⟩ rfl)
          show Xy w N l (if j=i+1 then _ else tr j) (if j+1=i+1 then _ else tr (j+1))
          by_cases ej:j=i
          ·subst ej
           simp only[if_true,ajV (ajY j),if_false]
           rw[ei];exact hSt
          ·rw[if_neg (by omega),if_neg (by omega)]
           exact hst j (by omega)
     |false=>
      have hir:i<rs.length:=by have:=of_decide_eq_false p2;omega
      have hir2:((i:Int)<(rs.length:Int))=True:=eq_true (by omega)
      obtain⟨rb,hrb⟩:∃rb,rs[i]?=some rb:=⟨_,List.getElem?_eq_getElem hir⟩
      cases rb with
      |true=>
       have hpb:(true:Bool)=false→o.k=3∧0<g:=fun e=>by cases e
       obtain⟨q1,q2,q3,q4,q5,_,An,hSt,hle⟩:=A.next hl hom hoe hp true hpb
       simp only[if_true]at An hSt hle
       obtain⟨wd,hD⟩:=(aaT A.ok (by omega) A.small d hzd hp hk true).2.2 q1 q2
       change Up.call _ _ _=some (Tu.ret (AV.tup [_,.int .i64 (fU p o.k),_]),_)at hD
       rw[q3,zsl]at hD
       have hWz:=nE A.small zwb zdb hp q1 true
       have mc:decide (o.c<1)=false:=decide_eq_false (by omega)
       have mp:IntKind.i64.wrap ((paid:Int)+o.c)=((paid+o.c.toNat:Nat):Int):=by rw[Us (by omega) (by omega)];omega
       have mn:True:=trivial
       have hal:jD z N (Qb z d) o.i=true→0<z.need→(o.k==1)=false∧(o.k==4)=false:=fun ha hn=>by
        constructor<;>refine beq_eq_false_iff_ne.2 fun e=>?_
        ·have:=Yb A.ok hp (.inl e) true hn ha;rw[q2]at this;cases this
        ·have:=Yb A.ok hp (.inr e) true hn ha;rw[q2]at this;cases this
       rcases hva with⟨hna,rfl,rfl⟩|⟨hna,rfl,rfl⟩
       ·have hHas0:=hHas false
        rw[hna,show Rn 1 true false (aj6 Zq [])=AV.nils from rfl,show jD z N (Qb z d) o.i=false by rw[←hcon,hna];rfl]at hHas0
        rcases hv with rfl|⟨b,wb,hbb,rfl,hb⟩
        ·cases mz:decide (z.need>0)with
         |false=>
          (have hb:=trivial;with_reducible repeat' (first|simp only[hb,Vc.down,seval,Yv.down,g1,g2,g3,g4,g5,g12,g14,g15,h200,hww,hB,hB2,hAz,hMz,m1,m2,m3,m4,hAl,hD,hWz,htR2,hS0,mc,mp,mn,k3,p1,p2,hir2,hrb,mz,kn,Qr,Qs,bne,beq_self_eq_true,ae2,adQ,Zr,aaN,afJ,adC]|refine Qp ?_ ?_<;>intro hb|refine aH ?_|fail))
          refine Qj (kJ _ _ () ⟨Qq z o.i (Qw p d o.k true),g,paid+o.c.toNat,fun j=>if j=i+1 then(Qb (Qq z o.i (Qw p d o.k true)) d,g)else tr j,true,.slr 9 (h.length+1) 0 z.parts.length,by simp[up,g1],by simp[up,g2],by simp[up,g3],by simp[up,g4],by simp[up,g5],by simp[up,g12],by simp[up],by simp[up],by rw[af8 (by simpa using hl0),ag1 hl0];rfl,.inr ⟨h.length+1,_,by omega,by rw[Qk],by rw[ai0 (by simp),aaN,ajM];rfl⟩,An,by have:=A.bsE;omega,by simp[e0],by simp,fun j hj=>?_⟩ rfl)
          show Xy w N l (if j=i+1 then _ else tr j) (if j+1=i+1 then _ else tr (j+1))
          by_cases ej:j=i
          ·subst ej
           simp only[if_true,ajV (ajY j),if_false]
           rw[ei];exact hSt
          ·rw[if_neg (by omega),if_neg (by omega)]
           exact hst j (by omega)
         |true=>
          (have hb:=trivial;with_reducible repeat' (first|simp only[hb,Vc.down,seval,Yv.down,g1,g2,g3,g4,g5,g12,g14,g15,h200,hww,hB,hB2,hAz,hMz,m1,m2,m3,m4,hAl,hD,hWz,htR2,hS0,mc,mp,mn,k3,p1,p2,hir2,hrb,mz,hHas0,kn,Qr,Qs,bne,beq_self_eq_true,ae2,adQ,Zr,aaN,afJ,adC]|refine Qp ?_ ?_<;>intro hb|refine aH ?_|fail))
          refine Qj (kJ _ _ () ⟨Qq z o.i (Qw p d o.k true),g,paid+o.c.toNat,fun j=>if j=i+1 then(Qb (Qq z o.i (Qw p d o.k true)) d,g)else tr j,true,.slr 9 (h.length+1) 0 z.parts.length,by simp[up,g1],by simp[up,g2],by simp[up,g3],by simp[up,g4],by simp[up,g5],by simp[up,g12],by simp[up],by simp[up],by rw[af8 (by simpa using hl0),ag1 hl0];rfl,.inr ⟨h.length+1,_,by omega,by rw[Qk],by rw[ai0 (by simp),aaN,ajM];rfl⟩,An,by have:=A.bsE;omega,by simp[e0],by simp,fun j hj=>?_⟩ rfl)
          show Xy w N l (if j=i+1 then _ else tr j) (if j+1=i+1 then _ else tr (j+1))
          by_cases ej:j=i
          ·subst ej
           simp only[if_true,ajV (ajY j),if_false]
           rw[ei];exact hSt
          ·rw[if_neg (by omega),if_neg (by omega)]
           exact hst j (by omega)
        ·have hb2:=Qg hb
         cases mz:decide (z.need>0)with
         |false=>
          (with_reducible repeat' (first|simp only[hb,Vc.down,seval,Yv.down,g1,g2,g3,g4,g5,g12,g14,g15,h200,hww,hB,hB2,hb,hb2,htR,hAz,hMz,m1,m2,m3,m4,hAl,hD,hWz,htR2,hS0,mc,mp,mn,k3,p1,p2,hir2,hrb,mz,kn,Qr,Qs,bne,beq_self_eq_true,ae2,adQ,Zr,aaN,afJ,adC]|refine Qp ?_ ?_<;>intro hb|refine aH ?_|fail))
          refine Qj (kJ _ _ () ⟨Qq z o.i (Qw p d o.k true),g,paid+o.c.toNat,fun j=>if j=i+1 then(Qb (Qq z o.i (Qw p d o.k true)) d,g)else tr j,true,.slr 9 (h.length+1) 0 z.parts.length,by simp[up,g1],by simp[up,g2],by simp[up,g3],by simp[up,g4],by simp[up,g5],by simp[up,g12],by simp[up],by simp[up],by rw[af8 (by simpa using hl0),ag1 hl0];rfl,.inr ⟨h.length+1,_,by omega,by rw[Qk],by rw[ai0 (by simp),aaN,ajM];rfl⟩,An,by have:=A.bsE;omega,by simp[e0],by simp,fun j hj=>?_⟩ rfl)
          show Xy w N l (if j=i+1 then _ else tr j) (if j+1=i+1 then _ else tr (j+1))
          by_cases ej:j=i
          ·subst ej
           simp only[if_true,ajV (ajY j),if_false]
           rw[ei];exact hSt
          ·rw[if_neg (by omega),if_neg (by omega)]
           exact hst j (by omega)
         |true=>
          (with_reducible repeat' (first|simp only[hb,Vc.down,seval,Yv.down,g1,g2,g3,g4,g5,g12,g14,g15,h200,hww,hB,hB2,hb,hb2,htR,hAz,hMz,m1,m2,m3,m4,hAl,hD,hWz,htR2,hS0,mc,mp,mn,k3,p1,p2,hir2,hrb,mz,hHas0,kn,Qr,Qs,bne,beq_self_eq_true,ae2,adQ,Zr,aaN,afJ,adC]|refine Qp ?_ ?_<;>intro hb|refine aH ?_|fail))
          refine Qj (kJ _ _ () ⟨Qq z o.i (Qw p d o.k true),g,paid+o.c.toNat,fun j=>if j=i+1 then(Qb (Qq z o.i (Qw p d o.k true)) d,g)else tr j,true,.slr 9 (h.length+1) 0 z.parts.length,by simp[up,g1],by simp[up,g2],by simp[up,g3],by simp[up,g4],by simp[up,g5],by simp[up,g12],by simp[up],by simp[up],by rw[af8 (by simpa using hl0),ag1 hl0];rfl,.inr ⟨h.length+1,_,by omega,by rw[Qk],by rw[ai0 (by simp),aaN,ajM];rfl⟩,An,by have:=A.bsE;omega,by simp[e0],by simp,fun j hj=>?_⟩ rfl)
          show Xy w N l (if j=i+1 then _ else tr j) (if j+1=i+1 then _ else tr (j+1))
          by_cases ej:j=i
          ·subst ej
           simp only[if_true,ajV (ajY j),if_false]
           rw[ei];exact hSt
          ·rw[if_neg (by omega),if_neg (by omega)]
           exact hst j (by omega)
       ·have hHas1:=hHas true
        rw[hslL _ hna]at hHas1
        rcases hv with rfl|⟨b,wb,hbb,rfl,hb⟩
        ·cases mz:decide (z.need>0)with
         |false=>
          (have hb:=trivial;with_reducible repeat' (first|simp only[hb,Vc.down,seval,Yv.down,g1,g2,g3,g4,g5,g12,g14,g15,h200,hww,hB,hB2,hAz,hMz,m1,m2,m3,m4,hAl,hD,hWz,htR2,hS0,mc,mp,mn,k3,p1,p2,hir2,hrb,mz,kn,Qr,Qs,bne,beq_self_eq_true,ae2,adQ,Zr,aaN,afJ,adC]|refine Qp ?_ ?_<;>intro hb|refine aH ?_|fail))
          refine Qj (kJ _ _ () ⟨Qq z o.i (Qw p d o.k true),g,paid+o.c.toNat,fun j=>if j=i+1 then(Qb (Qq z o.i (Qw p d o.k true)) d,g)else tr j,true,.slr 9 (h.length+2) 0 z.parts.length,by simp[up,g1],by simp[up,g2],by simp[up,g3],by simp[up,g4],by simp[up,g5],by simp[up,g12],by simp[up],by simp[up],by rw[af8 (by simpa using hl0),ag1 hl0];rfl,.inr ⟨h.length+2,_,by omega,by rw[Qk],by rw[ai0 (by simp),aaN,ajM];rfl⟩,An,by have:=A.bsE;omega,by simp[e0],by simp,fun j hj=>?_⟩ rfl)
          show Xy w N l (if j=i+1 then _ else tr j) (if j+1=i+1 then _ else tr (j+1))
          by_cases ej:j=i
          ·subst ej
           simp only[if_true,ajV (ajY j),if_false]
           rw[ei];exact hSt
          ·rw[if_neg (by omega),if_neg (by omega)]
           exact hst j (by omega)
         |true=>
          cases hab:jD z N (Qb z d) o.i with
          |false=>
           rw[hab]at hHas1
           (have hb:=trivial;with_reducible repeat' (first|simp only[hb,Vc.down,seval,Yv.down,g1,g2,g3,g4,g5,g12,g14,g15,h200,hww,hB,hB2,hAz,hMz,m1,m2,m3,m4,hAl,hD,hWz,htR2,hS0,mc,mp,mn,k3,p1,p2,hir2,hrb,mz,hHas1,htk,kn,Qr,Qs,bne,beq_self_eq_true,ae2,adQ,Zr,aaN,afJ,adC]|refine Qp ?_ ?_<;>intro hb|refine aH ?_|fail))
           refine Qj (kJ _ _ () ⟨Qq z o.i (Qw p d o.k true),g,paid+o.c.toNat,fun j=>if j=i+1 then(Qb (Qq z o.i (Qw p d o.k true)) d,g)else tr j,true,.slr 9 (h.length+2) 0 z.parts.length,by simp[up,g1],by simp[up,g2],by simp[up,g3],by simp[up,g4],by simp[up,g5],by simp[up,g12],by simp[up],by simp[up],by rw[af8 (by simpa using hl0),ag1 hl0];rfl,.inr ⟨h.length+2,_,by omega,by rw[Qk],by rw[ai0 (by simp),aaN,ajM];rfl⟩,An,by have:=A.bsE;omega,by simp[e0],by simp,fun j hj=>?_⟩ rfl)
           show Xy w N l (if j=i+1 then _ else tr j) (if j+1=i+1 then _ else tr (j+1))
           by_cases ej:j=i
           ·subst ej
            simp only[if_true,ajV (ajY j),if_false]
            rw[ei];exact hSt
           ·rw[if_neg (by omega),if_neg (by omega)]
            exact hst j (by omega)
          |true=>
           rw[hab]at hHas1
           obtain⟨ma,mb⟩:=hal hab (of_decide_eq_true mz)
           (have hb:=trivial;with_reducible repeat' (first|simp only[hb,Vc.down,seval,Yv.down,g1,g2,g3,g4,g5,g12,g14,g15,h200,hww,hB,hB2,hAz,hMz,m1,m2,m3,m4,hAl,hD,hWz,htR2,hS0,mc,mp,mn,k3,p1,p2,hir2,hrb,mz,hHas1,htk,ma,mb,kn,Qr,Qs,bne,beq_self_eq_true,ae2,adQ,Zr,aaN,afJ,adC]|refine Qp ?_ ?_<;>intro hb|refine aH ?_|fail))
           refine Qj (kJ _ _ () ⟨Qq z o.i (Qw p d o.k true),g,paid+o.c.toNat,fun j=>if j=i+1 then(Qb (Qq z o.i (Qw p d o.k true)) d,g)else tr j,true,.slr 9 (h.length+2) 0 z.parts.length,by simp[up,g1],by simp[up,g2],by simp[up,g3],by simp[up,g4],by simp[up,g5],by simp[up,g12],by simp[up],by simp[up],by rw[af8 (by simpa using hl0),ag1 hl0];rfl,.inr ⟨h.length+2,_,by omega,by rw[Qk],by rw[ai0 (by simp),aaN,ajM];rfl⟩,An,by have:=A.bsE;omega,by simp[e0],by simp,fun j hj=>?_⟩ rfl)
           show Xy w N l (if j=i+1 then _ else tr j) (if j+1=i+1 then _ else tr (j+1))
           by_cases ej:j=i
           ·subst ej
            simp only[if_true,ajV (ajY j),if_false]
            rw[ei];exact hSt
           ·rw[if_neg (by omega),if_neg (by omega)]
            exact hst j (by omega)
        ·have hb2:=Qg hb
         cases mz:decide (z.need>0)with
         |false=>
          (with_reducible repeat' (first|simp only[hb,Vc.down,seval,Yv.down,g1,g2,g3,g4,g5,g12,g14,g15,h200,hww,hB,hB2,hb,hb2,htR,hAz,hMz,m1,m2,m3,m4,hAl,hD,hWz,htR2,hS0,mc,mp,mn,k3,p1,p2,hir2,hrb,mz,kn,Qr,Qs,bne,beq_self_eq_true,ae2,adQ,Zr,aaN,afJ,adC]|refine Qp ?_ ?_<;>intro hb|refine aH ?_|fail))
          refine Qj (kJ _ _ () ⟨Qq z o.i (Qw p d o.k true),g,paid+o.c.toNat,fun j=>if j=i+1 then(Qb (Qq z o.i (Qw p d o.k true)) d,g)else tr j,true,.slr 9 (h.length+2) 0 z.parts.length,by simp[up,g1],by simp[up,g2],by simp[up,g3],by simp[up,g4],by simp[up,g5],by simp[up,g12],by simp[up],by simp[up],by rw[af8 (by simpa using hl0),ag1 hl0];rfl,.inr ⟨h.length+2,_,by omega,by rw[Qk],by rw[ai0 (by simp),aaN,ajM];rfl⟩,An,by have:=A.bsE;omega,by simp[e0],by simp,fun j hj=>?_⟩ rfl)
          show Xy w N l (if j=i+1 then _ else tr j) (if j+1=i+1 then _ else tr (j+1))
          by_cases ej:j=i
          ·subst ej
           simp only[if_true,ajV (ajY j),if_false]
           rw[ei];exact hSt
          ·rw[if_neg (by omega),if_neg (by omega)]
           exact hst j (by omega)
         |true=>
          cases hab:jD z N (Qb z d) o.i with
          |false=>
           rw[hab]at hHas1
           (with_reducible repeat' (first|simp only[hb,Vc.down,seval,Yv.down,g1,g2,g3,g4,g5,g12,g14,g15,h200,hww,hB,hB2,hb,hb2,htR,hAz,hMz,m1,m2,m3,m4,hAl,hD,hWz,htR2,hS0,mc,mp,mn,k3,p1,p2,hir2,hrb,mz,hHas1,htk,kn,Qr,Qs,bne,beq_self_eq_true,ae2,adQ,Zr,aaN,afJ,adC]|refine Qp ?_ ?_<;>intro hb|refine aH ?_|fail))
           refine Qj (kJ _ _ () ⟨Qq z o.i (Qw p d o.k true),g,paid+o.c.toNat,fun j=>if j=i+1 then(Qb (Qq z o.i (Qw p d o.k true)) d,g)else tr j,true,.slr 9 (h.length+2) 0 z.parts.length,by simp[up,g1],by simp[up,g2],by simp[up,g3],by simp[up,g4],by simp[up,g5],by simp[up,g12],by simp[up],by simp[up],by rw[af8 (by simpa using hl0),ag1 hl0];rfl,.inr ⟨h.length+2,_,by omega,by rw[Qk],by rw[ai0 (by simp),aaN,ajM];rfl⟩,An,by have:=A.bsE;omega,by simp[e0],by simp,fun j hj=>?_⟩ rfl)
           show Xy w N l (if j=i+1 then _ else tr j) (if j+1=i+1 then _ else tr (j+1))
           by_cases ej:j=i
           ·subst ej
            simp only[if_true,ajV (ajY j),if_false]
            rw[ei];exact hSt
           ·rw[if_neg (by omega),if_neg (by omega)]
            exact hst j (by omega)
          |true=>
           rw[hab]at hHas1
           obtain⟨ma,mb⟩:=hal hab (of_decide_eq_true mz)
           (with_reducible repeat' (first|simp only[hb,Vc.down,seval,Yv.down,g1,g2,g3,g4,g5,g12,g14,g15,h200,hww,hB,hB2,hb,hb2,htR,hAz,hMz,m1,m2,m3,m4,hAl,hD,hWz,htR2,hS0,mc,mp,mn,k3,p1,p2,hir2,hrb,mz,hHas1,htk,ma,mb,kn,Qr,Qs,bne,beq_self_eq_true,ae2,adQ,Zr,aaN,afJ,adC]|refine Qp ?_ ?_<;>intro hb|refine aH ?_|fail))
           refine Qj (kJ _ _ () ⟨Qq z o.i (Qw p d o.k true),g,paid+o.c.toNat,fun j=>if j=i+1 then(Qb (Qq z o.i (Qw p d o.k true)) d,g)else tr j,true,.slr 9 (h.length+2) 0 z.parts.length,by simp[up,g1],by simp[up,g2],by simp[up,g3],by simp[up,g4],by simp[up,g5],by simp[up,g12],by simp[up],by simp[up],by rw[af8 (by simpa using hl0),ag1 hl0];rfl,.inr ⟨h.length+2,_,by omega,by rw[Qk],by rw[ai0 (by simp),aaN,ajM];rfl⟩,An,by have:=A.bsE;omega,by simp[e0],by simp,fun j hj=>?_⟩ rfl)
           show Xy w N l (if j=i+1 then _ else tr j) (if j+1=i+1 then _ else tr (j+1))
           by_cases ej:j=i
           ·subst ej
            simp only[if_true,ajV (ajY j),if_false]
            rw[ei];exact hSt
           ·rw[if_neg (by omega),if_neg (by omega)]
            exact hst j (by omega)
      |false=>
       have hpb:(false:Bool)=false→o.k=3∧0<g:=fun _=>⟨hk3,hg0⟩
       obtain⟨q1,q2,q3,q4,q5,_,An,hSt,hle⟩:=A.next hl hom hoe hp false hpb
       simp only[Bool.false_eq_true,if_false]at An hSt hle
       obtain⟨wd,hD⟩:=(aaT A.ok (by omega) A.small d hzd hp hk false).2.2 q1 q2
       change Up.call _ _ _=some (Tu.ret (AV.tup [_,.int .i64 (fU p o.k),_]),_)at hD
       rw[q3,zsl]at hD
       have hWz:=nE A.small zwb zdb hp q1 false
       have mc:decide (o.c<1)=false:=decide_eq_false (by omega)
       have mp:IntKind.i64.wrap ((paid:Int)+o.c)=((paid+o.c.toNat:Nat):Int):=by rw[Us (by omega) (by omega)];omega
       have mn:IntKind.i64.wrap ((g:Int)-1)=((g-1:Nat):Int):=by have:=(hpb rfl).2;rw[Us (by omega) (by omega)];omega
       have hal:jD z N (Qb z d) o.i=true→0<z.need→(o.k==1)=false∧(o.k==4)=false:=fun ha hn=>by
        constructor<;>refine beq_eq_false_iff_ne.2 fun e=>?_
        ·have:=Yb A.ok hp (.inl e) false hn ha;rw[q2]at this;cases this
        ·have:=Yb A.ok hp (.inr e) false hn ha;rw[q2]at this;cases this
       rcases hva with⟨hna,rfl,rfl⟩|⟨hna,rfl,rfl⟩
       ·have hHas0:=hHas false
        rw[hna,show Rn 1 true false (aj6 Zq [])=AV.nils from rfl,show jD z N (Qb z d) o.i=false by rw[←hcon,hna];rfl]at hHas0
        rcases hv with rfl|⟨b,wb,hbb,rfl,hb⟩
        ·cases mz:decide (z.need>0)with
         |false=>
          (have hb:=trivial;with_reducible repeat' (first|simp only[hb,Vc.down,seval,Yv.down,g1,g2,g3,g4,g5,g12,g14,g15,h200,hww,hB,hB2,hAz,hMz,m1,m2,m3,m4,hAl,hD,hWz,htR2,hS0,mc,mp,mn,k3,p1,p2,hir2,hrb,mz,kn,Qr,Qs,bne,beq_self_eq_true,ae2,adQ,Zr,aaN,afJ,adC]|refine Qp ?_ ?_<;>intro hb|refine aH ?_|fail))
          refine Qj (kJ _ _ () ⟨Qq z o.i (Qw p d o.k false),g-1,paid+o.c.toNat,fun j=>if j=i+1 then(Qb (Qq z o.i (Qw p d o.k false)) d,g-1)else tr j,true,.slr 9 (h.length+1) 0 z.parts.length,by simp[up,g1],by simp[up,g2],by simp[up],by simp[up,g4],by simp[up,g5],by simp[up,g12],by simp[up],by simp[up],by rw[af8 (by simpa using hl0),ag1 hl0];rfl,.inr ⟨h.length+1,_,by omega,by rw[Qk],by rw[ai0 (by simp),aaN,ajM];rfl⟩,An,by have:=A.bsE;omega,by simp[e0],by simp,fun j hj=>?_⟩ rfl)
          show Xy w N l (if j=i+1 then _ else tr j) (if j+1=i+1 then _ else tr (j+1))
          by_cases ej:j=i
          ·subst ej
           simp only[if_true,ajV (ajY j),if_false]
           rw[ei];exact hSt
          ·rw[if_neg (by omega),if_neg (by omega)]
           exact hst j (by omega)
         |true=>
          (have hb:=trivial;with_reducible repeat' (first|simp only[hb,Vc.down,seval,Yv.down,g1,g2,g3,g4,g5,g12,g14,g15,h200,hww,hB,hB2,hAz,hMz,m1,m2,m3,m4,hAl,hD,hWz,htR2,hS0,mc,mp,mn,k3,p1,p2,hir2,hrb,mz,hHas0,kn,Qr,Qs,bne,beq_self_eq_true,ae2,adQ,Zr,aaN,afJ,adC]|refine Qp ?_ ?_<;>intro hb|refine aH ?_|fail))
          refine Qj (kJ _ _ () ⟨Qq z o.i (Qw p d o.k false),g-1,paid+o.c.toNat,fun j=>if j=i+1 then(Qb (Qq z o.i (Qw p d o.k false)) d,g-1)else tr j,true,.slr 9 (h.length+1) 0 z.parts.length,by simp[up,g1],by simp[up,g2],by simp[up],by simp[up,g4],by simp[up,g5],by simp[up,g12],by simp[up],by simp[up],by rw[af8 (by simpa using hl0),ag1 hl0];rfl,.inr ⟨h.length+1,_,by omega,by rw[Qk],by rw[ai0 (by simp),aaN,ajM];rfl⟩,An,by have:=A.bsE;omega,by simp[e0],by simp,fun j hj=>?_⟩ rfl)
          show Xy w N l (if j=i+1 then _ else tr j) (if j+1=i+1 then _ else tr (j+1))
          by_cases ej:j=i
          ·subst ej
           simp only[if_true,ajV (ajY j),if_false]
           rw[ei];exact hSt
          ·rw[if_neg (by omega),if_neg (by omega)]
           exact hst j (by omega)
        ·have hb2:=Qg hb
         cases mz:decide (z.need>0)with
         |false=>
          (with_reducible repeat' (first|simp only[hb,Vc.down,seval,Yv.down,g1,g2,g3,g4,g5,g12,g14,g15,h200,hww,hB,hB2,hb,hb2,htR,hAz,hMz,m1,m2,m3,m4,hAl,hD,hWz,htR2,hS0,mc,mp,mn,k3,p1,p2,hir2,hrb,mz,kn,Qr,Qs,bne,beq_self_eq_true,ae2,adQ,Zr,aaN,afJ,adC]|refine Qp ?_ ?_<;>intro hb|refine aH ?_|fail))
          refine Qj (kJ _ _ () ⟨Qq z o.i (Qw p d o.k false),g-1,paid+o.c.toNat,fun j=>if j=i+1 then(Qb (Qq z o.i (Qw p d o.k false)) d,g-1)else tr j,true,.slr 9 (h.length+1) 0 z.parts.length,by simp[up,g1],by simp[up,g2],by simp[up],by simp[up,g4],by simp[up,g5],by simp[up,g12],by simp[up],by simp[up],by rw[af8 (by simpa using hl0),ag1 hl0];rfl,.inr ⟨h.length+1,_,by omega,by rw[Qk],by rw[ai0 (by simp),aaN,ajM];rfl⟩,An,by have:=A.bsE;omega,by simp[e0],by simp,fun j hj=>?_⟩ rfl)
          show Xy w N l (if j=i+1 then _ else tr j) (if j+1=i+1 then _ else tr (j+1))
          by_cases ej:j=i
          ·subst ej
           simp only[if_true,ajV (ajY j),if_false]
           rw[ei];exact hSt
          ·rw[if_neg (by omega),if_neg (by omega)]
           exact hst j (by omega)
         |true=>
          (with_reducible repeat' (first|simp only[hb,Vc.down,seval,Yv.down,g1,g2,g3,g4,g5,g12,g14,g15,h200,hww,hB,hB2,hb,hb2,htR,hAz,hMz,m1,m2,m3,m4,hAl,hD,hWz,htR2,hS0,mc,mp,mn,k3,p1,p2,hir2,hrb,mz,hHas0,kn,Qr,Qs,bne,beq_self_eq_true,ae2,adQ,Zr,aaN,afJ,adC]|refine Qp ?_ ?_<;>intro hb|refine aH ?_|fail))
          refine Qj (kJ _ _ () ⟨Qq z o.i (Qw p d o.k false),g-1,paid+o.c.toNat,fun j=>if j=i+1 then(Qb (Qq z o.i (Qw p d o.k false)) d,g-1)else tr j,true,.slr 9 (h.length+1) 0 z.parts.length,by simp[up,g1],by simp[up,g2],by simp[up],by simp[up,g4],by simp[up,g5],by simp[up,g12],by simp[up],by simp[up],by rw[af8 (by simpa using hl0),ag1 hl0];rfl,.inr ⟨h.length+1,_,by omega,by rw[Qk],by rw[ai0 (by simp),aaN,ajM];rfl⟩,An,by have:=A.bsE;omega,by simp[e0],by simp,fun j hj=>?_⟩ rfl)
          show Xy w N l (if j=i+1 then _ else tr j) (if j+1=i+1 then _ else tr (j+1))
          by_cases ej:j=i
          ·subst ej
           simp only[if_true,ajV (ajY j),if_false]
           rw[ei];exact hSt
          ·rw[if_neg (by omega),if_neg (by omega)]
           exact hst j (by omega)
       ·have hHas1:=hHas true
        rw[hslL _ hna]at hHas1
        rcases hv with rfl|⟨b,wb,hbb,rfl,hb⟩
        ·cases mz:decide (z.need>0)with
         |false=>
          (have hb:=trivial;with_reducible repeat' (first|simp only[hb,Vc.down,seval,Yv.down,g1,g2,g3,g4,g5,g12,g14,g15,h200,hww,hB,hB2,hAz,hMz,m1,m2,m3,m4,hAl,hD,hWz,htR2,hS0,mc,mp,mn,k3,p1,p2,hir2,hrb,mz,kn,Qr,Qs,bne,beq_self_eq_true,ae2,adQ,Zr,aaN,afJ,adC]|refine Qp ?_ ?_<;>intro hb|refine aH ?_|fail))
          refine Qj (kJ _ _ () ⟨Qq z o.i (Qw p d o.k false),g-1,paid+o.c.toNat,fun j=>if j=i+1 then(Qb (Qq z o.i (Qw p d o.k false)) d,g-1)else tr j,true,.slr 9 (h.length+2) 0 z.parts.length,by simp[up,g1],by simp[up,g2],by simp[up],by simp[up,g4],by simp[up,g5],by simp[up,g12],by simp[up],by simp[up],by rw[af8 (by simpa using hl0),ag1 hl0];rfl,.inr ⟨h.length+2,_,by omega,by rw[Qk],by rw[ai0 (by simp),aaN,ajM];rfl⟩,An,by have:=A.bsE;omega,by simp[e0],by simp,fun j hj=>?_⟩ rfl)
          show Xy w N l (if j=i+1 then _ else tr j) (if j+1=i+1 then _ else tr (j+1))
          by_cases ej:j=i
          ·subst ej
           simp only[if_true,ajV (ajY j),if_false]
           rw[ei];exact hSt
          ·rw[if_neg (by omega),if_neg (by omega)]
           exact hst j (by omega)
         |true=>
          cases hab:jD z N (Qb z d) o.i with
          |false=>
           rw[hab]at hHas1
           (have hb:=trivial;with_reducible repeat' (first|simp only[hb,Vc.down,seval,Yv.down,g1,g2,g3,g4,g5,g12,g14,g15,h200,hww,hB,hB2,hAz,hMz,m1,m2,m3,m4,hAl,hD,hWz,htR2,hS0,mc,mp,mn,k3,p1,p2,hir2,hrb,mz,hHas1,htk,kn,Qr,Qs,bne,beq_self_eq_true,ae2,adQ,Zr,aaN,afJ,adC]|refine Qp ?_ ?_<;>intro hb|refine aH ?_|fail))
           refine Qj (kJ _ _ () ⟨Qq z o.i (Qw p d o.k false),g-1,paid+o.c.toNat,fun j=>if j=i+1 then(Qb (Qq z o.i (Qw p d o.k false)) d,g-1)else tr j,true,.slr 9 (h.length+2) 0 z.parts.length,by simp[up,g1],by simp[up,g2],by simp[up],by simp[up,g4],by simp[up,g5],by simp[up,g12],by simp[up],by simp[up],by rw[af8 (by simpa using hl0),ag1 hl0];rfl,.inr ⟨h.length+2,_,by omega,by rw[Qk],by rw[ai0 (by simp),aaN,ajM];rfl⟩,An,by have:=A.bsE;omega,by simp[e0],by simp,fun j hj=>?_⟩ rfl)
           show Xy w N l (if j=i+1 then _ else tr j) (if j+1=i+1 then _ else tr (j+1))
           by_cases ej:j=i
           ·subst ej
            simp only[if_true,ajV (ajY j),if_false]
            rw[ei];exact hSt
           ·rw[if_neg (by omega),if_neg (by omega)]
            exact hst j (by omega)
          |true=>
           rw[hab]at hHas1
           obtain⟨ma,mb⟩:=hal hab (of_decide_eq_true mz)
           (have hb:=trivial;with_reducible repeat' (first|simp only[hb,Vc.down,seval,Yv.down,g1,g2,g3,g4,g5,g12,g14,g15,h200,hww,hB,hB2,hAz,hMz,m1,m2,m3,m4,hAl,hD,hWz,htR2,hS0,mc,mp,mn,k3,p1,p2,hir2,hrb,mz,hHas1,htk,ma,mb,kn,Qr,Qs,bne,beq_self_eq_true,ae2,adQ,Zr,aaN,afJ,adC]|refine Qp ?_ ?_<;>intro hb|refine aH ?_|fail))
           refine Qj (kJ _ _ () ⟨Qq z o.i (Qw p d o.k false),g-1,paid+o.c.toNat,fun j=>if j=i+1 then(Qb (Qq z o.i (Qw p d o.k false)) d,g-1)else tr j,true,.slr 9 (h.length+2) 0 z.parts.length,by simp[up,g1],by simp[up,g2],by simp[up],by simp[up,g4],by simp[up,g5],by simp[up,g12],by simp[up],by simp[up],by rw[af8 (by simpa using hl0),ag1 hl0];rfl,.inr ⟨h.length+2,_,by omega,by rw[Qk],by rw[ai0 (by simp),aaN,ajM];rfl⟩,An,by have:=A.bsE;omega,by simp[e0],by simp,fun j hj=>?_⟩ rfl)
           show Xy w N l (if j=i+1 then _ else tr j) (if j+1=i+1 then _ else tr (j+1))
           by_cases ej:j=i
           ·subst ej
            simp only[if_true,ajV (ajY j),if_false]
            rw[ei];exact hSt
           ·rw[if_neg (by omega),if_neg (by omega)]
            exact hst j (by omega)
        ·have hb2:=Qg hb
         cases mz:decide (z.need>0)with
         |false=>
          (with_reducible repeat' (first|simp only[hb,Vc.down,seval,Yv.down,g1,g2,g3,g4,g5,g12,g14,g15,h200,hww,hB,hB2,hb,hb2,htR,hAz,hMz,m1,m2,m3,m4,hAl,hD,hWz,htR2,hS0,mc,mp,mn,k3,p1,p2,hir2,hrb,mz,kn,Qr,Qs,bne,beq_self_eq_true,ae2,adQ,Zr,aaN,afJ,adC]|refine Qp ?_ ?_<;>intro hb|refine aH ?_|fail))
          refine Qj (kJ _ _ () ⟨Qq z o.i (Qw p d o.k false),g-1,paid+o.c.toNat,fun j=>if j=i+1 then(Qb (Qq z o.i (Qw p d o.k false)) d,g-1)else tr j,true,.slr 9 (h.length+2) 0 z.parts.length,by simp[up,g1],by simp[up,g2],by simp[up],by simp[up,g4],by simp[up,g5],by simp[up,g12],by simp[up],by simp[up],by rw[af8 (by simpa using hl0),ag1 hl0];rfl,.inr ⟨h.length+2,_,by omega,by rw[Qk],by rw[ai0 (by simp),aaN,ajM];rfl⟩,An,by have:=A.bsE;omega,by simp[e0],by simp,fun j hj=>?_⟩ rfl)
          show Xy w N l (if j=i+1 then _ else tr j) (if j+1=i+1 then _ else tr (j+1))
          by_cases ej:j=i
          ·subst ej
           simp only[if_true,ajV (ajY j),if_false]
           rw[ei];exact hSt
          ·rw[if_neg (by omega),if_neg (by omega)]
           exact hst j (by omega)
         |true=>
          cases hab:jD z N (Qb z d) o.i with
          |false=>
           rw[hab]at hHas1
           (with_reducible repeat' (first|simp only[hb,Vc.down,seval,Yv.down,g1,g2,g3,g4,g5,g12,g14,g15,h200,hww,hB,hB2,hb,hb2,htR,hAz,hMz,m1,m2,m3,m4,hAl,hD,hWz,htR2,hS0,mc,mp,mn,k3,p1,p2,hir2,hrb,mz,hHas1,htk,kn,Qr,Qs,bne,beq_self_eq_true,ae2,adQ,Zr,aaN,afJ,adC]|refine Qp ?_ ?_<;>intro hb|refine aH ?_|fail))
           refine Qj (kJ _ _ () ⟨Qq z o.i (Qw p d o.k false),g-1,paid+o.c.toNat,fun j=>if j=i+1 then(Qb (Qq z o.i (Qw p d o.k false)) d,g-1)else tr j,true,.slr 9 (h.length+2) 0 z.parts.length,by simp[up,g1],by simp[up,g2],by simp[up],by simp[up,g4],by simp[up,g5],by simp[up,g12],by simp[up],by simp[up],by rw[af8 (by simpa using hl0),ag1 hl0];rfl,.inr ⟨h.length+2,_,by omega,by rw[Qk],by rw[ai0 (by simp),aaN,ajM];rfl⟩,An,by have:=A.bsE;omega,by simp[e0],by simp,fun j hj=>?_⟩ rfl)
           show Xy w N l (if j=i+1 then _ else tr j) (if j+1=i+1 then _ else tr (j+1))
           by_cases ej:j=i
           ·subst ej
            simp only[if_true,ajV (ajY j),if_false]
            rw[ei];exact hSt
           ·rw[if_neg (by omega),if_neg (by omega)]
            exact hst j (by omega)
          |true=>
           rw[hab]at hHas1
           obtain⟨ma,mb⟩:=hal hab (of_decide_eq_true mz)
           (with_reducible repeat' (first|simp only[hb,Vc.down,seval,Yv.down,g1,g2,g3,g4,g5,g12,g14,g15,h200,hww,hB,hB2,hb,hb2,htR,hAz,hMz,m1,m2,m3,m4,hAl,hD,hWz,htR2,hS0,mc,mp,mn,k3,p1,p2,hir2,hrb,mz,hHas1,htk,ma,mb,kn,Qr,Qs,bne,beq_self_eq_true,ae2,adQ,Zr,aaN,afJ,adC]|refine Qp ?_ ?_<;>intro hb|refine aH ?_|fail))
           refine Qj (kJ _ _ () ⟨Qq z o.i (Qw p d o.k false),g-1,paid+o.c.toNat,fun j=>if j=i+1 then(Qb (Qq z o.i (Qw p d o.k false)) d,g-1)else tr j,true,.slr 9 (h.length+2) 0 z.parts.length,by simp[up,g1],by simp[up,g2],by simp[up],by simp[up,g4],by simp[up,g5],by simp[up,g12],by simp[up],by simp[up],by rw[af8 (by simpa using hl0),ag1 hl0];rfl,.inr ⟨h.length+2,_,by omega,by rw[Qk],by rw[ai0 (by simp),aaN,ajM];rfl⟩,An,by have:=A.bsE;omega,by simp[e0],by simp,fun j hj=>?_⟩ rfl)
           show Xy w N l (if j=i+1 then _ else tr j) (if j+1=i+1 then _ else tr (j+1))
           by_cases ej:j=i
           ·subst ej
            simp only[if_true,ajV (ajY j),if_false]
            rw[ei];exact hSt
           ·rw[if_neg (by omega),if_neg (by omega)]
            exact hst j (by omega)
 ·exact⟨w,fN,0,fun _=>(Qb w d,fN),false,_,by simp[up,aU],by simp[up,aU],by simp[up,aU],by simp[up,aU],by simp[up],by simp[up],by simp[up],by simp[up],rfl,.inl hsl,⟨hw,hs,c4,rfl,fun _=>rfl,fun _=>rfl,hfin⟩,by omega,rfl,rfl,fun j hj=>by omega⟩
 obtain⟨rfl,g10⟩:=hk
 (have hb:=trivial;with_reducible repeat' (first|simp only[hb,Vc.down,seval,Yv.down,g10]|refine Qp ?_ ?_<;>intro hb|refine fd ?_|fail))
theorem aq0{av:AV}(h:zC Tryz.prog 7 49 av):∃(nn:Bool) (l:List Bool),av=Rn 1 true nn (l.map Zr)∧l.length≤maxLen:=by
 unfold zC at h
 simp only[Tryz.underlying49]at h
 unfold Ty at h
 simp only[Tryz.underlying49]at h
 obtain⟨nn,rows,hx,hl,hrows⟩:=h
 obtain⟨l,rfl,hm⟩:=qS (q:=fun _=>True) (fun r hr=>by obtain⟨x,hx⟩:=iZ hr;exact⟨x,hx,trivial⟩) hrows
 have e1:Tryz.prog.cellsOf 4=1:=by kernel_rfl
 have e2:zD Tryz.prog 6 4=true:=by kernel_rfl
 rw[e1,e2]at hx
 simp only[List.cons.injEq,and_true]at hx
 exact⟨nn,l,hx,by simpa using hl⟩
theorem uV(hk:Up.call (.fn 10) [] []=some (.ret (.bool true),[])):∀avs,aeM Tryz.prog 7 Tryz.f7.params.toList avs→Up.call (.fn 7) avs []=some (.ret (.bool true),[]):=by
 intro avs h
 rw[show Tryz.f7.params.toList=[24,3,25,3,49]from rfl]at h
 match avs,h with
 | [a,b,c,e,g],h=>
   obtain⟨w,rfl,hs⟩:=asQ h.1
   obtain⟨d,rfl,_⟩:=alU h.2.1
   obtain⟨nn,l,rfl,hl⟩:=auI h.2.2.1
   obtain⟨f,rfl,_⟩:=alU h.2.2.2.1
   obtain⟨nr,rs,rfl,hr⟩:=aq0 h.2.2.2.2.1
   exact uT hk w hs d l nn hl f rs nr hr
 | [],h=>exact h.elim
 | [_],h=>exact h.2.elim
 | [_,_],h=>exact h.2.2.elim
 | [_,_,_],h=>exact h.2.2.2.elim
 | [_,_,_,_],h=>exact h.2.2.2.2.elim
 |_::_::_::_::_::_::_,h=>exact h.2.2.2.2.2.elim
end Go.Proofs.YtcncggaobhbomaaGreatDoor
