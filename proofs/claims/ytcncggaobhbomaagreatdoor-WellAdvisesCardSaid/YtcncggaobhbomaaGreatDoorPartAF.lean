/- The functions of the layer, walked. -/
import Derived.Test.YtcncggaobhbomaaGreatDoorPartAE
import Derived.Test.YtcncggaobhbomaaGreatDoorPartAD
import Derived.Test.YtcncggaobhbomaaGreatDoorPartAC
import Derived.Test.YtcncggaobhbomaaGreatDoorLibF
open List renaming length_map→aaB,length_set→aaM,range→abZ,mem_of_getElem?→acH,getElem?_eq_some_iff→aeQ,mem_range→ae5,mem_map→afC,getElem?_map→afO,getElem?_eq_none→ag2,getElem?_eq_getElem→aiJ,map_append→ai9,drop_eq_getElem_cons→amX,length_pos_iff→amZ,getElem?_append_right→apH,getElem?_set_self→apI,length_eq_zero_iff→apM,mem_or_eq_of_mem_set→apN,take_of_length_le→apP,replicate→as6,getElem?_of_mem→aw3,getElem?_range→axH,range_succ→axI,length_append→axJ,getElem?_append_left→axK,length_replicate→axL,getElem?_set_ne→axM,ext_getElem?→axP
open Nat renaming le_refl→abV,le_trans→afU,pow_le_pow_right→ag0,succ_mul→akD,mul_le_mul→amE
open Bool renaming and_eq_true→ab9,false_eq_true→aeN,eq_iff_iff→ag1,and_false→aqK
open Int renaming lt_irrefl→ag5,tmod_eq_emod_of_nonneg→apJ,tdiv_eq_ediv_of_nonneg→apL
set_option linter.unusedSimpArgs false
set_option linter.unusedVariables false
namespace Go.Proofs.YtcncggaobhbomaaGreatDoor
open Go.Ev Go Go.Ev.Net
set_option maxRecDepth 100000
set_option maxHeartbeats 16000000
def pL(l:List Qb):Bool:=l.all fun p=> !(p.opn&& !p.valve)
theorem auX(w:Qf)(hl:w.parts.length≤1000):Ub.call (.fn 69) [.agg [.int .i64 w.rooms,.int .i64 w.need,Rh 9 true w.nn (w.parts.map Qb.cells)]] []=some (.ret (.bool (pL w.parts)),[]):=by
 obtain⟨ans,hans⟩:∃a,pL w.parts=a:=⟨_,rfl⟩
 rw[hans]
 unfold pL at hans
 refine ce Tryz.func69 ?_
 simp only[Tryz.f69]
 (have hb:=trivial;with_reducible repeat' (first|simp only[hb,Vc.down,seval,ahA.down,aaB]|refine Qm ?_ ?_<;>intro hb|refine fd ?_|fail))
 refine Uj (lst 26 w.parts (fun i (_:Unit) t h=>t 1=.ptr 0 0 0∧t 3=.int .i64 (i:Int)∧(∃fl x,h[0]?=some (.live 3 fl x [[.int .i64 w.rooms,.int .i64 w.need,Rh 9 true w.nn (w.parts.map Qb.cells)]]))) (fun rest _=>rest.all fun p=> !(p.opn&& !p.valve))
  (fun r e t h=>(e=.exit 0∧r=true)∨(e=.ret∧r=false∧t 2=.bool false)) ?_ ?_ () _ _ ?_) (fun e t h hk=>?_)
 ·rintro _ t h Q' kQ ⟨g1,g3,fl,xx,hB⟩
  (have hb:=trivial;with_reducible repeat' (first|simp only[hb,Vc.down,seval,ahA.down,g1,g3,hB,ag5,decide_false,aaB]|refine Qm ?_ ?_<;>intro hb|refine fd ?_|fail))
  exact kQ _ _ _ (.inl ⟨rfl,rfl⟩)
 ·rintro x rest i _ t h J Q' kJ kQ hx hi ⟨g1,g3,fl,xx,hB⟩
  have hdd:decide ((i:Int)<(w.parts.length:Int))=true:=decide_eq_true (by omega)
  have hii:((i:Int)<(w.parts.length:Int))=True:=eq_true (by omega)
  have hww:=Sl hi (by unfold maxLen;omega)
  obtain⟨p1,p2,p3,p4,p5,p6,p7,p8,p9⟩:=x
  cases p4 with
  |false=>
   (have hb:=trivial;with_reducible repeat' (first|simp only[hb,Vc.down,seval,ahA.down,g1,g3,hdd,hii,hww,hx,hB,Qb.cells,aaB]|refine Qm ?_ ?_<;>intro hb|refine fd ?_|fail))
   exact Qq (kJ _ _ () ⟨by simp[up,g1],by simp[up],⟨fl,xx,hB⟩⟩ rfl)
  |true=>
   cases p3 with
   |false=>
    (have hb:=trivial;with_reducible repeat' (first|simp only[hb,Vc.down,seval,ahA.down,g1,g3,hdd,hii,hww,hx,hB,Qb.cells,aaB]|refine Qm ?_ ?_<;>intro hb|refine fd ?_|fail))
    exact kQ _ _ _ (.inr ⟨rfl,rfl,by simp[up]⟩)
   |true=>
    (have hb:=trivial;with_reducible repeat' (first|simp only[hb,Vc.down,seval,ahA.down,g1,g3,hdd,hii,hww,hx,hB,Qb.cells,aaB]|refine Qm ?_ ?_<;>intro hb|refine fd ?_|fail))
    exact Qq (kJ _ _ () ⟨by simp[up,g1],by simp[up],⟨fl,xx,hB⟩⟩ rfl)
 ·exact⟨by simp[up],by simp[up],⟨_,_,rfl⟩⟩
 rw[hans]at hk
 rcases hk with⟨rfl,rfl⟩|⟨rfl,rfl,g4⟩
 ·(have hb:=trivial;with_reducible repeat' (first|simp only[hb,Vc.down,seval,ahA.down]|refine Qm ?_ ?_<;>intro hb|refine fd ?_|fail))
 ·(have hb:=trivial;with_reducible repeat' (first|simp only[hb,Vc.down,seval,ahA.down,g4]|refine Qm ?_ ?_<;>intro hb|refine fd ?_|fail))
def bQ(l:List Qb)(d:Int):List (Int × Bool):=l.map fun p=>(Qs p d,p.opn)
theorem aa7(l:List Qb)(d:Int):∀x∈bQ l d,0≤x.1∧x.1≤2:=by
 intro x hx
 obtain⟨p,_,rfl⟩:=afC.1 hx
 exact ab7 p d
theorem axG(w:Qf)(h12:w.parts.length≤12)(d:Int):Ub.call (.fn 47) [.agg [.int .i64 w.rooms,.int .i64 w.need,Rh 9 true w.nn (w.parts.map Qb.cells)],.int .i64 d] []=some (.ret (.int .i64 (eK (bQ w.parts d):Nat)),[]):=by
 have hw0:IntKind.i64.wrap ((w.parts.length:Int)-1)=(w.parts.length:Int)-1:=Re (by omega) (by omega)
 refine ce Tryz.func47 ?_
 simp only[Tryz.f47]
 (have hb:=trivial;with_reducible repeat' (first|simp only[hb,Vc.down,seval,atV.down,hw0,aaB]|refine Qm ?_ ?_<;>intro hb|refine fd ?_|fail))
 refine Uj (cnt 35 (fun n (_:Unit) t h=>n≤w.parts.length∧t 1=.int .i64 d∧t 2=.ptr 0 0 0∧t 6=.int .i64 ((n:Int)-1)∧t 5=.int .i64 (eK ((bQ w.parts d).drop n):Nat)∧(∃fl x,h[0]?=some (.live 3 fl x [[.int .i64 w.rooms,.int .i64 w.need,Rh 9 true w.nn (w.parts.map Qb.cells)]]))) (fun _ _=>())
  (fun _ e t h=>e=.exit 0∧t 5=.int .i64 (eK (bQ w.parts d):Nat)) ?_ ?_ w.parts.length () _ _ ?_) (fun e t h hk=>?_)
 ·rintro _ t h Q' kQ ⟨_,g1,g2,g6,g5,hB⟩
  have h5:decide (((0:Nat):Int)-1≥0)=false:=rfl
  (have hb:=trivial;with_reducible repeat' (first|simp only[hb,Vc.down,seval,atV.down,g6,h5]|refine Qm ?_ ?_<;>intro hb|refine fd ?_|fail))
  exact kQ _ _ _ ⟨rfl,by simpa [up]using g5⟩
 ·rintro n _ t h J Q' kJ kQ ⟨hn,g1,g2,g6,g5,fl,xx,hB⟩
  obtain⟨p,hp⟩:∃p,w.parts[n]?=some p:=⟨_,aiJ (by omega)⟩
  have e6:((n+1:Nat):Int)-1=(n:Int):=by omega
  rw[e6]at g6
  have h5:decide ((n:Int)≥0)=true:=decide_eq_true (by omega)
  have hnl:((n:Int)<(w.parts.length:Int))=True:=eq_true (by omega)
  have hC:=dN p d
  have hcd:=ab7 p d
  have hcp:(bQ w.parts d)[n]?=some (Qs p d,p.opn):=by unfold bQ;rw[afO,hp];rfl
  have hcl:(bQ w.parts d).length=w.parts.length:=by unfold bQ;simp
  have hdr:(bQ w.parts d).drop n=(Qs p d,p.opn)::(bQ w.parts d).drop (n+1):=by
   rw[amX (by omega)]
   congr 1
   rw[aiJ (by omega)]at hcp
   exact Option.some.inj hcp
  have hlt:=qU (L:=(bQ w.parts d).drop (n+1)) fun x hx=>aa7 _ _ x (List.mem_of_mem_drop hx)
  have hpw:6 ^ ((bQ w.parts d).drop (n+1)).length≤2176782336:=afU (ag0 (by decide) (show _≤12 by rw[List.length_drop];omega)) (by decide)
  have hcd1:eK ((bQ w.parts d).drop n)=2*(Qs p d).toNat+p.opn.toNat+6*eK ((bQ w.parts d).drop (n+1)):=by rw[hdr];rfl
  generalize eK ((bQ w.parts d).drop (n+1))=a at *
  generalize eK ((bQ w.parts d).drop n)=b at *
  obtain⟨c,hc⟩:∃c:Nat,Qs p d=(c:Int):=⟨(Qs p d).toNat,by omega⟩
  rw[hc]at hC hcd hcd1
  have w1:IntKind.i64.wrap (6*(a:Int))=6*(a:Int):=Re (by omega) (by omega)
  have w2:IntKind.i64.wrap (2*(c:Int))=2*(c:Int):=Re (by omega) (by omega)
  have w3:IntKind.i64.wrap (6*(a:Int)+2*(c:Int))=6*(a:Int)+2*(c:Int):=Re (by omega) (by omega)
  have w4:IntKind.i64.wrap (6*(a:Int)+2*(c:Int)+1)=6*(a:Int)+2*(c:Int)+1:=Re (by omega) (by omega)
  have w5:IntKind.i64.wrap ((n:Int)-1)=(n:Int)-1:=Re (by omega) (by omega)
  obtain⟨p1,p2,p3,p4,p5,p6,p7,p8,p9⟩:=p
  simp only[Qb.cells]at hC
  simp only at hcd1
  have e7:(c:Int).toNat=c:=rfl
  rw[e7]at hcd1
  cases p4 with
  |false=>
   have hb:6*(a:Int)+2*(c:Int)=(b:Int):=by rw[hcd1];simp;omega
   rw[hb]at w3
   (with_reducible repeat' (first|simp only[hb,Vc.down,seval,atV.down,g1,g2,g5,g6,h5,hnl,hp,hB,hC,w1,w2,w3,w5,hb,Qb.cells,aaB]|refine Qm ?_ ?_<;>intro hb|refine fd ?_|fail))
   exact Qq (kJ _ _ () ⟨by omega,by simp[up,g1],by simp[up,g2],by simp[up],by simp[up],⟨fl,xx,hB⟩⟩ rfl)
  |true=>
   have hb:6*(a:Int)+2*(c:Int)+1=(b:Int):=by rw[hcd1];simp;omega
   rw[hb]at w4
   (with_reducible repeat' (first|simp only[hb,Vc.down,seval,atV.down,g1,g2,g5,g6,h5,hnl,hp,hB,hC,w1,w2,w3,w4,w5,hb,Qb.cells,aaB]|refine Qm ?_ ?_<;>intro hb|refine fd ?_|fail))
   exact Qq (kJ _ _ () ⟨by omega,by simp[up,g1],by simp[up,g2],by simp[up],by simp[up],⟨fl,xx,hB⟩⟩ rfl)
 ·refine⟨abV _,by simp[up,bF],by simp[up],by simp[up],?_,⟨_,_,rfl⟩⟩
  rw[List.drop_eq_nil_of_le (by unfold bQ;simp)]
  simp[up,eK]
 obtain⟨rfl,g5⟩:=hk
 (have hb:=trivial;with_reducible repeat' (first|simp only[hb,Vc.down,seval,atV.down,g5]|refine Qm ?_ ?_<;>intro hb|refine fd ?_|fail))
def mM(p:Qb)(d:Int)(n:Nat):Qb:={ p with opn:=n % 2==1,bad:=n % 6 / 2==2,tested:=if n % 6 / 2==1 then d-1 else d,valid:=0 }
def Xd(d:Int):List Qb→Nat→List Qb
 | [],_=>[]
 |p::l,n=>mM p d n::Xd d l (n / 6)
theorem cL(d:Int):∀(l:List Qb) (n:Nat),(Xd d l n).length=l.length
 | [],_=>rfl
 |p::l,n=>by simp[Xd,cL d l]
theorem ad3{w:Qf}(hne:w.parts≠[])(h12:w.parts.length≤12){d:Int}(hd0:0≤d)(hd1:d≤6000){n:Nat}(hn:n<2 ^ 40):
 ∃wf,Ub.call (.fn 46) [.agg [.int .i64 w.rooms,.int .i64 w.need,Rh 9 true w.nn (w.parts.map Qb.cells)],.int .i64 d,.int .i64 (n:Int)] []=some (.ret (.agg [.int .i64 w.rooms,.int .i64 w.need,.slr 9 0 0 w.parts.length]),[.live 9 true wf ((Xd d w.parts n).map Qb.cells)]):=by
 have h2:w.parts.map Qb.cells≠[]:=by simpa using hne
 have h4:=fun(h:Qa)=>auY (n:=9) (h:=h) (nfl:=true) h2 (by simp;omega)
 have hs:Rh 9 true w.nn (w.parts.map Qb.cells)=.imm 9 true (w.parts.map Qb.cells):=Yj h2
 rw[hs]
 obtain⟨ans,hans⟩:∃a,Xd d w.parts n=a:=⟨_,rfl⟩
 rw[hans]
 refine⟨true,?_⟩
 refine ce Tryz.func46 ?_
 simp only[Tryz.f46]
 (have hb:=trivial;with_reducible repeat' (first|simp only[hb,Vc.down,seval,ar0.down,h4,aaB]|refine Qm ?_ ?_<;>intro hb|refine fd ?_|fail))
 refine Uj (lst 63 w.parts (fun i (s:List Qb × Nat) t h=>s.1.length=i∧s.2<2 ^ 40∧t 1=.int .i64 d∧t 2=.int .i64 (s.2:Int)∧t 6=.ptr 1 0 0∧t 7=.ptr 2 0 0∧t 8=.int .i64 (i:Int)∧∃c0 x1 x2 x3,(0<i→x3=true)∧h=[c0,.live 3 false x1 [[.int .i64 0,.int .i64 0,.nils]],.live 3 false x2 [[.int .i64 w.rooms,.int .i64 w.need,.slr 9 3 0 w.parts.length]],.live 9 true x3 ((s.1++w.parts.drop i).map Qb.cells)]) (fun rest s=>s.1++Xd d rest s.2)
  (fun r e t h=>e=.exit 0∧t 6=.ptr 1 0 0∧t 7=.ptr 2 0 0∧∃c0 x1 x2,h=[c0,.live 3 false x1 [[.int .i64 0,.int .i64 0,.nils]],.live 3 false x2 [[.int .i64 w.rooms,.int .i64 w.need,.slr 9 3 0 w.parts.length]],.live 9 true true (r.map Qb.cells)]) ?_ ?_ ([],n) _ _ ?_) (fun e t h hk=>?_)
 ·rintro⟨s1,s2⟩ t h Q' kQ ⟨q1,q2,g1,g2,g6,g7,g8,c0,x1,x2,x3,hx3,rfl⟩
  simp only at q1 q2 g2
  (have hb:=trivial;with_reducible repeat' (first|simp only[hb,Vc.down,seval,ar0.down,g7,g8,ag5,decide_false,aaB]|refine Qm ?_ ?_<;>intro hb|refine fd ?_|fail))
  exact kQ _ _ _ ⟨rfl,by simp[up,g6],by simp[up,g7],c0,x1,x2,by rw[List.drop_length,hx3 (amZ.2 hne)];rfl⟩
 ·rintro p rest i ⟨s1,m⟩ t h J Q' kJ kQ hx hi ⟨q1,q2,g1,g2,g6,g7,g8,c0,x1,x2,x3,hx3,rfl⟩
  simp only at q1 q2 g2
  have hdd:decide ((i:Int)<(w.parts.length:Int))=true:=decide_eq_true (by omega)
  have hii:((i:Int)<(w.parts.length:Int))=True:=eq_true (by omega)
  have hww:=Sl hi (by unfold maxLen;omega)
  have hdr:w.parts.drop i=p::w.parts.drop (i+1):=by
   rw[amX hi]
   congr 1
   rw[aiJ hi]at hx
   exact Option.some.inj hx
  have hRl:i<((s1++w.parts.drop i).map Qb.cells).length:=by rw[hdr];simp;omega
  have hRi:((s1++w.parts.drop i).map Qb.cells)[i]?=some p.cells:=by
   rw[hdr,ai9,apH (by simp;omega)]
   simp[q1]
  have hRs:∀q:Qb,((s1++w.parts.drop i).map Qb.cells).set i q.cells=((s1++[q])++w.parts.drop (i+1)).map Qb.cells:=fun q=>by
   rw[hdr,←List.map_set,List.set_append_right _ _ (by omega)]
   simp[q1]
  generalize(s1++w.parts.drop i).map Qb.cells=R at *
  have hgs:∀r,(R.set i r)[i]?=some r:=fun r=>apI hRl
  have e1:(m:Int).tmod 6=((m % 6:Nat):Int):=by rw[apJ (by omega)];omega
  have e2:((m % 6:Nat):Int).tdiv 2=((m % 6 / 2:Nat):Int):=by rw[apL (by omega)];omega
  have e12:IntKind.i64.wrap (((m:Int).tmod 6).tdiv 2)=((m % 6 / 2:Nat):Int):=by rw[e1,e2,Re (by omega) (by omega)]
  have e3:((m:Int).tmod 2==1)=(m % 2==1):=by
   rw[apJ (by omega),ag1];simp;omega
  have e4:IntKind.i64.wrap ((m:Int).tdiv 6)=((m / 6:Nat):Int):=by rw[apL (by omega),Re (by omega) (by omega)];omega
  have d1:IntKind.i64.wrap (d-1)=d-1:=Re (by omega) (by omega)
  have f2:(((m % 6 / 2:Nat):Int)==2)=(m % 6 / 2==2):=by rw[ag1];simp;omega
  obtain⟨p1,p2,p3,p4,p5,p6,p7,p8,p9⟩:=p
  cases c1:(((m % 6 / 2:Nat):Int)==1)with
  |false=>
   have f1:(m % 6 / 2==1)=false:=by rw[←c1,ag1];simp;omega
   (have hb:=trivial;with_reducible repeat' (first|simp only[hb,Vc.down,seval,ar0.down,g1,g2,g7,g8,hdd,hii,hww,hRi,hgs,e12,e3,e4,c1,d1,List.set_set,aaM,Qb.cells,aaB]|refine Qm ?_ ?_<;>intro hb|refine fd ?_|fail))
   have hq:=hRs (mM ⟨p1,p2,p3,p4,p5,p6,p7,p8,p9⟩ d m)
   simp only[mM,Qb.cells,f1,aeN,if_false]at hq
   refine Qq (kJ _ _ (s1++[mM ⟨p1,p2,p3,p4,p5,p6,p7,p8,p9⟩ d m],m / 6) ⟨by simp[q1],by show m / 6<2 ^ 40;omega,by simp[up,g1],by simp[up],by simp[up,g6],by simp[up,g7],by simp[up],c0,x1,x2,true,fun _=>rfl,?_⟩ (by simp[Xd]))
   rw[f2,hq]
   simp only[mM,f1,aeN,if_false]
  |true=>
   have f1:(m % 6 / 2==1)=true:=by rw[←c1,ag1];simp;omega
   (have hb:=trivial;with_reducible repeat' (first|simp only[hb,Vc.down,seval,ar0.down,g1,g2,g7,g8,hdd,hii,hww,hRi,hgs,e12,e3,e4,c1,d1,List.set_set,aaM,Qb.cells,aaB]|refine Qm ?_ ?_<;>intro hb|refine fd ?_|fail))
   have hq:=hRs (mM ⟨p1,p2,p3,p4,p5,p6,p7,p8,p9⟩ d m)
   simp only[mM,Qb.cells,f1,if_true]at hq
   refine Qq (kJ _ _ (s1++[mM ⟨p1,p2,p3,p4,p5,p6,p7,p8,p9⟩ d m],m / 6) ⟨by simp[q1],by show m / 6<2 ^ 40;omega,by simp[up,g1],by simp[up],by simp[up,g6],by simp[up,g7],by simp[up],c0,x1,x2,true,fun _=>rfl,?_⟩ (by simp[Xd]))
   rw[f2,hq]
   simp only[mM,f1,if_true]
 ·exact⟨rfl,hn,by simp[up,bF],by simp[up,bF],by simp[up],by simp[up],by simp[up],_,_,_,_,fun h=>absurd h (Nat.lt_irrefl 0),rfl⟩
 rw[hans]at hk
 obtain⟨rfl,g6,g7,c0,x1,x2,rfl⟩:=hk
 (have hb:=trivial;with_reducible repeat' (first|simp only[hb,Vc.down,seval,ar0.down,g6,g7]|refine Qm ?_ ?_<;>intro hb|refine fd ?_|fail))
def bE(p:Qb)(d k:Int)(b:Bool):Qb:=if k=1 then { p with opn:=true }else if k=2 then { p with opn:=false }else if k=3 then(if b=true then { p with tested:=d }else { p with bad:=true })else { p with tested:=d,bad:=false }
theorem au0{p:Qb}{d k:Int}(hc:vH p d k=true)(b:Bool):bE p d k b=ah7 p d k b:=by
 unfold bE ah7
 split
 ·rfl
 ·split
  ·rfl
  ·split
   ·rename_i k1 k2 k3
    split
    ·subst k3
     simp only[vH,Int.reduceEq,if_false,if_true,ab9,beq_iff_eq]at hc
     have hb:p.bad=false:=by
      cases hb:p.bad with
      |false=>rfl
      |true=>have:=hc.2;simp[Qs,hb]at this
     rw[←hb]
    ·rfl
   ·rfl
theorem aQC{w:Qf}{N:Nat}(hw:mX w N){i:Nat}{p q:Qb}(hp:w.parts[i]?=some p)(h1:q.one=p.one)(h2:q.other=p.other):mX (aZ w i q) N:=
 ⟨hw.rooms,hw.n2,hw.n8,by rw[iV];exact hw.len,fun e=>hw.ne (by have:=congrArg List.length e;rw[iV]at this;exact apM.1 this),fun x hx=>by
   rcases apN hx with hx|rfl
   ·exact hw.part x hx
   ·rw[h1,h2];exact hw.part p (acH hp)⟩
theorem kR(p:Qb)(d k:Int)(b:Bool):(bE p d k b).one=p.one∧(bE p d k b).other=p.other:=by
 unfold bE
 split
 ·exact⟨rfl,rfl⟩
 ·split
  ·exact⟨rfl,rfl⟩
  ·split
   ·split<;>exact⟨rfl,rfl⟩
   ·exact⟨rfl,rfl⟩
theorem tD{w:Qf}(hne:w.parts≠[])(hl:w.parts.length≤1000)(d:Int){i:Nat}{p:Qb}(hp:w.parts[i]?=some p){k:Int}(hk:k=1∨k=2∨k=3∨k=4)(b:Bool):
 ∃wf,Ub.call (.fn 72) [.agg [.int .i64 w.rooms,.int .i64 w.need,Rh 9 true w.nn (w.parts.map Qb.cells)],.int .i64 d,.agg [.int .i64 k,.int .i64 (i:Int)],.bool b] []=some (.ret (.agg [.int .i64 w.rooms,.int .i64 w.need,.slr 9 0 0 w.parts.length]),[.live 9 true wf ((w.parts.set i (bE p d k b)).map Qb.cells)]):=by
 have hi:=(aeQ.1 hp).1
 obtain⟨wf,hW⟩:=apZ hne hl hi (bE p d k b)
 have iln:((i:Int)<(w.parts.length:Int))=True:=eq_true (by omega)
 refine⟨wf,?_⟩
 generalize hq:bE p d k b=q at *
 obtain⟨p1,p2,p3,p4,p5,p6,p7,p8,p9⟩:=p
 rcases hk with rfl|rfl|rfl|rfl
 ·obtain rfl:q=⟨p1,p2,p3,true,p5,p6,p7,p8,p9⟩:=hq.symm
  simp only[Qb.cells]at hW
  (refine ce Tryz.func72 ?_;simp only[Tryz.f72];(have hb:=trivial;with_reducible repeat' (first|simp only[hb,Vc.down,seval,avB.down,hp,Qb.cells,hW,iln,aaB]|refine Qm ?_ ?_<;>intro hb|refine fd ?_|fail)))
 ·obtain rfl:q=⟨p1,p2,p3,false,p5,p6,p7,p8,p9⟩:=hq.symm
  simp only[Qb.cells]at hW
  (refine ce Tryz.func72 ?_;simp only[Tryz.f72];(have hb:=trivial;with_reducible repeat' (first|simp only[hb,Vc.down,seval,avB.down,hp,Qb.cells,hW,iln,aaB]|refine Qm ?_ ?_<;>intro hb|refine fd ?_|fail)))
 ·cases b
  ·obtain rfl:q=⟨p1,p2,p3,p4,p5,p6,true,p8,p9⟩:=hq.symm
   simp only[Qb.cells]at hW
   (refine ce Tryz.func72 ?_;simp only[Tryz.f72];(have hb:=trivial;with_reducible repeat' (first|simp only[hb,Vc.down,seval,avB.down,hp,Qb.cells,hW,iln,aaB]|refine Qm ?_ ?_<;>intro hb|refine fd ?_|fail)))
  ·obtain rfl:q=⟨p1,p2,p3,p4,d,p6,p7,p8,p9⟩:=hq.symm
   simp only[Qb.cells]at hW
   (refine ce Tryz.func72 ?_;simp only[Tryz.f72];(have hb:=trivial;with_reducible repeat' (first|simp only[hb,Vc.down,seval,avB.down,hp,Qb.cells,hW,iln,aaB]|refine Qm ?_ ?_<;>intro hb|refine fd ?_|fail)))
 ·obtain rfl:q=⟨p1,p2,p3,p4,d,p6,false,p8,p9⟩:=hq.symm
  simp only[Qb.cells]at hW
  (refine ce Tryz.func72 ?_;simp only[Tryz.f72];(have hb:=trivial;with_reducible repeat' (first|simp only[hb,Vc.down,seval,avB.down,hp,Qb.cells,hW,iln,aaB]|refine Qm ?_ ?_<;>intro hb|refine fd ?_|fail)))
theorem a45{w:Qf}{i:Nat}{p:Qb}(hp:w.parts[i]?=some p){k:Int}(hk:k=1∨k=2∨k=3∨k=4):Ub.call (.fn 73) [.agg [.int .i64 w.rooms,.int .i64 w.need,Rh 9 true w.nn (w.parts.map Qb.cells)],.agg [.int .i64 k,.int .i64 (i:Int)]] []=some (.ret (.int .i64 (if k=3 then p.test else if k=4 then p.change else 1)),[]):=by
 have iln:((i:Int)<(w.parts.length:Int))=True:=eq_true (by have:=(aeQ.1 hp).1;omega)
 obtain⟨p1,p2,p3,p4,p5,p6,p7,p8,p9⟩:=p
 rcases hk with rfl|rfl|rfl|rfl
 all_goals (refine ce Tryz.func73 ?_;simp only[Tryz.f73];(have hb:=trivial;with_reducible repeat' (first|simp only[hb,Vc.down,seval,boM.down,hp,Qb.cells,iln,aaB]|refine Qm ?_ ?_<;>intro hb|refine fd ?_|fail)))
 all_goals rfl
theorem abK{w:Qf}{N:Nat}(hw:mX w N)(d:Int){i:Nat}{p q:Qb}(hp:w.parts[i]?=some p)(h1:q.one=p.one)(h2:q.other=p.other):Ub.call (.fn 91) [.agg [.int .i64 w.rooms,.int .i64 w.need,.imm 9 true ((w.parts.set i q).map Qb.cells)],.int .i64 d] []=some (.ret (.int .i64 (eQ (aZ w i q) N d:Nat)),[]):=by
 have h:=aeF (aQC hw hp h1 h2) d
 have e5:(aZ w i q).cells=[.int .i64 w.rooms,.int .i64 w.need,.imm 9 true ((w.parts.set i q).map Qb.cells)]:=by
  show [_,_,Rh 9 true true _]=_
  rw[fE];rfl
 change Ub.call _ [AV.agg (aZ w i q).cells,.int .i64 d] []=_ at h
 rw[e5]at h
 exact h
theorem zQ{p:Qb}{d:Int}(hd:0≤d∧d≤6000)(hv:0≤p.valid∧p.valid≤5000):Qs { p with bad:=false,tested:=d } d=0:=by
 simp only[Qs,aeN,if_false]
 rw[Re (by omega) (by omega),if_neg (by omega)]
theorem wP{p:Qb}{d k:Int}(hv:0≤p.valid∧p.valid≤5000)(hk:k=1∨k=2∨k=3∨k=4)(hd:0≤d∧d≤6000)(b:Bool):(Qs (ah7 p d k b) d,(ah7 p d k b).opn)=Sz k b (Qs p d,p.opn):=by
 rcases hk with rfl|rfl|rfl|rfl
 ·rfl
 ·rfl
 ·cases b
  ·show(Qs { p with bad:=true } d,p.opn)=(2,p.opn)
   simp[Qs]
  ·show(Qs { p with bad:=false,tested:=d } d,p.opn)=(0,p.opn)
   rw[zQ hd hv]
 ·show(Qs { p with bad:=false,tested:=d } d,p.opn)=(0,p.opn)
  rw[zQ hd hv]
theorem af7{w:Qf}{N:Nat}{d:Int}(hd:0≤d∧d≤6000){i:Nat}{p:Qb}(hp:w.parts[i]?=some p)(hv:0≤p.valid∧p.valid≤5000){k:Int}(hk:k=1∨k=2∨k=3∨k=4)(hc:vH p d k=true)(b:Bool):eQ (aZ w i (bE p d k b)) N d=iD w N ((Qc w d).set i (Sz k b (Qs p d,p.opn))):=by
 rw[au0 hc,qY hp (aeE p d k b).1 (aeE p d k b).2,wP hv hk hd]
theorem aQN{w:Qf}{N:Nat}(hw:mX w N)(h12:w.parts.length≤12){d:Int}(hd:0≤d∧d≤6000)(hv:∀p∈w.parts,0≤p.valid∧p.valid≤5000){i:Nat}{p:Qb}(hp:w.parts[i]?=some p){k:Int}(hk:k=1∨k=2∨k=3∨k=4)(hc:vH p d k=true):
 Ub.call (.fn 71) [.agg [.int .i64 w.rooms,.int .i64 w.need,Rh 9 true w.nn (w.parts.map Qb.cells)],.int .i64 d,.agg [.int .i64 k,.int .i64 (i:Int)]] []=some (.ret (.bool (Yq w N (Qc w d) k i true (Qs p d,p.opn))),[]):=by
 have hi:=(aeQ.1 hp).1
 have hN:=aeF hw d
 obtain⟨w1,hA1⟩:=tD hw.ne hw.len d hp hk true
 obtain⟨w0,hA0⟩:=tD hw.ne hw.len d hp hk false
 have hK1:=abK hw d hp (kR p d k true).1 (kR p d k true).2
 have hK0:=abK hw d hp (kR p d k false).1 (kR p d k false).2
 obtain⟨wm,hW⟩:=apZ hw.ne hw.len hi { p with bad:=true }
 have hM:=abK hw d hp (q:={ p with bad:=true }) rfl rfl
 have s1:=agD hw h12 hp hk true hc
 have s0:=agD hw h12 hp hk false hc
 have n1:=af7 (N:=N) hd hp (hv p (acH hp)) hk hc true
 have n0:=af7 (N:=N) hd hp (hv p (acH hp)) hk hc false
 have u1:Yq w N (Qc w d) k i true (Qs p d,p.opn)=true→Vl w N (Qc w d)≤(eQ (aZ w i (bE p d k true)) N d:Int):=fun e=>by
  rw[n1];simp only[Yq,ab9,decide_eq_true_eq]at e;exact e.2
 have u0:Yq w N (Qc w d) k i false (Qs p d,p.opn)=true→Vl w N (Qc w d)≤(eQ (aZ w i (bE p d k false)) N d:Int):=fun e=>by
  rw[n0];simp only[Yq,ab9,decide_eq_true_eq]at e;exact e.2
 have v1:Yq w N (Qc w d) k i true (Qs p d,p.opn)=((!(k==4)|| !decide ((eQ (aZ w i { p with bad:=true }) N d:Int)<Vl w N (Qc w d)))&&decide ((eQ (aZ w i (bE p d k true)) N d:Int)≥Vl w N (Qc w d))):=by
  rw[n1]
  unfold Yq
  rw[show eQ (aZ w i { p with bad:=true }) N d=iD w N ((Qc w d).set i (2,p.opn))from by
   rw[qY (q:={ p with bad:=true }) hp rfl rfl]
   simp[Qs]]
 have h01:Yq w N (Qc w d) k i true (Qs p d,p.opn)=true→Vl w N (Qc w d)≤(eQ (aZ w i (bE p d k false)) N d:Int):=fun e=>u0 (by rw[s0,←s1];exact e)
 have hmn:(if(eQ w N d:Int)<w.need then(eQ w N d:Int)else w.need)=Vl w N (Qc w d):=by
  simp only[Vl,tX]
 have hsl:Rh 9 true w.nn (w.parts.map Qb.cells)=.imm 9 true (w.parts.map Qb.cells):=Yj (by simpa using hw.ne)
 have htR2:∀q,List.take w.parts.length ((w.parts.set i q).map Qb.cells)=(w.parts.set i q).map Qb.cells:=fun q=>apP (by simp)
 have iln:((i:Int)<(w.parts.length:Int))=True:=eq_true (by omega)
 rw[v1]at h01 ⊢
 clear s1 s0 n1 n0 u1 u0 v1
 generalize Vl w N (Qc w d)=lb at *
 generalize eQ w N d=n at *
 generalize eQ (aZ w i { p with bad:=true }) N d=m at *
 generalize eQ (aZ w i (bE p d k true)) N d=m1 at *
 generalize eQ (aZ w i (bE p d k false)) N d=m0 at *
 generalize bE p d k true=q1 at *
 generalize bE p d k false=q0 at *
 rw[hsl]at hN hA1 hA0 hW ⊢
 obtain⟨p1,p2,p3,p4,p5,p6,p7,p8,p9⟩:=p
 simp only[Qb.cells]at hW
 cases e1:decide ((m1:Int)≥lb)with
 |true=>
  have hd1:decide (lb≤(m1:Int))=true:=e1
  cases e2:decide ((m0:Int)≥lb)with
  |true=>
   have hd0:decide (lb≤(m0:Int))=true:=e2
   cases e3:decide ((m:Int)<lb)
   ·rcases hk with rfl|rfl|rfl|rfl
    all_goals (refine ce Tryz.func71 ?_;simp only[Tryz.f71];(have hb:=trivial;with_reducible repeat' (first|simp only[hb,Vc.down,seval,ar2.down,hN,hA1,hA0,hK1,hK0,hW,hM,hp,Qb.cells,htR2,hmn,iln,hd1,hd0,e3,ge_iff_le,gt_iff_lt,aaM,abV,aaB]|refine Qm ?_ ?_<;>intro hb|refine fd ?_|fail)))
    all_goals rfl
   ·rcases hk with rfl|rfl|rfl|rfl
    all_goals (refine ce Tryz.func71 ?_;simp only[Tryz.f71];(have hb:=trivial;with_reducible repeat' (first|simp only[hb,Vc.down,seval,ar2.down,hN,hA1,hA0,hK1,hK0,hW,hM,hp,Qb.cells,htR2,hmn,iln,hd1,hd0,e3,ge_iff_le,gt_iff_lt,aaM,abV,aaB]|refine Qm ?_ ?_<;>intro hb|refine fd ?_|fail)))
    all_goals rfl
  |false=>
   have hd0:decide (lb≤(m0:Int))=false:=e2
   have hx:((!(k==4)|| !decide ((m:Int)<lb))&&decide ((m1:Int)≥lb))=false:=by
    cases hq:((!(k==4)|| !decide ((m:Int)<lb))&&decide ((m1:Int)≥lb))with
    |false=>rfl
    |true=>
     have:=h01 hq
     simp at e2
     omega
   rw[e1,Bool.and_true]at hx
   rw[Bool.and_true,hx]
   simp only[Bool.or_eq_false_iff,Bool.not_eq_false',beq_iff_eq]at hx
   obtain⟨rfl,e3⟩:=hx
   (refine ce Tryz.func71 ?_;simp only[Tryz.f71];(have hb:=trivial;with_reducible repeat' (first|simp only[hb,Vc.down,seval,ar2.down,hN,hA1,hA0,hK1,hK0,hW,hM,hp,Qb.cells,htR2,hmn,iln,hd1,hd0,e3,ge_iff_le,gt_iff_lt,aaM,abV,aaB]|refine Qm ?_ ?_<;>intro hb|refine fd ?_|fail)))
 |false=>
  have hd1:decide (lb≤(m1:Int))=false:=e1
  rw[aqK]
  cases e3:decide ((m:Int)<lb)
  ·rcases hk with rfl|rfl|rfl|rfl
   all_goals (refine ce Tryz.func71 ?_;simp only[Tryz.f71];(have hb:=trivial;with_reducible repeat' (first|simp only[hb,Vc.down,seval,ar2.down,hN,hA1,hA0,hK1,hK0,hW,hM,hp,Qb.cells,htR2,hmn,iln,hd1,e3,ge_iff_le,gt_iff_lt,aaM,abV,aaB]|refine Qm ?_ ?_<;>intro hb|refine fd ?_|fail)))
  ·rcases hk with rfl|rfl|rfl|rfl
   all_goals (refine ce Tryz.func71 ?_;simp only[Tryz.f71];(have hb:=trivial;with_reducible repeat' (first|simp only[hb,Vc.down,seval,ar2.down,hN,hA1,hA0,hK1,hK0,hW,hM,hp,Qb.cells,htR2,hmn,iln,hd1,e3,ge_iff_le,gt_iff_lt,aaM,abV,aaB]|refine Qm ?_ ?_<;>intro hb|refine fd ?_|fail)))
theorem aqU(p:Qb){d:Int}(hd:1≤d∧d≤6000)(n:Nat):Qs (mM p d n) d=((n % 6 / 2:Nat):Int):=by
 have h3:n % 6 / 2<3:=by omega
 unfold Qs mM
 simp only
 by_cases h2:n % 6 / 2=2
 ·simp[h2]
 ·rw[if_neg (by simpa using h2)]
  by_cases h1:n % 6 / 2=1
  ·have e:(n % 6 / 2==1)=true:=by simp[h1]
   rw[e]
   simp only[if_true]
   rw[Re (by omega) (by omega),if_pos (by omega),h1];rfl
  ·have e:(n % 6 / 2==1)=false:=by simpa using h1
   rw[e]
   simp only[aeN,if_false]
   rw[Re (by omega) (by omega),if_neg (by omega)]
   omega
def Xu:Nat→Nat→List (Int × Bool)
 |0,_=>[]
 |m+1,n=>(((n % 6 / 2:Nat):Int),n % 2==1)::Xu m (n / 6)
theorem ajO{d:Int}(hd:1≤d∧d≤6000):∀(l:List Qb) (n:Nat),bQ (Xd d l n) d=Xu l.length n
 | [],_=>rfl
 |p::l,n=>by
  show(Qs (mM p d n) d,(mM p d n).opn)::bQ (Xd d l (n / 6)) d=_
  rw[aqU p hd,ajO hd l]
  rfl
theorem vO:∀(m n:Nat),(Xu m n).length=m
 |0,_=>rfl
 |m+1,n=>by simp[Xu,vO m]
theorem acE:∀(m n:Nat),∀x∈Xu m n,0≤x.1∧x.1≤2
 |0,_,x,hx=>by cases hx
 |m+1,n,x,hx=>by
  rcases List.mem_cons.1 hx with rfl|hx
  ·simp only;omega
  ·exact acE m _ x hx
theorem sX:∀{L:List (Int × Bool)},(∀x∈L,0≤x.1∧x.1≤2)→Xu L.length (eK L)=L
 | [],_=>rfl
 |x::L,h=>by
  have hx:=h x (by simp)
  have ih:=sX (L:=L) fun y hy=>h y (by simp[hy])
  obtain⟨a,b⟩:=x
  simp only at hx
  rw[iI]
  show(_,_)::Xu L.length _=_
  have hb:=akQ b
  have e1:(2*a.toNat+b.toNat+6*eK L) % 6 / 2=a.toNat:=by omega
  have e2:(2*a.toNat+b.toNat+6*eK L) / 6=eK L:=by omega
  have e3:(2*a.toNat+b.toNat+6*eK L) % 2=b.toNat:=by omega
  simp only
  rw[e1,e2,e3,ih]
  congr 1
  refine Prod.ext ?_ ?_
  ·show((a.toNat:Nat):Int)=a
   omega
  ·cases b<;>rfl
def Zj(L:List (Int × Bool)):List (Int × Bool):=L++as6 (12-L.length) (0,false)
theorem cQ(w:Qf)(d:Int):Qc w d=Zj (bQ w.parts d):=by
 unfold Qc Zj bQ;rw[aaB]
theorem ajU{L:List (Int × Bool)}{i:Nat}(hi:i<L.length)(y:Int × Bool):(Zj L).set i y=Zj (L.set i y):=by
 unfold Zj;rw[List.set_append_left _ _ hi,aaM]
theorem asW{L:List (Int × Bool)}:(Zj L).take L.length=L:=by
 unfold Zj;rw[List.take_append_of_le_length (abV _),List.take_length]
def mN(p:Qb):Int × Int × Bool × Int × Int:=(p.one,p.other,p.valve,p.test,p.change)
structure pC(x w:Qf):Prop where
 need:x.need=w.need
 keys:x.parts.map mN=w.parts.map mN
theorem pC.len{x w:Qf}(S:pC x w):x.parts.length=w.parts.length:=by
 have:=congrArg List.length S.keys
 simpa using this
theorem pC.get{x w:Qf}(S:pC x w){i:Nat}{p:Qb}(hp:x.parts[i]?=some p):∃q,w.parts[i]?=some q∧mN q=mN p:=by
 have h:=congrArg (fun l=>l[i]?) S.keys
 simp only[afO,hp,Option.map_some]at h
 obtain⟨q,h1,h2⟩:=Option.map_eq_some_iff.1 h.symm
 exact⟨q,h1,h2⟩
theorem rL:∀{l m:List Qb} (ts:List Bool),l.map mN=m.map mN→List.zipWith (fun(p:Qb) (t:Bool)=>(p.one.toNat,p.other.toNat,if t=true then 1 else 0)) l ts=List.zipWith (fun(p:Qb) (t:Bool)=>(p.one.toNat,p.other.toNat,if t=true then 1 else 0)) m ts
 | [],[],_,_=>rfl
 | [],_::_,_,h=>by simp at h
 |_::_,[],_,h=>by simp at h
 |p::l,q::m,[],h=>rfl
 |p::l,q::m,t::ts,h=>by
  simp only[List.map_cons,List.cons.injEq]at h
  have h1:=h.1
  simp only[mN,Prod.mk.injEq]at h1
  simp only[List.zipWith_cons_cons,rL ts h.2,h1.1,h1.2.1]
theorem pC.num{x w:Qf}(S:pC x w)(N:Nat)(L:List (Int × Bool)):iD x N L=iD w N L:=by
 have he:∀ts,oO x ts=oO w ts:=fun ts=>by unfold oO;exact rL ts S.keys
 unfold iD
 rw[he,S.len]
theorem pC.choF{x w:Qf}(S:pC x w)(N:Nat)(s:St)(k:Int)(i:Nat):choF x N s k i=choF w N s k i:=by
 have hn:=S.num N
 have hl:∀L,Vl x N L=Vl w N L:=fun L=>by unfold Vl;rw[hn,S.need]
 have hs:∀L k j y,Yq x N L k j true y=Yq w N L k j true y:=fun L k j y=>by unfold Yq;rw[hn,hn,hl]
 unfold Go.Proofs.YtcncggaobhbomaaGreatDoor.choF
 cases hp:x.parts[i]? with
 |none=>
  have:w.parts[i]?=none:=by
   rw[List.getElem?_eq_none_iff]at hp ⊢
   rw[←S.len];exact hp
  rw[this]
 |some p=>
  obtain⟨q,hq,hk⟩:=S.get hp
  rw[hq]
  simp only[mN,Prod.mk.injEq]at hk
  cases s.1[i]? with
  |none=>rfl
  |some y=>
   have c1:qJ p y k=qJ q y k:=by unfold qJ;rw[hk.2.2.1]
   have c2:lE p k=lE q k:=by unfold lE;rw[hk.2.2.2.1,hk.2.2.2.2]
   simp only[c1,c2,hs]
theorem aeZ(d:Int):∀(l:List Qb) (n:Nat),(Xd d l n).map mN=l.map mN
 | [],_=>rfl
 |p::l,n=>by
  show mN (mM p d n)::(Xd d l (n / 6)).map mN=_
  rw[aeZ d l];rfl
def fX(w:Qf)(d:Int)(n:Nat):Qf:={ w with nn:=true,parts:=Xd d w.parts n }
theorem Wj(w:Qf)(d:Int)(n:Nat):pC (fX w d n) w:=⟨rfl,aeZ d w.parts n⟩
theorem mU(w:Qf)(d:Int):∀(l:List Qb) (n:Nat),∀p∈Xd d l n,p.valid=0
 | [],_,p,h=>by cases h
 |q::l,n,p,h=>by
  rcases List.mem_cons.1 h with rfl|h
  ·rfl
  ·exact mU w d l _ p h
theorem ajX{w:Qf}{N:Nat}(hw:mX w N)(d:Int)(n:Nat):mX (fX w d n) N:=
 ⟨hw.rooms,hw.n2,hw.n8,by rw[(Wj w d n).len];exact hw.len,fun e=>hw.ne (by have:=(Wj w d n).len;rw[e]at this;exact apM.1 this.symm),fun x hx=>by
   obtain⟨i,hi⟩:=aw3 hx
   obtain⟨q,hq,hk⟩:=(Wj w d n).get hi
   simp only[mN,Prod.mk.injEq]at hk
   rw[←hk.1,←hk.2.1]
   exact hw.part q (acH hq)⟩
theorem mR(w:Qf){d:Int}(hd:1≤d∧d≤6000)(n:Nat):Qc (fX w d n) d=Zj (Xu w.parts.length n):=by
 rw[cQ]
 show Zj (bQ (Xd d w.parts n) d)=_
 rw[ajO hd]
theorem baX{n:Nat}{r:List AV}(h:Ty Tryz.prog (n+4) 75 r):∃x:Ua,r=x.cells:=by
 unfold Ty at h
 simp only[Tryz.underlying75,alU]at h
 obtain⟨a1,b1,rfl,h1,a2,b2,rfl,h2,a3,b3,rfl,h3,rfl⟩:=h
 obtain⟨i,rfl,_⟩:=eA h1
 obtain⟨b,rfl⟩:=oC h2
 obtain⟨c,rfl⟩:=oC h3
 exact⟨⟨i,b,c⟩,rfl⟩
theorem aPN{av:AV}(h:TyV Tryz.prog 7 25 av):∃(nn:Bool) (l:List Ua),av=Rh 3 true nn (l.map Ua.cells)∧l.length≤maxLen:=by
 unfold TyV at h
 simp only[Tryz.underlying25]at h
 unfold Ty at h
 simp only[Tryz.underlying25]at h
 obtain⟨nn,rows,hx,hl,hrows⟩:=h
 obtain⟨l,rfl,hm⟩:=aaP (q:=fun _=>True) (fun r hr=>by obtain⟨x,hx⟩:=baX (n:=2) hr;exact⟨x,hx,trivial⟩) hrows
 have e1:Tryz.prog.cellsOf 75=3:=by kernel_rfl
 have e2:flT Tryz.prog 6 75=true:=by kernel_rfl
 rw[e1,e2]at hx
 simp only[List.cons.injEq,and_true]at hx
 exact⟨nn,l,hx,by simpa using hl⟩
noncomputable def lD(w:Qf)(N:Nat)(l:List Ua)(s:St)(k:Int)(i:Nat):Int:=match choF w N s k i with
 |some o=>if Vd.mx (bs w N l) o.to<Qx then((Vd.mx (bs w N l) o.to:Nat):Int)+o.c else -1
 |none=> -1
theorem bd8(f:St→Nat)(a:St):Vd.mx f [a]=f a:=by unfold Vd.mx;simp
theorem aYU(f:St→Nat)(a b:St):Vd.mx f [a,b]=max (f a) (f b):=by unfold Vd.mx;simp
def eF(b:Nat):Int:=if b<Qx then(b:Int)else -1
def aN(K:St→Nat)(m g:Nat):List (List AV):=(abZ (6 ^ m)).map fun n=>[.int .i64 (eF (K (Zj (Xu m n),g)))]
def qX(K:St→Nat)(m F:Nat):List (List AV):=(abZ F).map fun g=>[.imm 1 true (aN K m g)]
theorem bT(K:St→Nat)(m g:Nat){n:Nat}(h:n<6 ^ m):(aN K m g)[n]?=some [.int .i64 (eF (K (Zj (Xu m n),g)))]:=by
 unfold aN;rw[afO,axH h];rfl
theorem Yp(K:St→Nat)(m g:Nat):(aN K m g).length=6 ^ m:=by unfold aN;simp
theorem abH(K:St→Nat)(m F:Nat){g:Nat}(h:g<F):(qX K m F)[g]?=some [.imm 1 true (aN K m g)]:=by
 unfold qX;rw[afO,axH h];rfl
theorem vS(K:St→Nat)(m F:Nat):(qX K m F).length=F:=by unfold qX;simp
def ae1(x:Qf)(N:Nat)(d:Int)(K:St→Nat)(g:Nat)(k:Int)(i:Nat):Int:=
 if pL x.parts=true then(match choF x N (Qc x d,g) k i with
  |some o=>if Vd.mx K o.to<Qx then((Vd.mx K o.to:Nat):Int)+o.c else -1
  |none=> -1)else -1
theorem ayC{l:List Qb}(hv:pL l=true){i:Nat}{p:Qb}(hp:l[i]?=some p)(d k:Int):qJ p (Qs p d,p.opn) k=vH p d k:=by
 have h1:p.opn=true→p.valve=true:=by
  unfold pL at hv
  rw[List.all_eq_true]at hv
  have:=hv p (acH hp)
  intro e
  rw[e]at this
  simpa using this
 unfold qJ vH
 by_cases k1:k=1
 ·rw[if_pos k1,if_pos k1]
 by_cases k2:k=2
 ·rw[if_neg k1,if_neg k1,if_pos k2,if_pos k2]
  cases ho:p.opn
  ·simp
  ·simp[h1 ho]
 rw[if_neg k1,if_neg k1,if_neg k2,if_neg k2]
theorem akL{w:Qf}(h12:w.parts.length≤12)(d:Int)(i:Nat)(q:Qb):Ub.call (.fn 47) [.agg [.int .i64 w.rooms,.int .i64 w.need,.imm 9 true ((w.parts.set i q).map Qb.cells)],.int .i64 d] []=some (.ret (.int .i64 (eK (bQ (w.parts.set i q) d):Nat)),[]):=by
 have h:=axG (aZ w i q) (by rw[iV];exact h12) d
 have e5:(aZ w i q).cells=[.int .i64 w.rooms,.int .i64 w.need,.imm 9 true ((w.parts.set i q).map Qb.cells)]:=by
  show [_,_,Rh 9 true true _]=_
  rw[fE];rfl
 change Ub.call _ [AV.agg (aZ w i q).cells,.int .i64 d] []=_ at h
 rw[e5]at h
 exact h
theorem adZ{x:Qf}{N:Nat}(hw:mX x N)(h12:x.parts.length≤12){d:Int}(hd:1≤d∧d≤6000)(hv:∀p∈x.parts,0≤p.valid∧p.valid≤5000)(hpr:∀p∈x.parts,∀k,1≤lE p k∧lE p k≤1000){k:Int}(hk:k=1∨k=2∨k=3∨k=4){i:Nat}{p:Qb}(hp:x.parts[i]?=some p)(K:St→Nat){g F:Nat}(hg:g<F)(hF:F≤100):
 Ub.call (.fn 49) [.agg [.int .i64 x.rooms,.int .i64 x.need,Rh 9 true x.nn (x.parts.map Qb.cells)],.int .i64 d,.agg [.int .i64 k,.int .i64 (i:Int)],.int .i64 (g:Int),.imm 1 false (qX K x.parts.length F)] []=some (.ret (.int .i64 (ae1 x N d K g k i)),[]):=by
 have hV:=auX x (by omega)
 have hC:=blZ (w:=x) (d:=d) hp hk
 have hsl:Rh 9 true x.nn (x.parts.map Qb.cells)=.imm 9 true (x.parts.map Qb.cells):=Yj (by simpa using hw.ne)
 unfold ae1
 cases c1:pL x.parts with
 |false=>
  rw[c1]at hV
  rw[if_neg (by simp)]
  (refine ce Tryz.func49 ?_;simp only[Tryz.f49];(have hb:=trivial;with_reducible repeat' (first|simp only[hb,Vc.down,seval,yI.down,hV,aaB]|refine Qm ?_ ?_<;>intro hb|refine fd ?_|fail)))
 |true=>
 rw[c1]at hV
 rw[if_pos rfl]
 have hcan:=ayC c1 hp d k
 have hx:=pX (d:=d) hp
 have hcf:choF x N (Qc x d,g) k i=if(qJ p (Qs p d,p.opn) k&&Yq x N (Qc x d) k i true (Qs p d,p.opn))=true then some ⟨k,i,lE p k,toF (Qc x d) g k i (Qs p d,p.opn)⟩else none:=by
  unfold choF;rw[hp];simp only;rw[hx]
 rw[hcf,hcan]
 cases c2:vH p d k with
 |false=>
  rw[c2]at hC
  simp only[Bool.false_and,aeN,if_false]
  (refine ce Tryz.func49 ?_;simp only[Tryz.f49];(have hb:=trivial;with_reducible repeat' (first|simp only[hb,Vc.down,seval,yI.down,hV,hC,aaB]|refine Qm ?_ ?_<;>intro hb|refine fd ?_|fail)))
 |true=>
 rw[c2]at hC
 have hS:=aQN hw h12 (d:=d) ⟨by omega,hd.2⟩ hv hp hk c2
 cases c3:Yq x N (Qc x d) k i true (Qs p d,p.opn)with
 |false=>
  rw[c3]at hS
  simp only[aqK,aeN,if_false]
  (refine ce Tryz.func49 ?_;simp only[Tryz.f49];(have hb:=trivial;with_reducible repeat' (first|simp only[hb,Vc.down,seval,yI.down,hV,hC,hS,aaB]|refine Qm ?_ ?_<;>intro hb|refine fd ?_|fail)))
 |true=>
 rw[c3]at hS
 simp only[Bool.and_self,if_true]
 obtain⟨wa,hA⟩:=tD hw.ne hw.len d hp hk true
 obtain⟨wb,hB⟩:=tD hw.ne hw.len d hp hk false
 have hKa:=akL h12 d i (bE p d k true)
 have hKb:=akL h12 d i (bE p d k false)
 have hO:=a45 hp hk
 change Ub.call _ _ _=some (Tz.ret (.int .i64 (lE p k)),_)at hO
 have hpk:=hpr p (acH hp) k
 have hil:=(aeQ.1 hp).1
 have hcl:(bQ x.parts d).length=x.parts.length:=by unfold bQ;simp
 have hpv:=hv p (acH hp)
 have cd:∀b,eK (bQ (x.parts.set i (bE p d k b)) d)<6 ^ x.parts.length∧Zj (Xu x.parts.length (eK (bQ (x.parts.set i (bE p d k b)) d)))=(Qc x d).set i (Sz k b (Qs p d,p.opn)):=fun b=>by
  have e1:bQ (x.parts.set i (bE p d k b)) d=(bQ x.parts d).set i (Sz k b (Qs p d,p.opn)):=by
   unfold bQ
   rw[List.map_set,au0 c2,wP hpv hk ⟨by omega,hd.2⟩]
  have hdg:=aa7 (x.parts.set i (bE p d k b)) d
  have hll:(bQ (x.parts.set i (bE p d k b)) d).length=x.parts.length:=by unfold bQ;simp
  refine⟨by have:=qU hdg;rwa[hll]at this,?_⟩
  have:=sX hdg
  rw[hll]at this
  rw[this,e1,cQ,ajU (by rw[hcl];exact hil)]
 obtain⟨hca,hsa⟩:=cd true
 obtain⟨hcb,hsb⟩:=cd false
 generalize hna:eK (bQ (x.parts.set i (bE p d k true)) d)=na at *
 generalize hnb:eK (bQ (x.parts.set i (bE p d k false)) d)=nb at *
 have hpow:6 ^ x.parts.length≤2176782336:=afU (ag0 (by decide) h12) (by decide)
 have r1:=abH K x.parts.length F hg
 have r2:=bT K x.parts.length g hca
 rw[hsa]at r2
 have r3:=vS K x.parts.length F
 have r4:=Yp K x.parts.length g
 have hgF:((g:Int)<(F:Int))=True:=eq_true (by omega)
 have hca2:((na:Int)<((6 ^ x.parts.length:Nat):Int))=True:=eq_true (by omega)
 have htR2:∀q,List.take x.parts.length ((x.parts.set i q).map Qb.cells)=(x.parts.set i q).map Qb.cells:=fun q=>apP (by simp)
 have htop:Qx=1099511627776:=rfl
 obtain⟨s1,hs1⟩:∃s1:St,((Qc x d).set i (Sz k true (Qs p d,p.opn)),g)=s1:=⟨_,rfl⟩
 rw[hs1]at r2
 have r1b:=abH K x.parts.length F (g:=g-1) (by omega)
 have r2b:=bT K x.parts.length (g-1) hcb
 rw[hsb]at r2b
 have r4b:=Yp K x.parts.length (g-1)
 have hcb2:((nb:Int)<((6 ^ x.parts.length:Nat):Int))=True:=eq_true (by omega)
 have hcV:∀b:Nat,b<Qx→eF b=(b:Int):=fun b h=>if_pos h
 have hcN:∀b:Nat,¬b<Qx→eF b= -1:=fun b h=>if_neg h
 rw[hsl]at hV hC hS hA hB hO ⊢
 generalize hcosR:qX K x.parts.length F=CR at *
 generalize hrow1:aN K x.parts.length g=R1 at *
 generalize hrow2:aN K x.parts.length (g-1)=R2 at *
 generalize 6 ^ x.parts.length=many at *
 generalize lE p k=cc at *
 by_cases q:k=3∧0<g
 rotate_left
 ·have hto:toF (Qc x d) g k i (Qs p d,p.opn)=[s1]:=by unfold toF;rw[if_neg q,hs1]
  rw[hto,bd8]
  by_cases b1:K s1<Qx
  ·rw[if_pos b1]
   rw[hcV _ b1]at r2
   have n1:decide ((K s1:Int)<0)=false:=decide_eq_false (by omega)
   have hws:IntKind.i64.wrap ((K s1:Int)+cc)=(K s1:Int)+cc:=Re (by omega) (by omega)
   cases k3:(k==3)with
   |false=>
    (refine ce Tryz.func49 ?_;simp only[Tryz.f49];(have hb:=trivial;with_reducible repeat' (first|simp only[hb,Vc.down,seval,yI.down,hV,hC,hS,hA,hKa,hO,r1,r2,r3,r4,hgF,hca2,htR2,n1,hws,k3,aaM,abV,aaB]|refine Qm ?_ ?_<;>intro hb|refine fdl ?_|fail)))
   |true=>
    have hf:decide ((g:Int)>0)=false:=decide_eq_false (fun h=>q ⟨by simpa using k3,by omega⟩)
    (refine ce Tryz.func49 ?_;simp only[Tryz.f49];(have hb:=trivial;with_reducible repeat' (first|simp only[hb,Vc.down,seval,yI.down,hV,hC,hS,hA,hKa,hO,r1,r2,r3,r4,hgF,hca2,htR2,n1,hws,k3,hf,aaM,abV,aaB]|refine Qm ?_ ?_<;>intro hb|refine fdl ?_|fail)))
  ·rw[if_neg b1]
   rw[hcN _ b1]at r2
   cases k3:(k==3)with
   |false=>
    (refine ce Tryz.func49 ?_;simp only[Tryz.f49];(have hb:=trivial;with_reducible repeat' (first|simp only[hb,Vc.down,seval,yI.down,hV,hC,hS,hA,hKa,hO,r1,r2,r3,r4,hgF,hca2,htR2,k3,aaM,abV,aaB]|refine Qm ?_ ?_<;>intro hb|refine fdl ?_|fail)))
   |true=>
    have hf:decide ((g:Int)>0)=false:=decide_eq_false (fun h=>q ⟨by simpa using k3,by omega⟩)
    (refine ce Tryz.func49 ?_;simp only[Tryz.f49];(have hb:=trivial;with_reducible repeat' (first|simp only[hb,Vc.down,seval,yI.down,hV,hC,hS,hA,hKa,hO,r1,r2,r3,r4,hgF,hca2,htR2,k3,hf,aaM,abV,aaB]|refine Qm ?_ ?_<;>intro hb|refine fdl ?_|fail)))
 have k3:(k==3)=true:=by simp[q.1]
 have hf:decide ((g:Int)>0)=true:=decide_eq_true (by omega)
 have hwf:IntKind.i64.wrap ((g:Int)-1)=((g-1:Nat):Int):=by rw[Re (by omega) (by omega)];omega
 obtain⟨s2,hs2⟩:∃s2:St,((Qc x d).set i (Sz k false (Qs p d,p.opn)),g-1)=s2:=⟨_,rfl⟩
 have hto:toF (Qc x d) g k i (Qs p d,p.opn)=[s1,s2]:=by unfold toF;rw[if_pos q,hs1,hs2]
 rw[hto,aYU]
 rw[hs2]at r2b
 have hgF2:(((g-1:Nat):Int)<(F:Int))=True:=eq_true (by omega)
 by_cases b2:K s2<Qx
 rotate_left
 ·rw[if_neg (by omega)]
  rw[hcN _ b2]at r2b
  (refine ce Tryz.func49 ?_;simp only[Tryz.f49];(have hb:=trivial;with_reducible repeat' (first|simp only[hb,Vc.down,seval,yI.down,hV,hC,hS,hA,hB,hKa,hKb,hO,r1,r2,r3,r4,r1b,r2b,r4b,hgF,hgF2,hca2,hcb2,htR2,k3,hf,hwf,aaM,abV,aaB]|refine Qm ?_ ?_<;>intro hb|refine fdl ?_|fail)))
 rw[hcV _ b2]at r2b
 have n2:decide ((K s2:Int)<0)=false:=decide_eq_false (by omega)
 by_cases b1:K s1<Qx
 rotate_left
 ·rw[if_neg (by omega)]
  rw[hcN _ b1]at r2
  (refine ce Tryz.func49 ?_;simp only[Tryz.f49];(have hb:=trivial;with_reducible repeat' (first|simp only[hb,Vc.down,seval,yI.down,hV,hC,hS,hA,hB,hKa,hKb,hO,r1,r2,r3,r4,r1b,r2b,r4b,hgF,hgF2,hca2,hcb2,htR2,k3,hf,hwf,n2,aaM,abV,aaB]|refine Qm ?_ ?_<;>intro hb|refine fdl ?_|fail)))
 rw[if_pos (by omega)]
 rw[hcV _ b1]at r2
 have n1:decide ((K s1:Int)≥0)=true:=decide_eq_true (by omega)
 have n3:decide (((max (K s1) (K s2):Nat):Int)<0)=false:=decide_eq_false (by omega)
 have hmx:(if(K s2:Int)>(K s1:Int)then(K s2:Int)else(K s1:Int))=((max (K s1) (K s2):Nat):Int):=by split<;>omega
 have hws:IntKind.i64.wrap (((max (K s1) (K s2):Nat):Int)+cc)=((max (K s1) (K s2):Nat):Int)+cc:=Re (by omega) (by omega)
 (refine ce Tryz.func49 ?_;simp only[Tryz.f49];(have hb:=trivial;with_reducible repeat' (first|simp only[hb,Vc.down,seval,yI.down,hV,hC,hS,hA,hB,hKa,hKb,hO,r1,r2,r3,r4,r1b,r2b,r4b,hgF,hgF2,hca2,hcb2,htR2,k3,hf,hwf,n1,n2,n3,hmx,hws,aaM,abV,aaB]|refine Qm ?_ ?_<;>intro hb|refine fdl ?_|fail)))
def Zz:List Qb→List (Int × Bool)→Bool
 |p::l,x::P=> !(x.2&& !p.valve)&&Zz l P
 |_,_=>true
theorem tL(d:Int):∀(l:List Qb) (n:Nat) (Q:List (Int × Bool)),Zz l (Xu l.length n++Q)=pL (Xd d l n)
 | [],n,Q=>by simp[Zz,pL,Xd]
 |p::l,n,Q=>by
  show(!((n % 2==1)&& !p.valve)&&Zz l (Xu l.length (n / 6)++Q))=_
  rw[tL d l (n / 6) Q]
  show _=pL (mM p d n::Xd d l (n / 6))
  unfold pL
  rw[List.all_cons]
  rfl
theorem ae7:∀{l:List Qb} {P:List (Int × Bool)} {i:Nat} {p:Qb} {y:Int × Bool},Zz l P=true→l[i]?=some p→(y.2=true→p.valve=true)→Zz l (P.set i y)=true
 | [],P,i,p,y,_,h,_=>by simp at h
 |q::l,[],i,p,y,h,_,_=>by simpa using h
 |q::l,x::P,0,p,y,h,hp,hy=>by
  simp at hp;subst hp
  simp only[Zz,ab9]at h
  simp only[List.set_cons_zero,Zz,ab9]
  refine⟨?_,h.2⟩
  cases e:y.2 with
  |false=>simp
  |true=>simp[hy e]
 |q::l,x::P,i+1,p,y,h,hp,hy=>by
  simp only[Zz,ab9]at h
  simp only[List.set_cons_succ,Zz,ab9]
  exact⟨h.1,ae7 h.2 (by simpa using hp) hy⟩
theorem ac8:∀{l:List Qb} {P:List (Int × Bool)} {i:Nat} {p:Qb} {x:Int × Bool},Zz l P=true→l[i]?=some p→P[i]?=some x→x.2=true→p.valve=true
 | [],P,i,p,x,_,h,_,_=>by simp at h
 |q::l,[],i,p,x,_,_,h,_=>by simp at h
 |q::l,x::P,0,p,y,h,hp,hx,hy=>by
  simp at hp hx;subst hp;subst hx
  simp only[Zz,ab9]at h
  have:=h.1
  rw[hy]at this
  simpa using this
 |q::l,x::P,i+1,p,y,h,hp,hx,hy=>by
  simp only[Zz,ab9]at h
  exact ac8 h.2 (by simpa using hp) (by simpa using hx) hy
theorem mP{w:Qf}(hb:Wb w=true)(d:Int):Zz w.parts (Qc w d)=true:=by
 have key:∀(l:List Qb) (Q:List (Int × Bool)),(∀p∈l,p.opn=true→p.valve=true)→Zz l ((l.map fun p=>(Qs p d,p.opn))++Q)=true:=by
  intro l
  induction l with
  |nil=>intro Q _;simp[Zz]
  |cons p l ih=>
   intro Q h
   show(!(p.opn&& !p.valve)&&Zz l ((l.map fun p=>(Qs p d,p.opn))++Q))=true
   rw[ih Q fun q hq=>h q (by simp[hq])]
   cases e:p.opn with
   |false=>rfl
   |true=>rw[h p (by simp) e];rfl
 unfold Qc
 refine key _ _ fun p hp e=>?_
 obtain⟨i,hi⟩:=aw3 hp
 exact(apR (ajL hb hi)).1 e
theorem akW{w:Qf}{N:Nat}{s:St}(h:Zz w.parts s.1=true){o:Zw}(ho:o∈Tj w N s):∀y∈o.to,Zz w.parts y.1=true:=by
 obtain⟨p,x,I⟩:=Zp.1 ho
 have key:∀b,Zz w.parts (s.1.set o.i (Sz o.k b x))=true:=fun b=>ae7 h I.hp fun e=>by
  have hg:=fun e=>ac8 h I.hp I.hx e
  have hc:=I.can
  rcases I.k4 with k|k|k|k<;>rw[k]at e hc
  ·simp[qJ]at hc;exact hc.1
  ·simp[Sz]at e
  ·cases b<;>simp[Sz]at e<;>exact hg e
  ·simp[Sz]at e;exact hg e
 intro y hy
 rw[I.to]at hy
 rcases aaT.1 hy with rfl|⟨_,_,rfl⟩
 ·exact key true
 ·exact key false
def mL(w:Qf)(N:Nat)(s:St)(k:Int)(i:Nat):Option Zw:=if Zz w.parts s.1=true then choF w N s k i else none
def Zy(w:Qf)(N:Nat)(l:List Ua):Go.Ev.Vd St:=⟨fun s=>lG s.1 l,fun s=>if Zz w.parts s.1=true then(Tj w N s).map fun o=>(o.c.toNat,o.to)else []⟩
def Zm(m g n:Nat):St:=(Zj (Xu m n),g)
def Yn(m F:Nat):List St:=(abZ F).flatMap fun g=>(abZ (6 ^ m)).map fun n=>Zm m g n
theorem cP{m F:Nat}{s:St}:s∈Yn m F↔∃g n,g<F∧n<6 ^ m∧s=Zm m g n:=by
 unfold Yn
 simp only[List.mem_flatMap,afC,ae5]
 exact⟨fun⟨g,hg,n,hn,e⟩=>⟨g,n,hg,hn,e.symm⟩,fun⟨g,n,hg,hn,e⟩=>⟨g,hg,n,hn,e.symm⟩⟩
theorem aI5{m F:Nat}{P:List (Int × Bool)}(hl:P.length=m)(hd:∀x∈P,0≤x.1∧x.1≤2){g:Nat}(hg:g<F):(Zj P,g)∈Yn m F:=by
 subst hl
 exact cP.2 ⟨g,eK P,hg,qU hd,by unfold Zm;rw[sX hd]⟩
theorem aeV(m F:Nat):(Yn m F).length=F*6 ^ m:=by
 unfold Yn
 induction F with
 |zero=>simp
 |succ F ih=>rw[axI,List.flatMap_append,axJ,ih,akD];simp
theorem jS{w:Qf}{N:Nat}{l:List Ua}{s:St}{o:Nat × List St}:o∈(Zy w N l).ops s↔Zz w.parts s.1=true∧∃c∈Tj w N s,o=(c.c.toNat,c.to):=by
 show o∈(if Zz w.parts s.1=true then(Tj w N s).map _ else [])↔_
 split
 ·rename_i h
  rw[afC]
  exact⟨fun⟨c,h1,h2⟩=>⟨h,c,h1,h2.symm⟩,fun⟨_,c,h1,h2⟩=>⟨c,h1,h2.symm⟩⟩
 ·rename_i h
  constructor
  ·intro h;cases h
  ·rintro⟨h',_⟩;exact absurd h' h
theorem akK{w:Qf}{N:Nat}(hb:Wb w=true){l:List Ua}{F:Nat}{s:St}(hs:s∈Yn w.parts.length F){o:Nat × List St}(ho:o∈(Zy w N l).ops s):1≤o.1∧o.1≤1000∧o.2≠[]∧∀x∈o.2,x∈Yn w.parts.length F:=by
 obtain⟨_,c,hc,rfl⟩:=jS.1 ho
 obtain⟨g,n,hg,hn,rfl⟩:=cP.1 hs
 obtain⟨p,x,I⟩:=Zp.1 hc
 have hpr:=aJ hb I.hp c.k
 rw[←I.c]at hpr
 have hil:=(aeQ.1 I.hp).1
 have hdl:=vO w.parts.length n
 have hx:(Xu w.parts.length n)[c.i]?=some x:=by
  have:=I.hx
  unfold Zm Zj at this
  rwa[axK (by omega)]at this
 have hxd:=acE _ _ x (acH hx)
 have key:∀b g',g'<F→((Zj (Xu w.parts.length n)).set c.i (Sz c.k b x),g')∈Yn w.parts.length F:=fun b g' hg'=>by
  rw[ajU (by omega)]
  refine aI5 (by rw[aaM];exact hdl) (fun y hy=>?_) hg'
  rcases apN hy with hy|rfl
  ·exact acE _ _ y hy
  ·exact ah0 hxd
 refine⟨by show 1≤c.c.toNat;omega,by show c.c.toNat≤1000;omega,by show c.to≠[];rw[I.to];exact(alE _ _ _ _ _).1,fun y hy=>?_⟩
 have hy:y∈c.to:=hy
 rw[I.to]at hy
 rcases aaT.1 hy with rfl|⟨_,_,rfl⟩
 ·exact key true g hg
 ·exact key false (g-1) (by omega)
def K0(l:List Ua)(s:St):Nat:=if lG s.1 l=true then 0 else Qx
theorem bkL{w:Qf}{N:Nat}(hb:Wb w=true)(l:List Ua)(F:Nat):Vd.Kno (Zy w N l) Qx (Yn w.parts.length F) (K0 l):=by
 refine⟨⟨fun s hs o ho=>akK hb hs ho,fun s hs=>?_,fun s hs hg=>if_pos hg,fun s hs hlt=>?_,fun s hs hlt=>?_⟩,fun s hs hlt=>?_⟩
 ·unfold K0;split<;>simp
 ·unfold K0 at hlt ⊢
  split at hlt
  ·rename_i h;rw[if_pos h];exact .met h
  ·simp at hlt
 ·unfold K0 at hlt
  split at hlt
  ·rename_i h;exact .inl h
  ·simp at hlt
 ·unfold K0 at hlt ⊢
  split at hlt
  ·rename_i h;rw[if_pos h];exact Nat.zero_le _
  ·simp at hlt
def stR(w:Qf)(N:Nat)(p:(St→Nat) × Bool)(s:St)(k:Int)(i:Nat):(St→Nat) × Bool:=match mL w N s k i with
 |some o=>Vd.stepO Qx p s (o.c.toNat,o.to)
 |none=>p
theorem atK{w:Qf}{N:Nat}{s:St}{k:Int}(hk:k=1∨k=2∨k=3∨k=4){i:Nat}{o:Zw}(h:mL w N s k i=some o)(l:List Ua):(o.c.toNat,o.to)∈(Zy w N l).ops s∧1≤o.c∨(o.c.toNat,o.to)∈(Zy w N l).ops s:=by
 unfold mL at h
 split at h
 ·rename_i hv
  obtain⟨_,_,p,x,I⟩:=(bB hk).1 h
  exact .inr (jS.2 ⟨hv,o,Zp.2 ⟨p,x,I⟩,rfl⟩)
 ·cases h
theorem wG{w:Qf}{N:Nat}{s:St}{k:Int}(hk:k=1∨k=2∨k=3∨k=4){i:Nat}{o:Zw}(h:mL w N s k i=some o)(l:List Ua):(o.c.toNat,o.to)∈(Zy w N l).ops s:=by
 rcases atK hk h l with h|h
 ·exact h.1
 ·exact h
theorem arP{w:Qf}{N:Nat}(hb:Wb w=true)(h6:w.parts.length≤6){l:List Ua}{F:Nat}(hF:F≤4){d:Int}(hd:1≤d∧d≤6000){g n:Nat}(hg:g<F)(hn:n<6 ^ w.parts.length)(p:(St→Nat) × Bool)(K:Vd.Kno (Zy w N l) Qx (Yn w.parts.length F) p.1){k:Int}(hk:k=1∨k=2∨k=3∨k=4)(i:Nat):
 (ae1 (fX w d n) N d p.1 g k i= -1∧stR w N p (Zm w.parts.length g n) k i=p)∨
 ∃c:Nat,ae1 (fX w d n) N d p.1 g k i=(c:Int)∧c<Qx∧stR w N p (Zm w.parts.length g n) k i=if c<p.1 (Zm w.parts.length g n)then(fun x=>if x=Zm w.parts.length g n then c else p.1 x,true)else p:=by
 have hs:Zm w.parts.length g n∈Yn w.parts.length F:=cP.2 ⟨g,n,hg,hn,rfl⟩
 have hL:(Yn w.parts.length F).length≤186624:=by
  rw[aeV]
  have:6 ^ w.parts.length≤46656:=afU (ag0 (by decide) h6) (by decide)
  calc F*6 ^ w.parts.length≤4*46656:=amE hF this
   _=186624:=rfl
 have htop:Qx=1099511627776:=rfl
 have hv:pL (fX w d n).parts=Zz w.parts (Zm w.parts.length g n).1:=(tL d w.parts n _).symm
 unfold ae1 stR mL
 rw[hv,mR w hd n,(Wj w d n).choF]
 cases c1:Zz w.parts (Zm w.parts.length g n).1 with
 |false=>
  left
  simp
 |true=>
  rw[if_pos rfl,if_pos rfl]
  cases c2:choF w N (Zm w.parts.length g n) k i with
  |none=>
   left
   rw[show choF w N (Zj (Xu w.parts.length n),g) k i=none from c2]
   exact⟨rfl,rfl⟩
  |some o=>
   rw[show choF w N (Zj (Xu w.parts.length n),g) k i=some o from c2]
   simp only
   have ho:=wG hk (show mL w N (Zm w.parts.length g n) k i=some o by unfold mL;rw[if_pos c1];exact c2) l
   obtain⟨a1,a2,a3,a4⟩:=akK hb hs ho
   simp only at a1 a2 a3 a4
   have hle:=K.known.le _ hs
   by_cases hm:Vd.mx p.1 o.to<Qx
   ·right
    have hmb:Vd.mx p.1 o.to≤1000*(Yn w.parts.length F).length:=Vd.mx_lub fun x hx=>K.le (a4 x hx) (by have:=Vd.mx_le (f:=p.1) hx;omega)
    refine⟨Vd.mx p.1 o.to+o.c.toNat,by rw[if_pos hm];omega,by omega,?_⟩
    unfold Vd.stepO
    simp only
    rw[show min Qx (o.c.toNat+Vd.mx p.1 o.to)=Vd.mx p.1 o.to+o.c.toNat by omega]
   ·left
    rw[if_neg hm]
    refine⟨rfl,?_⟩
    unfold Vd.stepO
    simp only
    rw[if_neg (by omega)]
def nS(w:Qf)(N:Nat)(ops:List (Int × Nat))(p:(St→Nat) × Bool)(s:St):(St→Nat) × Bool:=if p.1 s=0 then p else ops.foldl (fun p o=>stR w N p s o.1 o.2) p
theorem bf7{w:Qf}{N:Nat}(hb:Wb w=true){l:List Ua}{F:Nat}{ops:List (Int × Nat)}(hops:∀o∈ops,o.1=1∨o.1=2∨o.1=3∨o.1=4){s:St}(hs:s∈Yn w.parts.length F)(p:(St→Nat) × Bool)(K:Vd.Kno (Zy w N l) Qx (Yn w.parts.length F) p.1):
 Vd.OkS (Zy w N l) Qx (Yn w.parts.length F) p (nS w N ops p s) fun f=>∀o∈ops,∀c,mL w N s o.1 o.2=some c→f s≤min Qx (c.c.toNat+Vd.mx f c.to):=by
 unfold nS
 split
 ·rename_i h0
  exact .same K fun o _ c _=>by rw[h0];exact Nat.zero_le _
 ·refine Vd.OkS.fold ops (fun o ho p K=>?_) p K
  unfold stR
  cases hc:mL w N s o.1 o.2 with
  |none=>exact .same K fun c e=>by cases e
  |some c=>
   have A:=Vd.stepO_ok hs (wG (hops o ho) hc l) p K
   exact⟨A.inv,A.le,A.ch,fun e=>⟨(A.st e).1,fun c' e'=>by cases e';exact(A.st e).2⟩⟩
def fS(w:Qf)(N:Nat)(ops:List (Int × Nat))(p:(St→Nat) × Bool)(g:Nat):(St→Nat) × Bool:=(abZ (6 ^ w.parts.length)).foldl (fun p n=>nS w N ops p (Zm w.parts.length g n)) p
def rS(w:Qf)(N:Nat)(ops:List (Int × Nat))(F:Nat)(f:St→Nat):(St→Nat) × Bool:=(abZ F).foldl (fS w N ops) (f,false)
theorem bgT{w:Qf}{N:Nat}(hb:Wb w=true){l:List Ua}{F:Nat}{ops:List (Int × Nat)}(hops:∀o∈ops,o.1=1∨o.1=2∨o.1=3∨o.1=4)(f:St→Nat)(K:Vd.Kno (Zy w N l) Qx (Yn w.parts.length F) f):
 Vd.OkS (Zy w N l) Qx (Yn w.parts.length F) (f,false) (rS w N ops F f) fun f=>∀g∈abZ F,∀n∈abZ (6 ^ w.parts.length),∀o∈ops,∀c,mL w N (Zm w.parts.length g n) o.1 o.2=some c→f (Zm w.parts.length g n)≤min Qx (c.c.toNat+Vd.mx f c.to):=
 Vd.OkS.fold _ (fun g hg p K=>Vd.OkS.fold _ (fun n hn p K=>bf7 hb hops (cP.2 ⟨g,n,ae5.1 hg,ae5.1 hn,rfl⟩) p K) p K) (f,false) K
def aaR(st:Nat)(v:AV)(l:List (List AV))(h:Qa):Prop:=(l=[]∧v=.nils)∨(l≠[]∧∃b,v=.slr st b 0 l.length∧h[b]?=some (.live st true false l))
def opR(k:Int)(i:Nat):List AV:=[.int .i64 k,.int .i64 (i:Int)]
def opK(n:Nat)(k:Int):List (List AV):=(abZ n).map (opR k)
def vW(n:Nat):Nat→List (List AV)
 |0=>[]
 |k+1=>vW n k++opK n ((k:Int)+1)
theorem aa2(n:Nat):∀k,(vW n k).length=k*n
 |0=>by simp[vW]
 |k+1=>by simp[vW,opK,aa2 n k,akD]
theorem aUJ{w:Qf}(hne:w.parts≠[])(h12:w.parts.length≤12):
 Ub.call (.fn 48) [.agg [.int .i64 w.rooms,.int .i64 w.need,Rh 9 true w.nn (w.parts.map Qb.cells)]] []=some (.ret (.slr 2 0 0 (4*w.parts.length)),[.live 2 true false (vW w.parts.length 4)]):=by
 have hpos:=amZ.2 hne
 refine ce Tryz.func48 ?_
 simp only[Tryz.f48]
 (have hb:=trivial;with_reducible repeat' (first|simp only[hb,Vc.down,seval,adB.down,aaB]|refine Qm ?_ ?_<;>intro hb|refine fd ?_|fail))
 refine Uj (lst 24 (as6 4 ()) (fun i (_:Unit) t h=>t 1=.ptr 0 0 0∧t 4=.int .i64 ((i:Int)+1)∧(∃fl x,h[0]?=some (.live 3 fl x [[.int .i64 w.rooms,.int .i64 w.need,Rh 9 true w.nn (w.parts.map Qb.cells)]]))∧aaR 2 (t 3) (vW w.parts.length i) h) (fun _ _=>())
  (fun _ e t h=>e=.exit 0∧aaR 2 (t 3) (vW w.parts.length 4) h) ?_ ?_ () _ _ ?_) (fun e t h hk=>?_)
 ·rintro _ t h Q' kQ ⟨g1,g4,_,hR⟩
  rw[axL]at g4 hR
  have h5:decide (((4:Nat):Int)+1≤4)=false:=rfl
  (have hb:=trivial;with_reducible repeat' (first|simp only[hb,Vc.down,seval,adB.down,g4,h5]|refine Qm ?_ ?_<;>intro hb|refine fd ?_|fail))
  exact kQ _ _ _ ⟨rfl,by simpa [up]using hR⟩
 ·rintro _ rest i _ t h J Q' kJ kQ hx hi ⟨g1,g4,hB,hR⟩
  rw[axL]at hi
  obtain⟨k,hk⟩:∃k:Int,(i:Int)+1=k:=⟨_,rfl⟩
  rw[hk]at g4
  have h5:decide (k≤4)=true:=decide_eq_true (by omega)
  have hwk:IntKind.i64.wrap (k+1)=k+1:=Re (by omega) (by omega)
  (have hb:=trivial;with_reducible repeat' (first|simp only[hb,Vc.down,seval,adB.down,g1,g4,h5,aaB]|refine Qm ?_ ?_<;>intro hb|refine fd ?_|fail))
  refine Uj (lst 24 w.parts (fun j (_:Unit) t h=>t 1=.ptr 0 0 0∧t 4=.int .i64 k∧t 5=.int .i64 (j:Int)∧(∃fl x,h[0]?=some (.live 3 fl x [[.int .i64 w.rooms,.int .i64 w.need,Rh 9 true w.nn (w.parts.map Qb.cells)]]))∧aaR 2 (t 3) (vW w.parts.length i++opK j k) h) (fun _ _=>())
   (fun _ e t h=>e=.exit 2∧t 1=.ptr 0 0 0∧t 4=.int .i64 k∧(∃fl x,h[0]?=some (.live 3 fl x [[.int .i64 w.rooms,.int .i64 w.need,Rh 9 true w.nn (w.parts.map Qb.cells)]]))∧aaR 2 (t 3) (vW w.parts.length i++opK w.parts.length k) h) ?_ ?_ () _ _ ?_) (fun e t h hk'=>?_)
  ·rintro _ t h Q'' kQ ⟨g1,g4,g5,⟨fl,xx,hB⟩,hR⟩
   (have hb:=trivial;with_reducible repeat' (first|simp only[hb,Vc.down,seval,adB.down,g1,g5,hB,ag5,decide_false,aaB]|refine Qm ?_ ?_<;>intro hb|refine fd ?_|fail))
   exact kQ _ _ _ ⟨rfl,by simp[up,g1],by simp[up,g4],⟨fl,xx,hB⟩,by simpa [up]using hR⟩
  ·rintro p rest j _ t h J' Q'' kJ' kQ' hx hj ⟨g1,g4,g5,⟨fl,xx,hB⟩,hR⟩
   have hdd:decide ((j:Int)<(w.parts.length:Int))=true:=decide_eq_true (by omega)
   have hww:=Sl hj (by unfold maxLen;omega)
   have hB2:=Qh hB
   have hl0:=Qr hB
   have hnx:vW w.parts.length i++opK (j+1) k=(vW w.parts.length i++opK j k)++[[.int .i64 k,.int .i64 (j:Int)]]:=by
    unfold opK;rw[axI,ai9,List.append_assoc];rfl
   have hln:(vW w.parts.length i++opK j k).length≤60:=by
    rw[axJ,aa2]
    have:i*w.parts.length≤3*12:=amE (by omega) h12
    simp[opK];omega
   generalize vW w.parts.length i++opK j k=L at *
   rcases hR with⟨rfl,g3⟩|⟨hne',b,g3,hb⟩
   ·(have hb:=trivial;with_reducible repeat' (first|simp only[hb,Vc.down,seval,adB.down,g1,g3,g4,g5,hB,hB2,hdd,hww,aaB]|refine Qm ?_ ?_<;>intro hb|refine fd ?_|fail))
    exact Qq (kJ' _ _ () ⟨by simp[up,g1],by simp[up,g4],by simp[up],⟨fl,xx,hB2 _⟩,by rw[hnx];exact .inr ⟨by simp,h.length+1,by simp[up],by rw[apH (by omega),Nat.add_sub_cancel_left];rfl⟩⟩ rfl)
   ·have hbl:=Qr hb
    have hb2:=Qh hb
    have hS:=Ya hbl
    have hb0:b≠0:=fun e=>by rw[e,hB]at hb;cases hb
    have hi39:(L.length+1≤549755813888)=True:=eq_true (by omega)
    (with_reducible repeat' (first|simp only[hb,Vc.down,seval,adB.down,g1,g3,g4,g5,hB,hB2,hb,hb2,hS,Xg,Vz,aaM,hi39,hdd,hww,aaB]|refine Qm ?_ ?_<;>intro hb|refine fd ?_|fail))
    exact Qq (kJ' _ _ () ⟨by simp[up,g1],by simp[up,g4],by simp[up],⟨fl,xx,by rw[axK (by simpa using hl0),axM hb0];exact hB⟩,by rw[hnx];exact .inr ⟨by simp,h.length+1,by simp[up],by rw[Vz];simp⟩⟩ rfl)
  ·exact⟨by simp[up,g1],by simp[up,g4],by simp[up],hB,by simpa [up,opK]using hR⟩
  obtain⟨rfl,g1,g4,hB,hR⟩:=hk'
  (have hb:=trivial;with_reducible repeat' (first|simp only[hb,Vc.down,seval,adB.down,g4,hwk]|refine Qm ?_ ?_<;>intro hb|refine fd ?_|fail))
  exact Qq (kJ _ _ () ⟨by simp[up,g1],by simp[up];omega,hB,by simp only[up];rw[vW,hk];exact hR⟩ rfl)
 ·exact⟨by simp[up,bF],by simp[up],⟨_,_,rfl⟩,.inl ⟨rfl,by simp[up]⟩⟩
 obtain⟨rfl,hR⟩:=hk
 have hlen:=aa2 w.parts.length 4
 rcases hR with⟨e,_⟩|⟨hne',b,g3,hb⟩
 ·rw[e]at hlen;simp at hlen;omega
 rw[←hlen]
 (with_reducible repeat' (first|simp only[hb,Vc.down,seval,adB.down,g3,hb]|refine Qm ?_ ?_<;>intro hb|refine fd ?_|fail))
def opN(m:Nat):Nat→List (Int × Nat)
 |0=>[]
 |k+1=>opN m k++(abZ m).map fun i=>((k:Int)+1,i)
theorem auH(m:Nat):∀k,vW m k=(opN m k).map fun o=>opR o.1 o.2
 |0=>rfl
 |k+1=>by
  show vW m k++opK m ((k:Int)+1)=_
  rw[auH m k]
  show _=(opN m k++(abZ m).map fun i=>((k:Int)+1,i)).map _
  rw[ai9,List.map_map]
  rfl
theorem ab1{m:Nat}:∀{k:Nat} {o:Int × Nat},o∈opN m k↔∃j:Nat,j<k∧o.1=(j:Int)+1∧o.2<m
 |0,o=>by simp[opN]
 |k+1,o=>by
  show o∈opN m k++(abZ m).map _↔_
  rw[List.mem_append,ab1,afC]
  constructor
  ·rintro(⟨j,h1,h2,h3⟩|⟨i,h1,rfl⟩)
   ·exact⟨j,by omega,h2,h3⟩
   ·exact⟨k,by omega,rfl,by simpa using h1⟩
  ·rintro⟨j,h1,h2,h3⟩
   by_cases e:j=k
   ·subst e
    exact .inr ⟨o.2,by simpa using h3,by rw[←h2]⟩
   ·exact .inl ⟨j,by omega,h2,h3⟩
theorem agH{m:Nat}{o:Int × Nat}(h:o∈opN m 4):(o.1=1∨o.1=2∨o.1=3∨o.1=4)∧o.2<m:=by
 obtain⟨j,h1,h2,h3⟩:=ab1.1 h
 exact⟨by omega,h3⟩
theorem acB(m:Nat):∀k,(opN m k).length=k*m
 |0=>by simp[opN]
 |k+1=>by simp[opN,acB m k,akD]
theorem anP{S T:Type}{Y:Go.Ev.Vd S}{Z:Go.Ev.Vd T}{s:S}{t:T}(top:Nat)(h:∀k,Go.Ev.iC Y s k↔Go.Ev.iC Z t k):Y.bst top s=Z.bst top t:=by
 by_cases e:∃k,Go.Ev.iC Y s k
 ·have e':∃k,Go.Ev.iC Z t k:=by obtain⟨k,hk⟩:=e;exact⟨k,(h k).1 hk⟩
  obtain⟨a1,a2⟩:=Vd.bst_can (top:=top) e
  obtain⟨b1,b2⟩:=Vd.bst_can (top:=top) e'
  exact Nat.le_antisymm (a2 _ ((h _).2 b1)) (b2 _ ((h _).1 a1))
 ·have e':¬∃k,Go.Ev.iC Z t k:=fun⟨k,hk⟩=>e ⟨k,(h k).2 hk⟩
  rw[Vd.bst_none e,Vd.bst_none e']
theorem akG{w:Qf}{N:Nat}{l:List Ua}{s:St}(hv:Zz w.parts s.1=true):(Zy w N l).bst Qx s=bs w N l s:=by
 refine anP Qx fun k=>⟨fun h=>?_,fun h=>?_⟩
 ·exact h.sim (fun a b=>a=b) (fun a b e hg=>by subst e;exact hg) (fun a b e o ho=>by
   subst e
   obtain⟨_,c,hc,rfl⟩:=jS.1 ho
   exact⟨_,bW.2 ⟨c,hc,rfl⟩,abV _,fun y hy=>⟨y,hy,rfl⟩⟩) s rfl
 ·exact h.sim (fun a b=>a=b∧Zz w.parts a.1=true) (fun a b e hg=>by obtain⟨rfl,_⟩:=e;exact hg) (fun a b e o ho=>by
   obtain⟨rfl,hva⟩:=e
   obtain⟨c,hc,rfl⟩:=bW.1 ho
   exact⟨_,jS.2 ⟨hva,c,hc,rfl⟩,abV _,fun y hy=>⟨y,hy,rfl,akW hva hc y hy⟩⟩) s ⟨rfl,hv⟩
theorem aoF{w:Qf}{N:Nat}(hb:Wb w=true)(h6:w.parts.length≤6){l:List Ua}{F:Nat}(hF:F≤4){f:St→Nat}(K:Vd.Kno (Zy w N l) Qx (Yn w.parts.length F) f)
 (st:∀g∈abZ F,∀n∈abZ (6 ^ w.parts.length),∀o∈opN w.parts.length 4,∀c,mL w N (Zm w.parts.length g n) o.1 o.2=some c→f (Zm w.parts.length g n)≤min Qx (c.c.toNat+Vd.mx f c.to)) {s:St} (hs:s∈Yn w.parts.length F):f s=(Zy w N l).bst Qx s:=by
 have hL:(Yn w.parts.length F).length≤186624:=by
  rw[aeV]
  have:6 ^ w.parts.length≤46656:=afU (ag0 (by decide) h6) (by decide)
  calc F*6 ^ w.parts.length≤4*46656:=amE hF this
   _=186624:=rfl
 refine(K.known.bst (fun s hs o ho=>?_) (by unfold Qx;omega) hs).1
 obtain⟨g,n,hg,hn,rfl⟩:=cP.1 hs
 obtain⟨hv,c,hc,rfl⟩:=jS.1 ho
 obtain⟨p,x,I⟩:=Zp.1 hc
 have hil:=(aeQ.1 I.hp).1
 refine st g (ae5.2 hg) n (ae5.2 hn) (c.k,c.i) (ab1.2 ⟨(c.k-1).toNat,by have:=I.k4;omega,by have:=I.k4;show c.k=_;omega,hil⟩) c ?_
 unfold mL
 rw[if_pos hv]
 exact(bB I.k4).2 ⟨rfl,rfl,p,x,I⟩
theorem aaV:∀(m n:Nat),n<6 ^ m→eK (Xu m n)=n
 |0,n,h=>by simp at h;subst h;rfl
 |m+1,n,h=>by
  show eK ((((n % 6 / 2:Nat):Int),n % 2==1)::Xu m (n / 6))=n
  rw[iI,aaV m (n / 6) (by rw[Nat.pow_succ]at h;omega)]
  have e1:(((n % 6 / 2:Nat):Int)).toNat=n % 6 / 2:=rfl
  simp only[e1]
  have e2:(n % 2==1).toNat=n % 2:=by
   have:n % 2=0∨n % 2=1:=by omega
   rcases this with h|h<;>simp[h]
  rw[e2]
  omega
theorem aIF{m g g' n n':Nat}(hn:n<6 ^ m)(hn':n'<6 ^ m)(h:Zm m g n=Zm m g' n'):g=g'∧n=n':=by
 unfold Zm at h
 simp only[Prod.mk.injEq]at h
 refine⟨h.2,?_⟩
 have h1:=congrArg (fun L=>L.take m) h.1
 have e:∀n,(Zj (Xu m n)).take m=Xu m n:=fun n=>by
  have:=asW (L:=Xu m n)
  rwa[vO]at this
 simp only[e]at h1
 rw[←aaV m n hn,←aaV m n' hn',h1]
theorem au6{K:St→Nat}{m g n c:Nat}(hn:n<6 ^ m)(hc:c<Qx)(g':Nat):aN (fun x=>if x=Zm m g n then c else K x) m g'=if g'=g then(aN K m g).set n [.int .i64 (c:Int)]else aN K m g':=by
 have ev:∀n',n'<6 ^ m→(if(Zj (Xu m n'),g')=Zm m g n then c else K (Zj (Xu m n'),g'))=if g'=g∧n'=n then c else K (Zj (Xu m n'),g'):=fun n' h'=>by
  by_cases e:(Zj (Xu m n'),g')=Zm m g n
  ·rw[if_pos e,if_pos (aIF h' hn e)]
  ·rw[if_neg e,if_neg (fun h=>e (by rw[h.1,h.2];rfl))]
 by_cases e:g'=g
 ·subst e
  rw[if_pos rfl]
  apply axP
  intro j
  by_cases hj:j<6 ^ m
  ·rw[bT _ m g' hj,ev j hj]
   by_cases ej:n=j
   ·subst ej
    rw[if_pos ⟨rfl,rfl⟩,apI (by rw[Yp];exact hj)]
    simp[eF,hc]
   ·rw[if_neg (by omega),axM ej,bT K m g' hj]
  ·rw[ag2 (by rw[Yp];omega),ag2 (by rw[aaM,Yp];omega)]
 ·rw[if_neg e]
  apply axP
  intro j
  by_cases hj:j<6 ^ m
  ·rw[bT _ m g' hj,bT K m g' hj,ev j hj,if_neg (fun h=>e h.1)]
  ·rw[ag2 (by rw[Yp];omega),ag2 (by rw[Yp];omega)]
end Go.Proofs.YtcncggaobhbomaaGreatDoor
