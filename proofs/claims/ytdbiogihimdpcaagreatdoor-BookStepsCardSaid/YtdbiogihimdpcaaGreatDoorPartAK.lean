/- The functions of the layer, walked. -/
import Derived.Test.YtdbiogihimdpcaaGreatDoorPartAJ
import Derived.Test.YtdbiogihimdpcaaGreatDoorPartAB
import Derived.Test.YtdbiogihimdpcaaGreatDoorPartAF
import Derived.Test.YtdbiogihimdpcaaGreatDoorPartAG
import Derived.Test.YtdbiogihimdpcaaGreatDoorPartAI
import Derived.Test.YtdbiogihimdpcaaGreatDoorPartAH
import Derived.Test.YtdbiogihimdpcaaGreatDoorLibD
set_option linter.unusedSimpArgs false
set_option linter.unusedVariables false
/- Layer 6: the law BookSteps, walked. -/
namespace Go.Proofs.YtdbiogihimdpcaaGreatDoor
open Go.Ev Go
set_option maxRecDepth 100000
set_option maxHeartbeats 16000000
def fewB(d:BDay):Bool:=decide (d.hours.length≤53)&&decide (d.noms.length≤210)&&decide (d.trades.length≤60)
theorem w_few(d:BDay):om'.call (.fn 23) [.agg d.cells] []=some (.ret (.bool (fewB d)),[]):=by
 have l1:decide ((d.hours.length:Int)≤53)=decide (d.hours.length≤53):=by rw[decide_eq_decide];omega
 have l2:decide ((d.noms.length:Int)≤210)=decide (d.noms.length≤210):=by rw[decide_eq_decide];omega
 have l3:decide ((d.trades.length:Int)≤60)=decide (d.trades.length≤60):=by rw[decide_eq_decide];omega
 (refine ce Tryz.func23 ?_;simp only[Tryz.f23];(have hb:=trivial;with_reducible repeat' (first|simp only[hb,Vc.down,seval,TY23.down,BDay.cells,List.length_map,l1,l2,l3]|refine fsp ?_ ?_<;>intro hb|refine fd ?_|fail)))
 all_goals (refine congrArg (fun b=>(Out.ret (AV.bool b),([]:Heap))) ?_;simp_all[fewB];try (intros;omega))
theorem same_zSt:om'.call (.fn 27) [zSt,zSt] []=some (.ret (.bool true),[]):=by
 have:=r_SameState (hr:=0) (own:=0) (fuel:=0) (G:=[]) (L:=[]) (O:=[]) (g1:=false) (g2:=false) (l1:=false) (l2:=false) (o1:=false) (o2:=false) (by simp) (by simp) (by simp)
 simpa [slv_nil,zSt]using this
theorem same_zFl:om'.call (.fn 28) [zFl,zFl] []=some (.ret (.bool true),[]):=by
 have:=r_SameFlow (W:=[]) (A:=[]) (F:=[]) (R:=[]) (w1:=false) (w2:=false) (a1:=false) (a2:=false) (f1:=false) (f2:=false) (r1:=false) (r2:=false) (by simp) (by simp) (by simp) (by simp)
 simpa [slv_nil,zFl]using this
def stepsG(s:BStore)(y:BState)(d:BDay):Bool:=shortB s.cons&&fewB d&&decide (y.gas.length≤12)&&decide (y.bills.length≤12)&&decide (y.owed.length≤55)
theorem w_Steps0(hk:om'.call (.fn 15) [] []=some (.ret (.bool true),[]))(s:BStore)(hs:s.small)(y:BState)(d:BDay)(h:stepsG s y d=false):
 om'.call (.fn 11) [.agg s.cells,.agg y.cells,.agg d.cells] []=some (.ret (.bool true),[]):=by
 have h1:=w_short (nn:=s.nn) hs.cons
 have h2:=w_few d
 simp only[BDay.cells]at h2
 have l1:decide ((12:Int)<(y.gas.length:Int))= !decide (y.gas.length≤12):=by rw[←decide_not,decide_eq_decide];omega
 have l2:decide ((12:Int)<(y.bills.length:Int))= !decide (y.bills.length≤12):=by rw[←decide_not,decide_eq_decide];omega
 have l3:decide ((55:Int)<(y.owed.length:Int))= !decide (y.owed.length≤55):=by rw[←decide_not,decide_eq_decide];omega
 have key:¬(shortB s.cons=true∧fewB d=true∧y.gas.length≤12∧y.bills.length≤12∧y.owed.length≤55):=fun⟨a,b,c,e,f⟩=>by simp[stepsG,a,b,c,e,f]at h
 (refine ce Tryz.func11 ?_;simp only[Tryz.f11];(have hb:=trivial;with_reducible repeat' (first|simp only[hb,Vc.down,seval,TY11.down,BDay.cells,h1,h2,l1,l2,l3,hk,List.length_map]|refine fsp ?_ ?_<;>intro hb|refine fd ?_|fail)))
 all_goals (exfalso;refine key ⟨?_,?_,?_,?_,?_⟩<;>clear key h<;>simp_all)
theorem stepsG_on{s:BStore}{y:BState}{d:BDay}(h:stepsG s y d=true):shortB s.cons=true∧fewB d=true∧decide ((12:Int)<(y.gas.length:Int))=false∧decide ((12:Int)<(y.bills.length:Int))=false∧decide ((55:Int)<(y.owed.length:Int))=false:=by
 simp only[stepsG,Bool.and_eq_true,decide_eq_true_eq]at h
 obtain⟨⟨⟨⟨a,b⟩,c⟩,e⟩,f⟩:=h
 exact⟨a,b,decide_eq_false (by omega),decide_eq_false (by omega),decide_eq_false (by omega)⟩
theorem w_StepsE(hk:om'.call (.fn 15) [] []=some (.ret (.bool true),[]))(s:BStore)(hs:s.small)(y:BState)(hy:y.small)(d:BDay)(hd:d.small)(h:stepsG s y d=true)(hv:(storeB s&&stateB s y&&dayB s.cons.length d)=false):
 om'.call (.fn 11) [.agg s.cells,.agg y.cells,.agg d.cells] []=some (.ret (.bool true),[]):=by
 obtain⟨g1,g2,g3,g4,g5⟩:=stepsG_on h
 have h1:=w_short (nn:=s.nn) hs.cons
 have h2:=w_few d
 rw[g1]at h1
 rw[g2]at h2
 have c0:=e_Step0 hs hd hy hv
 have c1:=r_Store s hs
 have c2:=r_State s hs y hy
 have c3:=r_Day d hd s.cons.length
 have c4:=same_zSt
 have c5:=same_zFl
 simp only[BDay.cells]at h2 c0 c3
 simp only[zSt,zFl]at c0 c4 c5
 cases v1:storeB s with
 |false=>
  rw[v1]at c1
  (refine ce Tryz.func11 ?_;simp only[Tryz.f11];(have hb:=trivial;with_reducible repeat' (first|simp only[hb,Vc.down,seval,TY11.down,BDay.cells,h1,h2,g3,g4,g5,c0,c1,c4,c5,hk,List.length_map,i_eqself,Int.reduceBEq]|refine fsp ?_ ?_<;>intro hb|refine fd ?_|fail)))
 |true=>
  rw[v1]at c1
  cases v2:stateB s y with
  |false=>
   rw[v2]at c2
   (refine ce Tryz.func11 ?_;simp only[Tryz.f11];(have hb:=trivial;with_reducible repeat' (first|simp only[hb,Vc.down,seval,TY11.down,BDay.cells,h1,h2,g3,g4,g5,c0,c1,c2,c4,c5,hk,List.length_map,i_eqself,Int.reduceBEq]|refine fsp ?_ ?_<;>intro hb|refine fd ?_|fail)))
  |true=>
   rw[v2]at c2
   rw[v1,v2]at hv
   have v3:dayB s.cons.length d=false:=by simpa using hv
   rw[v3]at c3
   (refine ce Tryz.func11 ?_;simp only[Tryz.f11];(have hb:=trivial;with_reducible repeat' (first|simp only[hb,Vc.down,seval,TY11.down,BDay.cells,h1,h2,g3,g4,g5,c0,c1,c2,c3,c4,c5,hk,List.length_map,i_eqself,Int.reduceBEq]|refine fsp ?_ ?_<;>intro hb|refine fd ?_|fail)))
theorem w_StepsL(hk:om'.call (.fn 15) [] []=some (.ret (.bool true),[]))(s:BStore)(hs:s.small)(y:BState)(hy:y.small)(d:BDay)(hd:d.small)(h:stepsG s y d=true)(v1:storeB s=true)(v2:stateB s y=true)(v3:dayB s.cons.length d=true)(hh:(d.hours.length:Int)≤y.hour):
 om'.call (.fn 11) [.agg s.cells,.agg y.cells,.agg d.cells] []=some (.ret (.bool true),[]):=by
 obtain⟨g1,g2,g3,g4,g5⟩:=stepsG_on h
 have h1:=w_short (nn:=s.nn) hs.cons
 have h2:=w_few d
 rw[g1]at h1
 rw[g2]at h2
 have c0:=e_StepS hs hd hy v1 v2 v3 hh
 have c1:=r_Store s hs
 have c2:=r_State s hs y hy
 have c3:=r_Day d hd s.cons.length
 have c4:=same_zSt
 have c5:=same_zFl
 rw[v1]at c1
 rw[v2]at c2
 rw[v3]at c3
 have c6:decide ((d.hours.length:Int)≤y.hour)=true:=decide_eq_true hh
 simp only[BDay.cells]at h2 c0 c3
 simp only[zSt,zFl]at c0 c4 c5
 (refine ce Tryz.func11 ?_;simp only[Tryz.f11];(have hb:=trivial;with_reducible repeat' (first|simp only[hb,Vc.down,seval,TY11.down,BDay.cells,h1,h2,g3,g4,g5,c0,c1,c2,c3,c4,c5,c6,hk,List.length_map,i_eqself,Int.reduceBEq]|refine fsp ?_ ?_<;>intro hb|refine fd ?_|fail)))
theorem w_StepsV(hk:om'.call (.fn 15) [] []=some (.ret (.bool true),[]))(s:BStore)(hs:s.small)(y:BState)(hy:y.small)(d:BDay)(hd:d.small)(h:stepsG s y d=true)(v1:storeB s=true)(v2:stateB s y=true)(v3:dayB s.cons.length d=true)(hh:¬(d.hours.length:Int)≤y.hour)
 {n:Nat} {hr own fuel:Int} {G L R W A F:List Int} {O:List BTrade} (hn:n≤1000) (lG:G.length=n) (lL:L.length=n) (lW:W.length=n) (lA:A.length=n) (lF:F.length=n) (lO:O.length≤1000) (lR:R.length≤1000)
 (hP:ClQ om' 40 [.agg s.cells,.agg y.cells,.agg d.cells] [] (fun o h=>∃o',o=o3 o'∧StepQ n hr own fuel G L O R W A F o' h))
 (hQ:ClQ om' 42 [.agg s.cells,.agg y.cells,.agg d.cells] [] (StepQ n hr own fuel G L O R W A F)):
 om'.call (.fn 11) [.agg s.cells,.agg y.cells,.agg d.cells] []=some (.ret (.bool true),[]):=by
 obtain⟨g1,g2,g3,g4,g5⟩:=stepsG_on h
 have h1:=w_short (nn:=s.nn) hs.cons
 have h2:=w_few d
 rw[g1]at h1
 rw[g2]at h2
 have c1:=r_Store s hs
 have c2:=r_State s hs y hy
 have c3:=r_Day d hd s.cons.length
 rw[v1]at c1
 rw[v2]at c2
 rw[v3]at c3
 have c6:decide ((d.hours.length:Int)≤y.hour)=false:=decide_eq_false hh
 have htk:∀l:List Int,l.length=n→(l.map iv).take n=l.map iv:=fun l h=>List.take_of_length_le (by simp[h])
 have t1:=htk G lG
 have t2:=htk L lL
 have t3:=htk W lW
 have t4:=htk A lA
 have t5:=htk F lF
 have t6:(R.map iv).take R.length=R.map iv:=List.take_of_length_le (by simp)
 have t7:(O.map BTrade.cells).take O.length=O.map BTrade.cells:=List.take_of_length_le (by simp)
 have bO:∀a b:Bool,_:=fun a b=>r_SameState (hr:=hr) (own:=own) (fuel:=fuel) (G:=G) (L:=L) (O:=O) (g1:=true) (g2:=true) (l1:=true) (l2:=true) (o1:=a) (o2:=b) (by unfold maxLen;omega) (by unfold maxLen;omega) (by unfold maxLen;omega)
 have bR:∀a b:Bool,_:=fun a b=>r_SameFlow (W:=W) (A:=A) (F:=F) (R:=R) (w1:=true) (w2:=true) (a1:=true) (a2:=true) (f1:=true) (f2:=true) (r1:=a) (r2:=b) (by unfold maxLen;omega) (by unfold maxLen;omega) (by unfold maxLen;omega) (by unfold maxLen;omega)
 simp only[slv_true]at bO bR
 have zO:O=[]→slv 5 true false (O.map BTrade.cells)=.nils:=fun e=>by rw[e];rfl
 have zR:R=[]→slv 1 true false (R.map iv)=.nils:=fun e=>by rw[e];rfl
 obtain⟨o1,k1,e1,o1',rfl,w1,w2,w3,w4,w5,w6,w7,q1⟩:=hP
 obtain⟨o2,k2,e2,u1,u2,u3,u4,u5,u6,u7,q2⟩:=hQ
 simp only[BDay.cells]at h2 c3 e1 e2
 rcases q1 with⟨pO,pR,rfl,rfl⟩|⟨pR,rfl,rfl⟩|⟨pO,pR,rfl,rfl⟩|⟨pR,rfl,rfl⟩<;>rcases q2 with⟨rO,rR,rfl,rfl⟩|⟨rR,rfl,rfl⟩|⟨rO,rR,rfl,rfl⟩|⟨rR,rfl,rfl⟩<;>(first|exact absurd pR rR|exact absurd rR pR|skip)<;>simp only[stO,o3,lv1,lv5]at e1 e2
 ·have cS:=bO false false
  have cF:=bR false false
  have z:=zO pO
  have z2:=zR pR
  simp only[slv_true,z,z2]at cS cF
  (refine ce Tryz.func11 ?_;simp only[Tryz.f11];(have hb:=trivial;with_reducible repeat' (first|simp only[hb,Vc.down,seval,TY11.down,BDay.cells,h1,h2,g3,g4,g5,e1,e2,c1,c2,c3,c6,cS,cF,hk,List.length_map,i_eqself,Int.reduceBEq,lG,lL,lW,lA,lF,t1,t2,t3,t4,t5,t6,t7]|refine fsp ?_ ?_<;>intro hb|refine fdl ?_|fail)))
 ·have cS:=bO false true
  have cF:=bR false false
  have z:=zO pO
  have z2:=zR pR
  simp only[slv_true,z,z2]at cS cF
  (refine ce Tryz.func11 ?_;simp only[Tryz.f11];(have hb:=trivial;with_reducible repeat' (first|simp only[hb,Vc.down,seval,TY11.down,BDay.cells,h1,h2,g3,g4,g5,e1,e2,c1,c2,c3,c6,cS,cF,hk,List.length_map,i_eqself,Int.reduceBEq,lG,lL,lW,lA,lF,t1,t2,t3,t4,t5,t6,t7]|refine fsp ?_ ?_<;>intro hb|refine fdl ?_|fail)))
 ·have cS:=bO true false
  have cF:=bR false false
  have z:=zO rO
  have z2:=zR pR
  simp only[slv_true,z,z2]at cS cF
  (refine ce Tryz.func11 ?_;simp only[Tryz.f11];(have hb:=trivial;with_reducible repeat' (first|simp only[hb,Vc.down,seval,TY11.down,BDay.cells,h1,h2,g3,g4,g5,e1,e2,c1,c2,c3,c6,cS,cF,hk,List.length_map,i_eqself,Int.reduceBEq,lG,lL,lW,lA,lF,t1,t2,t3,t4,t5,t6,t7]|refine fsp ?_ ?_<;>intro hb|refine fdl ?_|fail)))
 ·have cS:=bO true true
  have cF:=bR false false
  have z2:=zR pR
  simp only[slv_true,z2]at cS cF
  (refine ce Tryz.func11 ?_;simp only[Tryz.f11];(have hb:=trivial;with_reducible repeat' (first|simp only[hb,Vc.down,seval,TY11.down,BDay.cells,h1,h2,g3,g4,g5,e1,e2,c1,c2,c3,c6,cS,cF,hk,List.length_map,i_eqself,Int.reduceBEq,lG,lL,lW,lA,lF,t1,t2,t3,t4,t5,t6,t7]|refine fsp ?_ ?_<;>intro hb|refine fdl ?_|fail)))
 ·have cS:=bO false false
  have cF:=bR true true
  have z:=zO pO
  simp only[slv_true,z]at cS cF
  (refine ce Tryz.func11 ?_;simp only[Tryz.f11];(have hb:=trivial;with_reducible repeat' (first|simp only[hb,Vc.down,seval,TY11.down,BDay.cells,h1,h2,g3,g4,g5,e1,e2,c1,c2,c3,c6,cS,cF,hk,List.length_map,i_eqself,Int.reduceBEq,lG,lL,lW,lA,lF,t1,t2,t3,t4,t5,t6,t7]|refine fsp ?_ ?_<;>intro hb|refine fdl ?_|fail)))
 ·have cS:=bO false true
  have cF:=bR true true
  have z:=zO pO
  simp only[slv_true,z]at cS cF
  (refine ce Tryz.func11 ?_;simp only[Tryz.f11];(have hb:=trivial;with_reducible repeat' (first|simp only[hb,Vc.down,seval,TY11.down,BDay.cells,h1,h2,g3,g4,g5,e1,e2,c1,c2,c3,c6,cS,cF,hk,List.length_map,i_eqself,Int.reduceBEq,lG,lL,lW,lA,lF,t1,t2,t3,t4,t5,t6,t7]|refine fsp ?_ ?_<;>intro hb|refine fdl ?_|fail)))
 ·have cS:=bO true false
  have cF:=bR true true
  have z:=zO rO
  simp only[slv_true,z]at cS cF
  (refine ce Tryz.func11 ?_;simp only[Tryz.f11];(have hb:=trivial;with_reducible repeat' (first|simp only[hb,Vc.down,seval,TY11.down,BDay.cells,h1,h2,g3,g4,g5,e1,e2,c1,c2,c3,c6,cS,cF,hk,List.length_map,i_eqself,Int.reduceBEq,lG,lL,lW,lA,lF,t1,t2,t3,t4,t5,t6,t7]|refine fsp ?_ ?_<;>intro hb|refine fdl ?_|fail)))
 ·have cS:=bO true true
  have cF:=bR true true
  simp only[slv_true]at cS cF
  (refine ce Tryz.func11 ?_;simp only[Tryz.f11];(have hb:=trivial;with_reducible repeat' (first|simp only[hb,Vc.down,seval,TY11.down,BDay.cells,h1,h2,g3,g4,g5,e1,e2,c1,c2,c3,c6,cS,cF,hk,List.length_map,i_eqself,Int.reduceBEq,lG,lL,lW,lA,lF,t1,t2,t3,t4,t5,t6,t7]|refine fsp ?_ ?_<;>intro hb|refine fdl ?_|fail)))
def zg:Bool→AV
 |true=>.slr 1 1 0 0
 |false=>.nils
def zi:Bool→Bool→Nat
 |false,false=>1
 |true,false=>2
 |false,true=>2
 |true,true=>3
def zl(a:Bool):Bool→AV
 |true=>.slr 1 (zi a false) 0 0
 |false=>.nils
def zo(a b:Bool):Bool→AV
 |true=>.slr 5 (zi a b) 0 0
 |false=>.nils
def zb(st:Nat)(w:Bool):Bool→Heap→Heap
 |true,h=>.live st true w []::h
 |false,h=>h
theorem z_loans(a b c:Bool){s:BStore}{d:BDay}{fl w w1 w2 w3:Bool}{hr own fuel:Int}:
 om'.call (.fn 104) [.ptr 0 0 0] (.live 19 fl w [(rc s d hr (zg a) own fuel (zl a b) (zo a b c) .nils .nils .nils .nils)]::zb 1 w1 a (zb 1 w2 b (zb 5 w3 c [])))=
  some (.ret (.tup []),.live 19 false true [(rc s d hr (zg a) own fuel (zl a b) .nils .nils .nils .nils .nils)]::zb 1 w1 a (zb 1 w2 b (zb 5 w3 c []))):=by
 cases a<;>cases b<;>cases c<;>simp only[zg,zi,zl,zo,zb]
 all_goals (refine ce Tryz.func104 ?_;simp only[Tryz.f104];(have hb:=trivial;with_reducible repeat' (first|simp only[hb,Vc.down,seval,TY104.down,List.length_nil,Int.natCast_zero,Int.lt_irrefl,decide_false]|refine fsp ?_ ?_<;>intro hb|refine fd ?_|refine fun1 ?_|fail)))
theorem z_trades(a b:Bool){s:BStore}{d:BDay}{w w1 w2:Bool}{hr own fuel:Int}(hT:d.trades=[]):
 om'.call (.fn 105) [.ptr 0 0 0] (.live 19 false w [(rc s d hr (zg a) own fuel (zl a b) .nils .nils .nils .nils .nils)]::zb 1 w1 a (zb 1 w2 b []))=
  some (.ret (.tup []),.live 19 false w [(rc s d hr (zg a) own fuel (zl a b) .nils .nils .nils .nils .nils)]::zb 1 w1 a (zb 1 w2 b [])):=by
 have hz:d.trades.length=0:=by rw[hT];rfl
 cases a<;>cases b<;>simp only[zg,zi,zl,zb]
 all_goals (refine ce Tryz.func105 ?_;simp only[Tryz.f105];(have hb:=trivial;with_reducible repeat' (first|simp only[hb,Vc.down,seval,TY105.down,List.length_map,hz,Int.natCast_zero,Int.lt_irrefl,decide_false]|refine fsp ?_ ?_<;>intro hb|refine fd ?_|refine fun1 ?_|fail)))
theorem z_active{s:BStore}{d:BDay}(hs:s.cons=[]){fl w:Bool}{hr own fuel:Int}{gv lv ov wv av fv rv y:AV}(tl:Heap):
 om'.call (.sh 131) [.ptr 0 0 0,y] (.live 19 fl w [(rc s d hr gv own fuel lv ov wv av fv rv)]::tl)=some (.ret (.tup []),.live 19 fl w [(rc s d hr gv own fuel lv ov wv av fv rv)]::tl):=by
 have hz:s.cons.length=0:=by rw[hs];rfl
 (refine csh Tryz.func131 ?_;simp only[Tryz.f131];(have hb:=trivial;with_reducible repeat' (first|simp only[hb,Vc.down,seval,TY131.down,List.length_map,hz,Int.natCast_zero,Int.lt_irrefl,decide_false]|refine fsp ?_ ?_<;>intro hb|refine fd ?_|refine fun1 ?_|fail)))
theorem z_wants(a b:Bool){s:BStore}{d:BDay}{w w1 w2:Bool}{hr own fuel:Int}(hs:s.cons=[]):
 om'.call (.fn 106) [.ptr 0 0 0] (.live 19 false w [(rc s d hr (zg a) own fuel (zl a b) .nils .nils .nils .nils .nils)]::zb 1 w1 a (zb 1 w2 b []))=
  some (.ret (.tup []),.live 19 false true [(rc s d hr (zg a) own fuel (zl a b) .nils (.slr 1 (zi a b) 0 0) .nils .nils .nils)]::zb 1 w1 a (zb 1 w2 b [.live 1 true false []])):=by
 have hz:s.cons.length=0:=by rw[hs];rfl
 have ha:=fun gv lv wv y=>z_active (s:=s) (d:=d) hs (fl:=false) (w:=false) (hr:=hr) (own:=own) (fuel:=fuel) (gv:=gv) (lv:=lv) (ov:=.nils) (wv:=wv) (av:=.nils) (fv:=.nils) (rv:=.nils) (y:=y)
 cases a<;>cases b<;>simp only[zg,zi,zl,zb]
 all_goals (refine ce Tryz.func106 ?_;simp only[Tryz.f106];(have hb:=trivial;with_reducible repeat' (first|simp only[hb,Vc.down,seval,TY106.down,List.length_map,hz,Int.natCast_zero,Int.le_refl,Int.reducePow,Int.reduceLE,List.replicate_zero,Int.toNat_zero,ha]|refine fsp ?_ ?_<;>intro hb|refine fd ?_|refine fun1 ?_|fail)))
theorem z_bills(a b:Bool){s:BStore}{d:BDay}{w w1 w2 w3:Bool}{hr own fuel:Int}(hs:s.cons=[]):
 om'.call (.fn 110) [.ptr 0 0 0] (.live 19 false w [(rc s d hr (zg a) own fuel (zl a b) .nils (.slr 1 (zi a b) 0 0) .nils .nils .nils)]::zb 1 w1 a (zb 1 w2 b [.live 1 true w3 []]))=some (.ret (.tup []),.live 19 false w [(rc s d hr (zg a) own fuel (zl a b) .nils (.slr 1 (zi a b) 0 0) .nils .nils .nils)]::zb 1 w1 a (zb 1 w2 b [.live 1 true w3 []])):=by
 have ha:=fun gv lv wv y=>z_active (s:=s) (d:=d) hs (fl:=false) (w:=false) (hr:=hr) (own:=own) (fuel:=fuel) (gv:=gv) (lv:=lv) (ov:=.nils) (wv:=wv) (av:=.nils) (fv:=.nils) (rv:=.nils) (y:=y)
 cases a<;>cases b<;>simp only[zg,zi,zl,zb]
 all_goals (refine ce Tryz.func110 ?_;simp only[Tryz.f110];(have hb:=trivial;with_reducible repeat' (first|simp only[hb,Vc.down,seval,TY110.down,List.length_map,ha]|refine fsp ?_ ?_<;>intro hb|refine fd ?_|refine fun1 ?_|fail)))
theorem z_gas(a b:Bool){s:BStore}{d:BDay}{w w1 w2 w3:Bool}{hr own fuel:Int}:
 om'.call (.fn 109) [.ptr 0 0 0] (.live 19 false w [(rc s d hr (zg a) own fuel (zl a b) .nils (.slr 1 (zi a b) 0 0) .nils .nils .nils)]::zb 1 w1 a (zb 1 w2 b [.live 1 true w3 []]))=some (.ret (.tup []),.live 19 false w [(rc s d hr (zg a) own fuel (zl a b) .nils (.slr 1 (zi a b) 0 0) .nils .nils .nils)]::zb 1 w1 a (zb 1 w2 b [.live 1 true w3 []])):=by
 cases a<;>cases b<;>simp only[zg,zi,zl,zb]
 all_goals (refine ce Tryz.func109 ?_;simp only[Tryz.f109];(have hb:=trivial;with_reducible repeat' (first|simp only[hb,Vc.down,seval,TY109.down,List.length_nil,Int.natCast_zero,Int.lt_irrefl,decide_false]|refine fsp ?_ ?_<;>intro hb|refine fd ?_|refine fun1 ?_|fail)))
theorem z_hour{s:BStore}{d:BDay}{hr fuel:Int}{x:BHour}(h0:0≤hr)(hx:d.hours[hr.toNat]?=some x)(own:Int)(gv lv wv:AV)(tl:Heap):
 om'.call (.sh 133) [.ptr 0 0 0] (.live 19 false false [(rc s d hr gv own fuel lv .nils wv .nils .nils .nils)]::tl)=some (.ret (.agg x.cells),.live 19 false false [(rc s d hr gv own fuel lv .nils wv .nils .nils .nils)]::tl++[.live 4 true true [x.cells]]):=h_hour (b:=0) rfl h0 hx
theorem z_grants(a b:Bool){s:BStore}{d:BDay}{w w1 w2 w3:Bool}{hr own fuel:Int}{x:BHour}(h0:0≤hr)(hx:d.hours[hr.toNat]?=some x)(hi:0≤x.inn)(ho:0≤x.out):
 om'.call (.fn 107) [.ptr 0 0 0] (.live 19 false w [(rc s d hr (zg a) own fuel (zl a b) .nils (.slr 1 (zi a b) 0 0) .nils .nils .nils)]::zb 1 w1 a (zb 1 w2 b [.live 1 true w3 []]))=some (.ret (.tup []),.live 19 false true [(rc s d hr (zg a) own fuel (zl a b) .nils (.slr 1 (zi a b) 0 0) .nils .nils .nils)]::zb 1 w1 a (zb 1 w2 b [.live 1 true w3 []])):=by
 have g1:=e_grant_nil (s:=s) (nn:=true) hi ho
 rw[slv_true]at g1
 have hh:=z_hour (s:=s) (d:=d) (fuel:=fuel) h0 hx
 cases a<;>cases b<;>simp only[zg,zi,zl,zb]
 all_goals (refine ce Tryz.func107 ?_;simp only[Tryz.f107];(have hb:=trivial;with_reducible repeat' (first|simp only[hb,Vc.down,seval,TY107.down,hh,BHour.cells,g1,List.drop_nil,List.take_nil,List.length_nil]|refine fsp ?_ ?_<;>intro hb|refine fd ?_|fail)))
theorem z_flows(a b:Bool){s:BStore}{d:BDay}{w w1 w2 w3:Bool}{hr own fuel:Int}{x:BHour}(h0:0≤hr)(hx:d.hours[hr.toNat]?=some x):
 om'.call (.fn 108) [.ptr 0 0 0] (.live 19 false w [(rc s d hr (zg a) own fuel (zl a b) .nils (.slr 1 (zi a b) 0 0) .nils .nils .nils)]::zb 1 w1 a (zb 1 w2 b [.live 1 true w3 []]))=some (.ret (.tup []),.live 19 false true [(rc s d hr (zg a) (ownL [] x own) fuel (zl a b) .nils (.slr 1 (zi a b) 0 0) .nils .nils .nils)]::zb 1 w1 a (zb 1 w2 b [.live 1 true w3 []])):=by
 have g1:=e_sides_nil (nn:=false)
 rw[slv_nil]at g1
 have g2:=e_sum (l:=[]) (nn:=false) (by simp)
 rw[List.map_nil,slv_nil]at g2
 have g4:=fun amount=>e_shareC (amount:=amount) (l:=[]) (nn:=false) (g:=134) (w:=fun x=>x) (fun x _=>e_flows1 x) (by simp)
 simp only[List.map_nil,slv_nil,List.length_nil,List.nil_append,sumF,shareF]at g4 g2
 have g6:=e_joined' [] [] true true (by simp) (by simp) _ _ (fun _=>rfl) (fun h=>absurd rfl h)
 simp only[List.map_nil,slv_true]at g6
 have hh:=z_hour (s:=s) (d:=d) (fuel:=fuel) h0 hx
 cases a<;>cases b<;>simp only[zg,zi,zl,zb]
 all_goals
  (refine ce Tryz.func108 ?_;simp only[Tryz.f108];(have hb:=trivial;with_reducible repeat' (first|simp only[hb,Vc.down,seval,TY108.down,hh,BHour.cells,g1,g2,g4,g6,List.drop_nil,List.take_nil,List.length_nil,List.map_nil]|refine fsp ?_ ?_<;>intro hb|refine fd ?_|fail)))
  rfl
theorem e_cloneE:om'.call (.fn 102) [.imm 1 true []] []=some (.ret (.slr 1 0 0 0),[.live 1 true false []]):=by
 (refine ce Tryz.func102 ?_;simp only[Tryz.f102];(have hb:=trivial;with_reducible repeat' (first|simp only[hb,Vc.down,seval,TY102.down,List.length_nil]|refine fsp ?_ ?_<;>intro hb|refine fd ?_|fail)))
theorem e_cloneN:om'.call (.fn 102) [.nils] []=some (.ret .nils,[]):=by
 (refine ce Tryz.func102 ?_;simp only[Tryz.f102];(have hb:=trivial;with_reducible repeat' (first|simp only[hb,Vc.down,seval,TY102.down,List.length_nil]|refine fsp ?_ ?_<;>intro hb|refine fd ?_|fail)))
/-- What comes of an hour of a store without contracts. -/
def ZQ(hr own fuel:Int)(o:Out)(h:Heap):Prop:=∃w1 w2 w3:Bool,
 (o=.ret (.tup [.agg [.int .i64 hr,.nils,.int .i64 own,.int .i64 fuel,.nils,.nils],.agg [.slr 1 0 0 0,.nils,.nils,.nils]])∧h=[.live 1 true w3 []])∨
 (o=.ret (.tup [.agg [.int .i64 hr,.slr 1 0 0 0,.int .i64 own,.int .i64 fuel,.nils,.nils],.agg [.slr 1 1 0 0,.nils,.nils,.nils]])∧h=[.live 1 true w1 [],.live 1 true w3 []])∨
 (o=.ret (.tup [.agg [.int .i64 hr,.nils,.int .i64 own,.int .i64 fuel,.slr 1 0 0 0,.nils],.agg [.slr 1 1 0 0,.nils,.nils,.nils]])∧h=[.live 1 true w2 [],.live 1 true w3 []])∨
 (o=.ret (.tup [.agg [.int .i64 hr,.slr 1 0 0 0,.int .i64 own,.int .i64 fuel,.slr 1 1 0 0,.nils],.agg [.slr 1 2 0 0,.nils,.nils,.nils]])∧h=[.live 1 true w1 [],.live 1 true w2 [],.live 1 true w3 []])
structure ZOK(s:BStore)(d:BDay)(hr:Int)(x:BHour):Prop where
 con:s.cons=[]
 tr:d.trades=[]
 h0:0≤hr
 hx:d.hours[hr.toNat]?=some x
 inn:0≤x.inn
 out:0≤x.out
theorem e_stepZ0{s:BStore}{d:BDay}{x:BHour}{hr own fuel:Int}{nG nL nO:Bool}(K:ZOK s d hr x):
 ClQ om' 64 [.agg s.cells,.agg [.int .i64 hr,slv 1 true nG [],.int .i64 own,.int .i64 fuel,slv 1 true nL [],slv 5 true nO []],.agg d.cells] [] (ZQ (IntKind.i64.wrap (hr+1)) (ownL [] x own) fuel):=by
 have k1:=z_loans nG nL nO (s:=s) (d:=d) (fl:=false) (w:=false) (w1:=false) (w2:=false) (w3:=false) (hr:=hr) (own:=own) (fuel:=fuel)
 have k2:=z_trades nG nL (s:=s) (w:=false) (w1:=false) (w2:=false) (hr:=hr) (own:=own) (fuel:=fuel) K.tr
 have k3:=z_wants nG nL (d:=d) (w:=false) (w1:=false) (w2:=false) (hr:=hr) (own:=own) (fuel:=fuel) K.con
 have k4:=z_grants nG nL (s:=s) (w:=false) (w1:=false) (w2:=false) (w3:=false) (own:=own) (fuel:=fuel) K.h0 K.hx K.inn K.out
 have k5:=z_flows nG nL (s:=s) (w:=false) (w1:=false) (w2:=false) (w3:=false) (own:=own) (fuel:=fuel) K.h0 K.hx
 have k6:=z_gas nG nL (s:=s) (d:=d) (w:=false) (w1:=false) (w2:=false) (w3:=false) (hr:=hr) (own:=ownL [] x own) (fuel:=fuel)
 have k7:=z_bills nG nL (d:=d) (w:=false) (w1:=false) (w2:=false) (w3:=false) (hr:=hr) (own:=ownL [] x own) (fuel:=fuel) K.con
 have b5:=bld_7 5
 have b6:=bld_7 6
 have b7:=bld_7 7
 have b8:=bld_7 8
 simp only[fnV,fnL,List.map_cons,List.map_nil]at b5 b6 b7 b8
 have c0:=e_cloneE
 have c1:=e_cloneN
 have c2:=e_cloneTrN
 have c3:=e_cloneTr (l:=[]) (nn:=true) (by simp) (by simp)
 simp only[List.map_nil,slv_true,List.length_nil,BDay.cells]at *
 cases nG<;>cases nL<;>cases nO<;>simp only[slv_nil,slv_true,zg,zi,zl,zo,zb]at *
 all_goals
  refine stOf rfl Tryz.func64 rfl rfl ?_
  simp only[Tryz.f64]
  (have hb:=trivial;with_reducible repeat' (first|simp only[hb,Vc.down,seval,TY64.down,c0,c1,c2,c3,wrap_of,ix_7,b5,b6,b7,b8,k1,k2,k3,k4,k5,k6,k7]|refine fsp ?_ ?_<;>intro hb|refine fd ?_|refine fun1 ?_|fail))
  first
  |exact⟨false,false,_,.inl ⟨rfl,rfl⟩⟩
  |exact⟨_,false,_,.inr (.inl ⟨rfl,rfl⟩)⟩
  |exact⟨false,_,_,.inr (.inr (.inl ⟨rfl,rfl⟩))⟩
  |exact⟨_,_,_,.inr (.inr (.inr ⟨rfl,rfl⟩))⟩
theorem trade_n0{t:BTrade}:tradeB 0 t=false:=by
 rw[←Bool.not_eq_true]
 intro h
 have T:=(trade_ok (n:=0) (by omega) (t:=t) (by simpa using h)).1
 have t1:=T.1.1;have t2:=T.1.2
 omega
/-- A store without contracts: nothing in the state, no trades. -/
theorem emptyS{s:BStore}{y:BState}{d:BDay}(h2:stateB s y=true)(h3:dayB s.cons.length d=true)(he:s.cons=[]):y.gas=[]∧y.bills=[]∧y.owed=[]∧d.trades=[]:=by
 simp only[stateB,preB,inB,Bool.and_eq_true,decide_eq_true_eq,List.all_eq_true]at h2
 obtain⟨⟨⟨⟨⟨⟨⟨p1,p2⟩,_⟩,_⟩,_⟩,_⟩,_⟩,p7⟩:=h2
 simp only[dayB,Bool.and_eq_true,decide_eq_true_eq,List.all_eq_true]at h3
 obtain⟨_,d6⟩:=h3
 rw[he]at p1 p2 p7 d6
 refine⟨List.length_eq_zero_iff.1 p1,List.length_eq_zero_iff.1 p2,?_,?_⟩
 ·refine List.eq_nil_iff_forall_not_mem.2 fun t ht=>?_
  have:=p7 t ht
  simp only[owedB,Bool.and_eq_true,List.length_nil,Int.ofNat_zero]at this
  have q:=this.1.1
  simp only[show((0:Nat):Int)=0 from rfl,trade_n0]at q
  cases q
 ·refine List.eq_nil_iff_forall_not_mem.2 fun t ht=>?_
  have:=d6 t ht
  simp only[List.length_nil,show((0:Nat):Int)=0 from rfl,trade_n0]at this
  cases this
theorem zOK{s:BStore}{d:BDay}{x:BHour}{y:BState}(h2:stateB s y=true)(h3:dayB s.cons.length d=true)(he:s.cons=[])(hx:d.hours[y.hour.toNat]?=some x):ZOK s d y.hour x:=by
 obtain⟨_,_,_,e4⟩:=emptyS h2 h3 he
 simp only[stateB,preB,inB,Bool.and_eq_true,decide_eq_true_eq]at h2
 obtain⟨⟨⟨⟨⟨⟨⟨_,_⟩,p3⟩,_⟩,_⟩,_⟩,_⟩,_⟩:=h2
 simp only[dayB,hourB,inB,Bool.and_eq_true,decide_eq_true_eq,List.all_eq_true]at h3
 obtain⟨⟨⟨_,d4⟩,_⟩,_⟩:=h3
 have D:=d4 x (List.mem_of_getElem? hx)
 exact⟨he,e4,p3.1,hx,D.1.1.1.1,D.1.1.2.1⟩
theorem e_stepZ{s:BStore}{d:BDay}{x:BHour}{y:BState}(K:ZOK s d y.hour x)(hG:y.gas=[])(hL:y.bills=[])(hO:y.owed=[]):
 ClQ om' 64 [.agg s.cells,.agg y.cells,.agg d.cells] [] (ZQ (IntKind.i64.wrap (y.hour+1)) (ownL [] x y.own) y.fuel):=by
 obtain⟨hr,nG,gas,own,fuel,nL,bills,nO,owed⟩:=y
 simp only at hG hL hO
 subst hG hL hO
 simp only[BDay.cells]at *
 exact e_stepZ0 K
theorem e_StepZ{s:BStore}{d:BDay}{x:BHour}{y:BState}(hs:s.small)(hd:d.small)(hy:y.small)(h1:storeB s=true)(h2:stateB s y=true)(h3:dayB s.cons.length d=true)(he:s.cons=[])(hx:d.hours[y.hour.toNat]?=some x):
 ClQ om' 40 [.agg s.cells,.agg y.cells,.agg d.cells] []
  (fun o h=>∃o',o=o3 o'∧ZQ (IntKind.i64.wrap (y.hour+1)) (ownL [] x y.own) y.fuel o' h):=by
 have c1:=e_store s hs
 have c2:=e_state s hs y hy
 have c3:=e_day d hd s.cons.length
 simp only[BDay.cells]at c3
 rw[h1]at c1
 rw[h2]at c2
 rw[h3]at c3
 obtain⟨hG,hL,hO,_⟩:=emptyS h2 h3 he
 have K:=zOK h2 h3 he hx
 have hlt:=(List.getElem?_eq_some_iff.1 hx).1
 have h0:=K.h0
 have c4:decide ((d.hours.length:Int)≤y.hour)=false:=decide_eq_false (by omega)
 obtain⟨o,h',e,w1,w2,w3,hq⟩:=e_stepZ K hG hL hO
 simp only[BDay.cells]at e
 rcases hq with⟨rfl,rfl⟩|⟨rfl,rfl⟩|⟨rfl,rfl⟩|⟨rfl,rfl⟩<;>(
  refine stOf rfl Tryz.func40 rfl rfl ?_
  simp only[Tryz.f40]
  (have hb:=trivial;with_reducible repeat' (first|simp only[hb,Vc.down,seval,TY40.down,BDay.cells,c1,c2,c3,c4,e,List.length_map]|refine fsp ?_ ?_<;>intro hb|refine fd ?_|fail)))
 ·exact⟨_,rfl,w1,w2,w3,.inl ⟨rfl,rfl⟩⟩
 ·exact⟨_,rfl,w1,w2,w3,.inr (.inl ⟨rfl,rfl⟩)⟩
 ·exact⟨_,rfl,w1,w2,w3,.inr (.inr (.inl ⟨rfl,rfl⟩))⟩
 ·exact⟨_,rfl,w1,w2,w3,.inr (.inr (.inr ⟨rfl,rfl⟩))⟩
theorem r_Copy0{hr own fuel:Int}(a b c:Bool):
 om'.call (.fn 115) [.agg [.int .i64 hr,slv 1 true a [],.int .i64 own,.int .i64 fuel,slv 1 true b [],slv 5 true c []]] []=some (.ret (.agg [.int .i64 hr,.nils,.int .i64 own,.int .i64 fuel,.nils,.nils]),[]):=by
 cases a<;>cases b<;>cases c<;>((refine ce Tryz.func115 ?_;simp only[Tryz.f115];(have hb:=trivial;with_reducible repeat' (first|simp only[hb,Vc.down,seval,TY115.down,slv_nil,slv_true,List.length_nil]|refine fsp ?_ ?_<;>intro hb|refine fd ?_|fail))))
theorem r_returned0{s:BStore}{hr own fuel:Int}(a b c:Bool):
 ClQ om' 75 [.agg s.cells,.agg [.int .i64 hr,slv 1 true a [],.int .i64 own,.int .i64 fuel,slv 1 true b [],slv 5 true c []]] []
  fun o h'=>o=.ret (.agg [.int .i64 hr,.nils,.int .i64 own,.int .i64 fuel,.nils,.nils])∧h'=[]:=by
 have c1:=r_Copy0 (hr:=hr) (own:=own) (fuel:=fuel) a b c
 refine stOf rfl Tryz.func75 rfl rfl ?_
 simp only[Tryz.f75]
 (have hb:=trivial;with_reducible repeat' (first|simp only[hb,Vc.down,seval,TY75.down,c1,List.length_nil]|refine fsp ?_ ?_<;>intro hb|refine fd ?_|fail))
 refine fw_ot (lst 127 ([]:List BTrade) (fun i (zz:Unit) t h=>t 2=.ptr 0 0 0∧t 3=.ptr 1 0 0∧t 4=.ptr 2 0 0∧t 5=.ptr 3 0 0∧t 6=.int .i64 i∧(∃g,h=.live 6 false false [s.cells]::.live 6 false false [[.int .i64 hr,slv 1 true a [],.int .i64 own,.int .i64 fuel,slv 1 true b [],slv 5 true c []]]::.live 6 false false [[.int .i64 0,.nils,.int .i64 0,.int .i64 0,.nils,.nils]]::.live 6 false true [[.int .i64 hr,.nils,.int .i64 own,.int .i64 fuel,.nils,.nils]]::g)) (fun rest zz=>()) (fun r e t h=>e=.exit 0∧t 4=.ptr 2 0 0∧t 5=.ptr 3 0 0∧(∃g,h=.live 6 false false [s.cells]::.live 6 false false [[.int .i64 hr,slv 1 true a [],.int .i64 own,.int .i64 fuel,slv 1 true b [],slv 5 true c []]]::.live 6 false false [[.int .i64 0,.nils,.int .i64 0,.int .i64 0,.nils,.nils]]::.live 6 false true [[.int .i64 hr,.nils,.int .i64 own,.int .i64 fuel,.nils,.nils]]::g)) ?_ ?_ () _ _ ?_) (fun e t h hk=>?_)
 ·rintro _ t h Q' kQ ⟨h2,h3,h4,h5,h6,⟨g,rfl⟩⟩
  (have hb:=trivial;with_reducible repeat' (first|simp only[hb,Vc.down,seval,TY75.down,h2,h3,h4,h5,h6,Int.lt_irrefl,decide_false,List.length_nil,Int.natCast_zero]|refine fsp ?_ ?_<;>intro hb|refine fd ?_|fail))
  exact kQ _ _ _ ⟨rfl,by simp[up,h4],by simp[up,h5],g,rfl⟩
 ·rintro x rest i _ t h J Q' kJ kQ hx hi ⟨h2,h3,h4,h5,h6,⟨g,rfl⟩⟩
  have hd:decide ((i:Int)<(([]:List BTrade).length:Int))=true:=decide_eq_true (by omega)
  have hw:=wrap_next hi (by simp[maxLen])
  cases hx
 ·exact⟨by simp[up,ent],by simp[up,ent],by simp[up,ent],by simp[up,ent],by simp[up],⟨[],rfl⟩⟩
 ·obtain⟨rfl,h4,h5,g,rfl⟩:=hk
  (have hb:=trivial;with_reducible repeat' (first|simp only[hb,Vc.down,seval,TY75.down,h4,h5]|refine fsp ?_ ?_<;>intro hb|refine fd ?_|fail))
  all_goals exact⟨rfl,rfl⟩
theorem r_traded0{s:BStore}{d:BDay}(hT:d.trades=[]){hr own fuel:Int}:
 ClQ om' 74 [.agg s.cells,.agg [.int .i64 hr,.nils,.int .i64 own,.int .i64 fuel,.nils,.nils],.agg d.cells] []
  fun o h'=>o=.ret (.tup [.agg [.int .i64 hr,.nils,.int .i64 own,.int .i64 fuel,.nils,.nils],.nils])∧h'=[]:=by
 have c1:=r_Copy0 (hr:=hr) (own:=own) (fuel:=fuel) false false false
 simp only[slv_nil]at c1
 refine stOf rfl Tryz.func74 rfl rfl ?_
 simp only[Tryz.f74]
 (have hb:=trivial;with_reducible repeat' (first|simp only[hb,Vc.down,seval,TY74.down,c1,List.length_nil]|refine fsp ?_ ?_<;>intro hb|refine fd ?_|fail))
 refine fw_ot (lst 113 d.trades (fun i (zz:Unit) t h=>t 3=.ptr 0 0 0∧t 4=.ptr 1 0 0∧t 5=.ptr 2 0 0∧t 6=.ptr 3 0 0∧t 8=.ptr 4 0 0∧t 9=.nils∧t 10=.int .i64 i∧(∃g,h=.live 6 false false [s.cells]::.live 6 false false [[.int .i64 hr,.nils,.int .i64 own,.int .i64 fuel,.nils,.nils]]::.live 3 false false [d.cells]::.live 6 false false [[.int .i64 0,.nils,.int .i64 0,.int .i64 0,.nils,.nils]]::.live 6 false true [[.int .i64 hr,.nils,.int .i64 own,.int .i64 fuel,.nils,.nils]]::g)) (fun rest zz=>()) (fun r e t h=>e=.exit 0∧t 6=.ptr 3 0 0∧t 8=.ptr 4 0 0∧t 9=.nils∧(∃g,h=.live 6 false false [s.cells]::.live 6 false false [[.int .i64 hr,.nils,.int .i64 own,.int .i64 fuel,.nils,.nils]]::.live 3 false false [d.cells]::.live 6 false false [[.int .i64 0,.nils,.int .i64 0,.int .i64 0,.nils,.nils]]::.live 6 false true [[.int .i64 hr,.nils,.int .i64 own,.int .i64 fuel,.nils,.nils]]::g)) ?_ ?_ () _ _ ?_) (fun e t h hk=>?_)
 ·rintro _ t h Q' kQ ⟨h3,h4,h5,h6,h8,h9,h10,⟨g,rfl⟩⟩
  (have hb:=trivial;with_reducible repeat' (first|simp only[hb,Vc.down,seval,TY74.down,h3,h4,h5,h6,h8,h9,h10,Int.lt_irrefl,decide_false]|refine fsp ?_ ?_<;>intro hb|refine fd ?_|fail))
  exact kQ _ _ _ ⟨rfl,by simp[up,h6],by simp[up,h8],by simp[up,h9],g,rfl⟩
 ·rintro x rest i _ t h J Q' kJ kQ hx hi ⟨h3,h4,h5,h6,h8,h9,h10,⟨g,rfl⟩⟩
  have hd:decide ((i:Int)<(d.trades.length:Int))=true:=decide_eq_true (by omega)
  have hw:=wrap_next hi (by rw[hT];simp[maxLen])
  exact absurd hx (by rw[hT];simp)
 ·exact⟨by simp[up,ent],by simp[up,ent],by simp[up,ent],by simp[up,ent],by simp[up,ent],by simp[up,ent],by simp[up],⟨[],rfl⟩⟩
 ·obtain⟨rfl,h6,h8,h9,g,rfl⟩:=hk
  (have hb:=trivial;with_reducible repeat' (first|simp only[hb,Vc.down,seval,TY74.down,h6,h8,h9]|refine fsp ?_ ?_<;>intro hb|refine fd ?_|fail))
  all_goals exact⟨rfl,rfl⟩
theorem r_Wants0{s:BStore}{d:BDay}(hC:s.cons=[]){hr own fuel:Int}:
 ClQ om' 76 [.agg s.cells,.agg [.int .i64 hr,.nils,.int .i64 own,.int .i64 fuel,.nils,.nils],.agg d.cells] []
  fun o h'=>o=.ret .nils∧h'=[]:=by
 refine stOf rfl Tryz.func76 rfl rfl ?_
 simp only[Tryz.f76]
 (have hb:=trivial;with_reducible repeat' (first|simp only[hb,Vc.down,seval,TY76.down,List.length_nil]|refine fsp ?_ ?_<;>intro hb|refine fd ?_|fail))
 refine fw_ot (lst 80 s.cons (fun i (zz:Unit) t h=>t 3=.ptr 0 0 0∧t 4=.ptr 1 0 0∧t 5=.ptr 2 0 0∧t 7=.nils∧t 8=.int .i64 i∧(∃g,h=.live 6 false false [s.cells]::.live 6 false false [[.int .i64 hr,.nils,.int .i64 own,.int .i64 fuel,.nils,.nils]]::.live 3 false false [d.cells]::g)) (fun rest zz=>()) (fun r e t h=>e=.exit 0∧t 7=.nils) ?_ ?_ () _ _ ?_) (fun e t h hk=>?_)
 ·rintro _ t h Q' kQ ⟨h3,h4,h5,h7,h8,⟨g,rfl⟩⟩
  (have hb:=trivial;with_reducible repeat' (first|simp only[hb,Vc.down,seval,TY76.down,h3,h4,h5,h7,h8,Int.lt_irrefl,decide_false]|refine fsp ?_ ?_<;>intro hb|refine fd ?_|fail))
  exact kQ _ _ _ ⟨rfl,by simp[up,h7]⟩
 ·rintro x rest i _ t h J Q' kJ kQ hx hi ⟨h3,h4,h5,h7,h8,⟨g,rfl⟩⟩
  have hd:decide ((i:Int)<(s.cons.length:Int))=true:=decide_eq_true (by omega)
  have hw:=wrap_next hi (by rw[hC];simp[maxLen])
  exact absurd hx (by rw[hC];simp)
 ·exact⟨by simp[up,ent],by simp[up,ent],by simp[up,ent],by simp[up,ent],by simp[up],⟨[],rfl⟩⟩
 ·obtain⟨rfl,h7⟩:=hk
  (have hb:=trivial;with_reducible repeat' (first|simp only[hb,Vc.down,seval,TY76.down,h7]|refine fsp ?_ ?_<;>intro hb|refine fd ?_|fail))
  all_goals exact⟨rfl,rfl⟩
theorem r_StepZ{s:BStore}{d:BDay}{z:BHour}{hr own fuel:Int}(a b c:Bool)(K:ZOK s d hr z):
 ClQ om' 42 [.agg s.cells,.agg [.int .i64 hr,slv 1 true a [],.int .i64 own,.int .i64 fuel,slv 1 true b [],slv 5 true c []],.agg d.cells] []
  fun o h'=>o=.ret (.tup [.agg [.int .i64 (IntKind.i64.wrap (hr+1)),.nils,.int .i64 (ROwn z [] own),.int .i64 fuel,.nils,.nils],.agg [.nils,.nils,.nils,.nils]])∧h'=[]:=by
 obtain⟨_,_,e1,rfl,rfl⟩:=r_returned0 (s:=s) (hr:=hr) (own:=own) (fuel:=fuel) a b c
 obtain⟨_,_,e2,rfl,rfl⟩:=r_traded0 (s:=s) (hr:=hr) (own:=own) (fuel:=fuel) K.tr
 obtain⟨_,_,e3,rfl,rfl⟩:=r_Wants0 (s:=s) (d:=d) (hr:=hr) (own:=own) (fuel:=fuel) K.con
 have e4:=r_Grant_nil (s:=s) (nn:=false) K.inn K.out
 have g3:=r_In' [] false (by simp) _ _ (fun _=>rfl) (fun e=>(e rfl).elim)
 have g4:=r_Out' [] false (by simp) _ _ (fun _=>rfl) (fun e=>(e rfl).elim)
 have g5:=r_Sum (l:=[]) (nn:=false) (by simp[maxLen])
 have g7:=fun m=>r_Share' m [] false (by simp) _ _ (fun _=>rfl) (fun e=>(e rfl).elim)
 have g9:=r_both' [] [] false false (by simp) (by simp) _ _ (fun _=>rfl) (fun e=>(e rfl).elim)
 simp only[List.map_nil,slv_nil]at g3 g4 g5 g7 g9 e4
 have h0':(0≤hr)=True:=eq_true K.h0
 have hz:=K.hx
 have m1:∀a b:Int,(if b<a then b else a)=mn a b:=fun _ _=>rfl
 refine stOf rfl Tryz.func42 rfl rfl ?_
 simp only[Tryz.f42]
 (have hb:=trivial;with_reducible repeat' (first|simp only[hb,Vc.down,seval,TY42.down,BDay.cells,BHour.cells,e1,e2,e3,e4,g3,g4,g5,g7,g9,h0',hz,m1,List.length_nil,List.length_map]|refine fsp ?_ ?_<;>intro hb|refine fdl ?_|fail))
 refine fw_ot (lst 204 ([]:List Int) (fun i (zz:Unit) t h=>t 6=.ptr 3 0 0∧t 7=.ptr 4 0 0∧t 8=.ptr 5 0 0∧t 9=.nils∧t 11=.nils∧t 12=.nils∧t 15=.nils∧t 16=.int .i64 i∧(∃g,h=.live 6 false false [s.cells]::.live 6 false false [[.int .i64 hr,slv 1 true a [],.int .i64 own,.int .i64 fuel,slv 1 true b [],slv 5 true c []]]::.live 3 false false [d.cells]::.live 6 false false [[.int .i64 0,.nils,.int .i64 0,.int .i64 0,.nils,.nils]]::.live 4 false false [[.nils,.nils,.nils,.nils]]::.live 6 false true [[.int .i64 hr,.nils,.int .i64 (ROwn z [] own),.int .i64 fuel,.nils,.nils]]::g)) (fun rest zz=>()) (fun r e t h=>e=.exit 0∧t 6=.ptr 3 0 0∧t 7=.ptr 4 0 0∧t 8=.ptr 5 0 0∧t 9=.nils∧t 11=.nils∧t 12=.nils∧t 15=.nils∧(∃g,h=.live 6 false false [s.cells]::.live 6 false false [[.int .i64 hr,slv 1 true a [],.int .i64 own,.int .i64 fuel,slv 1 true b [],slv 5 true c []]]::.live 3 false false [d.cells]::.live 6 false false [[.int .i64 0,.nils,.int .i64 0,.int .i64 0,.nils,.nils]]::.live 4 false false [[.nils,.nils,.nils,.nils]]::.live 6 false true [[.int .i64 hr,.nils,.int .i64 (ROwn z [] own),.int .i64 fuel,.nils,.nils]]::g)) ?_ ?_ () _ _ ?_) (fun e t h hk=>?_)
 ·rintro _ t h Q' kQ ⟨h6,h7,h8,h9,h11,h12,h15,h16,⟨g,rfl⟩⟩
  (have hb:=trivial;with_reducible repeat' (first|simp only[hb,Vc.down,seval,TY42.down,h6,h7,h8,h9,h11,h12,h15,h16,Int.lt_irrefl,decide_false,List.length_nil,Int.natCast_zero]|refine fsp ?_ ?_<;>intro hb|refine fd ?_|fail))
  exact kQ _ _ _ ⟨rfl,by simp[up,h6],by simp[up,h7],by simp[up,h8],by simp[up,h9],by simp[up,h11],by simp[up,h12],by simp[up,h15],g,rfl⟩
 ·rintro x rest i _ t h J Q' kJ kQ hx hi ⟨h6,h7,h8,h9,h11,h12,h15,h16,⟨g,rfl⟩⟩
  have hd:decide ((i:Int)<(([]:List Int).length:Int))=true:=decide_eq_true (by omega)
  have hw:=wrap_next hi (by simp[maxLen])
  cases hx
 ·exact⟨by simp[up,ent],by simp[up,ent],by simp[up,ent],by simp[up,ent],by simp[up,ent],by simp[up,ent],by simp[up,ent],by simp[up],⟨_,rfl⟩⟩
 ·obtain⟨rfl,h6,h7,h8,h9,h11,h12,h15,g,rfl⟩:=hk
  (have hb:=trivial;with_reducible repeat' (first|simp only[hb,Vc.down,seval,TY42.down,h6,h7,h8,h9,h11,h12,h15]|refine fsp ?_ ?_<;>intro hb|refine fd ?_|fail))
  all_goals exact⟨rfl,rfl⟩
theorem tradesF_few(cs:List BCon)(hr:Int):∀(T:List BTrade) (i:Nat) (G:List Int) (O:List BTrade) (R:List Int),(tradesF cs hr T i (G,O,R)).2.1.length≤O.length+T.length∧(tradesF cs hr T i (G,O,R)).2.2.length≤R.length+T.length
 | [],_,_,_,_=>by simp[tradesF]
 |t::T,i,G,O,R=>by
  simp only[tradesF,List.length_cons]
  split
  ·split
   ·have:=tradesF_few cs hr T (i+1) G O (R++[(i:Int)])
    simp only[List.length_append,List.length_cons,List.length_nil]at this
    omega
   ·have:=tradesF_few cs hr T (i+1) (tradeG t G) (if(t.back== -1)=true then O else O++[t]) R
    have:(if(t.back== -1)=true then O else O++[t]).length≤O.length+1:=by split<;>simp
    omega
  ·have:=tradesF_few cs hr T (i+1) G O R
   omega
theorem w_StepsZ(hk:om'.call (.fn 15) [] []=some (.ret (.bool true),[]))(s:BStore)(hs:s.small)(y:BState)(hy:y.small)(d:BDay)(hd:d.small)(h:stepsG s y d=true)(v1:storeB s=true)(v2:stateB s y=true)(v3:dayB s.cons.length d=true)(hh:¬(d.hours.length:Int)≤y.hour)(he:s.cons=[]){z:BHour}(hz:d.hours[y.hour.toNat]?=some z):
 om'.call (.fn 11) [.agg s.cells,.agg y.cells,.agg d.cells] []=some (.ret (.bool true),[]):=by
 obtain⟨g1,g2,g3,g4,g5⟩:=stepsG_on h
 have h1:=w_short (nn:=s.nn) hs.cons
 have h2:=w_few d
 rw[g1]at h1
 rw[g2]at h2
 have c1:=r_Store s hs
 have c2:=r_State s hs y hy
 have c3:=r_Day d hd s.cons.length
 rw[v1]at c1
 rw[v2]at c2
 rw[v3]at c3
 have c6:decide ((d.hours.length:Int)≤y.hour)=false:=decide_eq_false hh
 obtain⟨eG,eL,eO,_⟩:=emptyS v2 v3 he
 have eown:ownL [] z y.own=ROwn z [] y.own:=by
  have hzb:=v3
  simp only[dayB,hourB,inB,Bool.and_eq_true,decide_eq_true_eq,List.all_eq_true]at hzb
  have D:=hzb.1.1.2 z (List.mem_of_getElem? hz)
  have p:=v2
  simp only[stateB,preB,inB,Bool.and_eq_true,decide_eq_true_eq]at p
  exact(own_eq (A:=[]) (by simp) (by simp) D.1.2 D.2 (by omega)).1
 obtain⟨o1,k1,e1,o1',rfl,w1,w2,w3,q1⟩:=e_StepZ hs hd hy v1 v2 v3 he hz
 obtain⟨_,_,e2,rfl,rfl⟩:=r_StepZ (s:=s) (d:=d) (z:=z) (own:=y.own) (fuel:=y.fuel) y.nG y.nL y.nO (zOK v2 v3 he hz)
 have bO:∀a b:Bool,_:=fun a b=>r_SameState (hr:=IntKind.i64.wrap (y.hour+1)) (own:=ROwn z [] y.own) (fuel:=y.fuel) (G:=[]) (L:=[]) (O:=[]) (g1:=a) (g2:=false) (l1:=b) (l2:=false) (o1:=false) (o2:=false) (by simp) (by simp) (by simp)
 have bF:=r_SameFlow (W:=[]) (A:=[]) (F:=[]) (R:=[]) (w1:=true) (w2:=false) (a1:=false) (a2:=false) (f1:=false) (f2:=false) (r1:=false) (r2:=false) (by simp) (by simp) (by simp) (by simp)
 simp only[List.map_nil,slv_true,slv_nil]at bF bO
 rw[eown]at q1
 have zG:slv 1 true y.nG (y.gas.map iv)=slv 1 true y.nG []:=by rw[eG];rfl
 have zL:slv 1 true y.nL (y.bills.map iv)=slv 1 true y.nL []:=by rw[eL];rfl
 have zO:slv 5 true y.nO (y.owed.map BTrade.cells)=slv 5 true y.nO []:=by rw[eO];rfl
 rw[eG]at g3
 rw[eL]at g4
 rw[eO]at g5
 simp only[BState.cells]at c2 e1 ⊢
 rw[zG,zL,zO]at c2 e1 ⊢
 simp only[BDay.cells]at h2 c3 e1 e2
 rcases q1 with⟨rfl,rfl⟩|⟨rfl,rfl⟩|⟨rfl,rfl⟩|⟨rfl,rfl⟩<;>simp only[o3]at e1
 ·have cS:=bO false false
  simp only[slv_true,slv_nil]at cS
  (refine ce Tryz.func11 ?_;simp only[Tryz.f11];(have hb:=trivial;with_reducible repeat' (first|simp only[hb,Vc.down,seval,TY11.down,BDay.cells,h1,h2,g3,g4,g5,e1,e2,c1,c2,c3,c6,cS,bF,hk,List.length_map,i_eqself,Int.reduceBEq,List.take_nil]|refine fsp ?_ ?_<;>intro hb|refine fdl ?_|fail)))
 ·have cS:=bO true false
  simp only[slv_true,slv_nil]at cS
  (refine ce Tryz.func11 ?_;simp only[Tryz.f11];(have hb:=trivial;with_reducible repeat' (first|simp only[hb,Vc.down,seval,TY11.down,BDay.cells,h1,h2,g3,g4,g5,e1,e2,c1,c2,c3,c6,cS,bF,hk,List.length_map,i_eqself,Int.reduceBEq,List.take_nil]|refine fsp ?_ ?_<;>intro hb|refine fdl ?_|fail)))
 ·have cS:=bO false true
  simp only[slv_true,slv_nil]at cS
  (refine ce Tryz.func11 ?_;simp only[Tryz.f11];(have hb:=trivial;with_reducible repeat' (first|simp only[hb,Vc.down,seval,TY11.down,BDay.cells,h1,h2,g3,g4,g5,e1,e2,c1,c2,c3,c6,cS,bF,hk,List.length_map,i_eqself,Int.reduceBEq,List.take_nil]|refine fsp ?_ ?_<;>intro hb|refine fdl ?_|fail)))
 ·have cS:=bO true true
  simp only[slv_true,slv_nil]at cS
  (refine ce Tryz.func11 ?_;simp only[Tryz.f11];(have hb:=trivial;with_reducible repeat' (first|simp only[hb,Vc.down,seval,TY11.down,BDay.cells,h1,h2,g3,g4,g5,e1,e2,c1,c2,c3,c6,cS,bF,hk,List.length_map,i_eqself,Int.reduceBEq,List.take_nil]|refine fsp ?_ ?_<;>intro hb|refine fdl ?_|fail)))
theorem w_BookSteps(hk:om'.call (.fn 15) [] []=some (.ret (.bool true),[]))(s:BStore)(hs:s.small)(y:BState)(hy:y.small)(d:BDay)(hd:d.small):
 om'.call (.fn 11) [.agg s.cells,.agg y.cells,.agg d.cells] []=some (.ret (.bool true),[]):=by
 cases h:stepsG s y d with
 |false=>exact w_Steps0 hk s hs y d h
 |true=>
  cases hv:(storeB s&&stateB s y&&dayB s.cons.length d)with
  |false=>exact w_StepsE hk s hs y hy d hd h hv
  |true=>
   obtain⟨v1,v2,v3⟩:storeB s=true∧stateB s y=true∧dayB s.cons.length d=true:=by
    simp only[Bool.and_eq_true]at hv;exact⟨hv.1.1,hv.1.2,hv.2⟩
   by_cases hh:(d.hours.length:Int)≤y.hour
   ·exact w_StepsL hk s hs y hy d hd h v1 v2 v3 hh
   ·have h0:0≤y.hour:=by
     have p:=v2
     simp only[stateB,preB,inB,Bool.and_eq_true,decide_eq_true_eq]at p
     omega
    have hlt:y.hour.toNat<d.hours.length:=by omega
    have hz:=List.getElem?_eq_getElem hlt
    generalize d.hours[y.hour.toNat]=z at hz
    by_cases he:s.cons=[]
    ·exact w_StepsZ hk s hs y hy d hd h v1 v2 v3 hh he hz
    ·have I:=stI v1 v2
     obtain⟨K,_,_⟩:=hourOK v1 v2 v3 he hz
     have E:=hourEq (fuel:=y.fuel) v1 v3 (by omega) I hz
     have hl8:=(storeOK v1).len
     have q2:(L1 s y.hour y.gas y.bills y.owed).length=s.cons.length:=E.l1.1
     have q3:(T2 s d y.hour y.gas y.bills y.owed).1.length=s.cons.length:=E.g2.len
     have q4:(W3 s d y.hour y.gas y.bills y.owed).length=s.cons.length:=by rw[←E.rw];unfold RW;rw[wantsRF_length]
     have q5:(A4 s d y.hour z y.gas y.bills y.owed).length=s.cons.length:=by rw[←E.ra];unfold RA;rw[E.rw];simp[grantAll,grantR_length,q4]
     have q6:(F5 s d y.hour z y.gas y.bills y.owed).length=s.cons.length:=by unfold F5 flowsL shareL;simp[shareF_len,q5]
     have hO1:(O1 s y.hour y.gas y.bills y.owed).length≤50:=by
      have:=List.length_filter_le (fun t:BTrade=>decide (t.back≠y.hour)) y.owed
      have:=I.olen
      unfold O1
      rw[loansF_left,List.nil_append]
      omega
     have ht:=tradesF_few s.cons y.hour d.trades 0 (G1 s y.hour y.gas y.bills y.owed) (O1 s y.hour y.gas y.bills y.owed) []
     have h50:d.trades.length≤50:=by
      have p:=v3
      simp only[dayB,Bool.and_eq_true,decide_eq_true_eq]at p
      omega
     rw[List.length_nil]at ht
     refine w_StepsV hk s hs y hy d hd h v1 v2 v3 hh (by omega) ?_ ?_ q4 q5 q6 ?_ ?_ (e_StepV hs hd hy v1 v2 v3 he hz) (r_StepV v1 v3 (by omega) I K)
     ·unfold G6;rw[gasF_length,q3]
     ·unfold L7;rw[bills_length,q2]
     ·show(tradesF _ _ _ _ _).2.1.length≤1000;omega
     ·show(tradesF _ _ _ _ _).2.2.length≤1000;omega
theorem ty_trade{n:Nat}{r:List AV}(h:Ty Tryz.prog (n+2) 111 r):∃x:BTrade,r=x.cells∧True:=by
 unfold Ty at h
 simp only[Tryz.underlying111,TyFs]at h
 obtain⟨a,b,rfl,h1,c,d,rfl,h2,e,f,rfl,h3,g,k,rfl,h4,p,q,rfl,h5,rfl⟩:=h
 obtain⟨x,rfl,_⟩:=ty_int h1
 obtain⟨y,rfl,_⟩:=ty_int h2
 obtain⟨z,rfl,_⟩:=ty_int h3
 obtain⟨u,rfl,_⟩:=ty_int h4
 obtain⟨v,rfl,_⟩:=ty_int h5
 exact⟨⟨x,y,z,u,v⟩,rfl,trivial⟩
theorem ty_trades{n:Nat}{r:List AV}(h:Ty Tryz.prog (n+3) 46 r):∃(nn:Bool) (l:List BTrade),r=[slv 5 true nn (l.map BTrade.cells)]∧l.length≤maxLen:=by
 unfold Ty at h
 simp only[Tryz.underlying46]at h
 obtain⟨nn,rows,rfl,hl,hrows⟩:=h
 obtain⟨l,rfl,_⟩:=list_of (fun r hr=>ty_trade hr) hrows
 have e1:Tryz.prog.cellsOf 111=5:=by kernel_rfl
 have e2:flT Tryz.prog (n+2) 111=true:=by
  simp only[flT,Tryz.underlying111,Tryz.underlying3];rfl
 rw[e1,e2]
 exact⟨nn,l,rfl,by simpa using hl⟩
theorem ty_hour{n:Nat}{r:List AV}(h:Ty Tryz.prog (n+2) 59 r):∃x:BHour,r=x.cells∧True:=by
 unfold Ty at h
 simp only[Tryz.underlying59,TyFs]at h
 obtain⟨a,b,rfl,h1,c,d,rfl,h2,e,f,rfl,h3,g,k,rfl,h4,rfl⟩:=h
 obtain⟨x,rfl,_⟩:=ty_int h1
 obtain⟨y,rfl,_⟩:=ty_int h2
 obtain⟨z,rfl,_⟩:=ty_int h3
 obtain⟨u,rfl,_⟩:=ty_int h4
 exact⟨⟨x,y,z,u⟩,rfl,trivial⟩
theorem ty_hours{n:Nat}{r:List AV}(h:Ty Tryz.prog (n+3) 44 r):∃(nn:Bool) (l:List BHour),r=[slv 4 true nn (l.map BHour.cells)]∧l.length≤maxLen:=by
 unfold Ty at h
 simp only[Tryz.underlying44]at h
 obtain⟨nn,rows,rfl,hl,hrows⟩:=h
 obtain⟨l,rfl,_⟩:=list_of (fun r hr=>ty_hour hr) hrows
 have e1:Tryz.prog.cellsOf 59=4:=by kernel_rfl
 have e2:flT Tryz.prog (n+2) 59=true:=by
  simp only[flT,Tryz.underlying59,Tryz.underlying3];rfl
 rw[e1,e2]
 exact⟨nn,l,rfl,by simpa using hl⟩
theorem tv_state{av:AV}(h:TyV Tryz.prog 7 52 av):∃y:BState,av=.agg y.cells∧y.small:=by
 unfold TyV at h
 simp only[Tryz.underlying52]at h
 obtain⟨cs,rfl,h⟩:=h
 unfold Ty at h
 simp only[Tryz.underlying52,TyFs]at h
 obtain⟨a0,b0,rfl,h0,a1,b1,rfl,h1,a2,b2,rfl,h2,a3,b3,rfl,h3,a4,b4,rfl,h4,a5,b5,rfl,h5,rfl⟩:=h
 obtain⟨x0,rfl,_⟩:=ty_int h0
 obtain⟨nG,g,rfl,hg,_⟩:=ty_ints h1
 obtain⟨x2,rfl,_⟩:=ty_int h2
 obtain⟨x3,rfl,_⟩:=ty_int h3
 obtain⟨nL,l,rfl,hl,_⟩:=ty_ints h4
 obtain⟨nO,o,rfl,ho⟩:=ty_trades h5
 exact⟨⟨x0,nG,g,x2,x3,nL,l,nO,o⟩,rfl,hg,hl,ho⟩
theorem tv_day{av:AV}(h:TyV Tryz.prog 7 48 av):∃d:BDay,av=.agg d.cells∧d.small:=by
 unfold TyV at h
 simp only[Tryz.underlying48]at h
 obtain⟨cs,rfl,h⟩:=h
 unfold Ty at h
 simp only[Tryz.underlying48,TyFs]at h
 obtain⟨a0,b0,rfl,h0,a1,b1,rfl,h1,a2,b2,rfl,h2,rfl⟩:=h
 obtain⟨nh,hh,rfl,k0⟩:=ty_hours h0
 obtain⟨nn,n',rfl,k1⟩:=ty_noms h1
 obtain⟨nt,t,rfl,k2⟩:=ty_trades h2
 exact⟨⟨nh,hh,nn,n',nt,t⟩,rfl,k0,k1,k2⟩
theorem t_BookSteps(hk:om'.call (.fn 15) [] []=some (.ret (.bool true),[])):∀avs,TyVs Tryz.prog 7 Tryz.f11.params.toList avs→om'.call (.fn 11) avs []=some (.ret (.bool true),[]):=by
 intro avs h
 rw[show Tryz.f11.params.toList=[24,52,48]from rfl]at h
 match avs,h with
 | [a,b,c],h=>
   obtain⟨h1,h2,h3,_⟩:=h
   obtain⟨s,rfl,hs⟩:=tv_store h1
   obtain⟨y,rfl,hy⟩:=tv_state h2
   obtain⟨d,rfl,hd⟩:=tv_day h3
   exact w_BookSteps hk s hs y hy d hd
 | [],h=>exact h.elim
 | [_],h=>exact h.2.elim
 | [_,_],h=>exact h.2.2.elim
 |_::_::_::_::_,h=>exact h.2.2.2.elim
def dRate:List AV→Option BRate
 | [.int .i64 a,.int .i64 b,.int .i64 c]=>some ⟨a,b,c⟩
 |_=>none
def dSl{α:Type}(n:Nat)(fl:Bool)(d:List AV→Option α):AV→Option (Bool × List α)
 | .nils=>some (false,[])
 | .imm n' fl' rows=>if n'=n∧fl'=fl then(omap d rows).map fun l=>(true,l)else none
 |_=>none
def dCon:List AV→Option BCon
 | [.bool f,.int .i64 sp,.int .i64 lo,.int .i64 hi,r,.int .i64 g,.int .i64 fx,.int .i64 a,.int .i64 b,.int .i64 c,.int .i64 l]=>(dSl 3 true dRate r).map fun x=>⟨f,sp,lo,hi,x.1,x.2,g,fx,a,b,c,l⟩
 |_=>none
def dStore:List AV→Option BStore
 | [.int .i64 sp,.int .i64 a,.int .i64 b,.int .i64 l,.int .i64 f,r]=>(dSl 11 false dCon r).map fun x=>⟨sp,a,b,l,f,x.1,x.2⟩
 |_=>none
theorem dRate_eq{cs:List AV}{x:BRate}(h:dRate cs=some x):cs=x.cells:=by
 unfold dRate at h
 split at h
 ·cases h;rfl
 ·cases h
theorem omap_map{α:Type}{d:List AV→Option α}{f:α→List AV}(hd:∀cs x,d cs=some x→cs=f x):∀{rows:List (List AV)} {l:List α},omap d rows=some l→rows=l.map f
 | [],l,h=>by simp[omap]at h;subst h;rfl
 |r::rows,l,h=>by
  simp only[omap,Option.bind_eq_some_iff,Option.map_eq_some_iff]at h
  obtain⟨x,h1,l',h2,rfl⟩:=h
  rw[hd r x h1,omap_map hd h2];rfl
theorem dSl_eq{α:Type}{n:Nat}{fl:Bool}{d:List AV→Option α}{f:α→List AV}(hd:∀cs x,d cs=some x→cs=f x){v:AV}{x:Bool × List α}(h:dSl n fl d v=some x):v=slv n fl x.1 (x.2.map f):=by
 unfold dSl at h
 split at h
 ·cases h;rfl
 ·split at h
  ·rename_i hq
   obtain⟨rfl,rfl⟩:=hq
   obtain⟨l,h1,rfl⟩:=Option.map_eq_some_iff.1 h
   rw[omap_map hd h1]
   cases l<;>rfl
  ·cases h
 ·cases h
theorem dCon_eq{cs:List AV}{x:BCon}(h:dCon cs=some x):cs=x.cells:=by
 unfold dCon at h
 split at h
 ·obtain⟨y,h1,rfl⟩:=Option.map_eq_some_iff.1 h
  rw[dSl_eq (fun cs x=>dRate_eq) h1];rfl
 ·cases h
theorem dStore_eq{cs:List AV}{x:BStore}(h:dStore cs=some x):cs=x.cells:=by
 unfold dStore at h
 split at h
 ·obtain⟨y,h1,rfl⟩:=Option.map_eq_some_iff.1 h
  rw[dSl_eq (fun cs x=>dCon_eq) h1]
 ·cases h
def smallB(l:List BCon):Bool:=decide (l.length≤1000)&&l.all fun c=>decide (c.rates.length≤1000)
theorem smallB_cons{l:List BCon}(h:smallB l=true):l.length≤maxLen∧∀c∈l,c.rates.length≤maxLen:=by
 simp only[smallB,Bool.and_eq_true,decide_eq_true_eq,List.all_eq_true]at h
 unfold maxLen
 exact⟨by omega,fun c hc=>by have:=h.2 c hc;omega⟩
def pStore:List AV→Heap→Option (Out × Heap)
 | [.agg cs],[]=>(dStore cs).bind fun s=>if smallB s.cons=true then some (.ret (.bool (storeB s)),[])else none
 |_,_=>none
def ratesOKB(l:List BCon):Bool:=l.all fun c=> !c.rates.isEmpty&&decide (c.rates.length≤6)
def pSold:List AV→Heap→Option (Out × Heap)
 | [v,.int .i64 h],[]=>(dSl 11 false dCon v).bind fun x=>if(smallB x.2&&ratesOKB x.2)=true then(match soldF h x.2 (0,0)with|(a,b)=>some (.ret (.tup [.int .i64 a,.int .i64 b]),[]))else none
 |_,_=>none
def pr2:Prims:=⟨fun f=>if f=49 then some pStore else if f=68 then some pSold else pr f,pr.md⟩
theorem pr2_ok:∀f p,pr2 f=some p→∀a h r,p a h=some r→om'.call (.fn f) a h=some r:=by
 intro f p hp a h r hr
 simp only[pr2]at hp
 split at hp
 ·rename_i hf
  subst hf
  cases hp
  unfold pStore at hr
  split at hr
  ·rename_i cs
   obtain⟨s,h1,h2⟩:=Option.bind_eq_some_iff.1 hr
   split at h2
   ·rename_i hs
    cases h2
    rw[dStore_eq h1]
    exact e_store s ⟨(smallB_cons hs).1,(smallB_cons hs).2⟩
   ·cases h2
  ·cases hr
 ·split at hp
  ·rename_i hf
   subst hf
   cases hp
   unfold pSold at hr
   split at hr
   ·rename_i v hour
    obtain⟨x,h1,h2⟩:=Option.bind_eq_some_iff.1 hr
    split at h2
    ·rename_i hs
     simp only[Bool.and_eq_true]at hs
     cases h2
     rw[dSl_eq (fun cs x=>dCon_eq) h1]
     exact e_sold hour (smallB_cons hs.1).1 (fun c hc=>by
      have:=List.all_eq_true.1 hs.2 c hc
      simp only[Bool.and_eq_true,decide_eq_true_eq,Bool.not_eq_eq_eq_not,Bool.not_true,List.isEmpty_eq_false_iff]at this
      exact this)
    ·cases h2
   ·cases hr
  ·exact om_prim hp hr
theorem known_orc:(orc Tryz.prog pr2 100).call (.fn 15) [] []=some (.ret (.bool true),[]):=by kernel_rfl
theorem known_ok:om'.call (.fn 15) [] []=some (.ret (.bool true),[]):=ext_call (pr:=pr) (pr2:=pr2) rfl (fun f hf=>by
 simp only[pr2]at hf
 split at hf
 ·cases hf
 ·split at hf
  ·cases hf
  ·exact hf) pr2_ok known_orc
end Go.Proofs.YtdbiogihimdpcaaGreatDoor
