/- The functions of the layer, walked. -/
import Derived.Test.YtdbiogihimdpcaaGreatDoorPartAI
import Derived.Test.YtdbiogihimdpcaaGreatDoorPartAH
import Derived.Test.YtdbiogihimdpcaaGreatDoorPartAB
import Derived.Test.YtdbiogihimdpcaaGreatDoorPartAE
import Derived.Test.YtdbiogihimdpcaaGreatDoorPartAG
import Derived.Test.YtdbiogihimdpcaaGreatDoorLibD
set_option linter.unusedSimpArgs false
set_option linter.unusedVariables false
/- Layer 6: who takes part in an hour. -/
namespace Go.Proofs.YtdbiogihimdpcaaGreatDoor
open Go.Ev Go
set_option maxRecDepth 100000
set_option maxHeartbeats 16000000
theorem w_touched{y:BState}{d:BDay}(hy:y.small)(hD:d.small)(c:Int):om'.call (.fn 43) [.agg y.cells,.agg d.cells,.int .i64 c] []=some (.ret (.bool (touchB d y.hour y.owed c)),[]):=by
 have e:touchB d y.hour y.owed c=(d.noms.any (fun n=>n.con==c&&n.hour==y.hour)||(d.trades.any (fun t=>t.hour==y.hour&&(t.frm==c||t.to==c))||y.owed.any (fun t=>t.back==y.hour&&(t.frm==c||t.to==c)))):=by
  unfold touchB;rw[Bool.or_assoc]
 rw[e]
 clear e
 (refine ce Tryz.func43 ?_;simp only[Tryz.f43];(have hb:=trivial;with_reducible repeat' (first|simp only[hb,Va.down,seval,TY43.down,List.length_map]|refine fsp ?_ ?_<;>intro hb|refine fd ?_|fail)))
 refine fw_ot (lst 96 d.noms (fun i (zz:Unit) t h=>t 2=.int .i64 c∧t 3=.ptr 0 0 0∧t 4=.ptr 1 0 0∧t 7=.int .i64 i∧(∃g,h=.live 6 false false [y.cells]::.live 3 false false [d.cells]::g)) (fun rest zz=>rest.any (fun n=>n.con==c&&n.hour==y.hour)) (fun r e t h=>if r=true then e=.ret∧t 6=.bool true else e=.exit 0∧t 2=.int .i64 c∧t 3=.ptr 0 0 0∧t 4=.ptr 1 0 0∧∃g,h=.live 6 false false [y.cells]::.live 3 false false [d.cells]::g) ?_ ?_ () _ _ ?_) (fun e t h hk=>?_)
 ·rintro _ t h Q' kQ ⟨h2,h3,h4,h7,⟨g,rfl⟩⟩
  (have hb:=trivial;with_reducible repeat' (first|simp only[hb,Va.down,seval,TY43.down,h2,h3,h4,h7,Int.lt_irrefl,decide_false,List.length_map]|refine fsp ?_ ?_<;>intro hb|refine fd ?_|fail))
  exact kQ _ _ _ (by simp[up,h2,h3,h4])
 ·rintro x rest i _ t h J Q' kJ kQ hx hi ⟨h2,h3,h4,h7,⟨g,rfl⟩⟩
  have hd:decide ((i:Int)<(d.noms.length:Int))=true:=decide_eq_true (by omega)
  have hw:=wrap_next hi hD.noms
  (have hb:=trivial;with_reducible repeat' (first|simp only[hb,Va.down,seval,TY43.down,h2,h3,h4,h7,hd,hx,hw,List.length_map,BNom.cells]|refine fsp ?_ ?_<;>intro hb|refine fd ?_|fail))
  all_goals first
  |exact kQ _ _ _ (by simp_all[up])
  |(refine rnd_go (kJ _ _ () ⟨?_,?_,?_,?_,⟨g,rfl⟩⟩ ?_);(simp[up,h2]);(simp[up,h3]);(simp[up,h4]);(simp[up]);(simp_all[up]))
 ·exact⟨by simp[up,ent],by simp[up,ent],by simp[up,ent],by simp[up],⟨_,rfl⟩⟩
 ·split at hk
  ·rename_i hr'
   obtain⟨rfl,h6⟩:=hk
   (have hb:=trivial;with_reducible repeat' (first|simp only[hb,Va.down,seval,TY43.down,h6]|refine fsp ?_ ?_<;>intro hb|refine fd ?_|fail))
   all_goals simp[hr']
  ·rename_i hr'
   obtain⟨rfl,h2,h3,h4,g,rfl⟩:=hk
   rw[Bool.not_eq_true]at hr'
   rw[hr',Bool.false_or]
   (have hb:=trivial;with_reducible repeat' (first|simp only[hb,Va.down,seval,TY43.down,h2,h3,h4,List.length_map]|refine fsp ?_ ?_<;>intro hb|refine fd ?_|fail))
   refine fw_ot (lst 96 d.trades (fun i (zz:Unit) t h=>t 2=.int .i64 c∧t 3=.ptr 0 0 0∧t 4=.ptr 1 0 0∧t 8=.int .i64 i∧(∃g,h=.live 6 false false [y.cells]::.live 3 false false [d.cells]::g)) (fun rest zz=>rest.any (fun t=>t.hour==y.hour&&(t.frm==c||t.to==c))) (fun r e t h=>if r=true then e=.ret∧t 6=.bool true else e=.exit 2∧t 2=.int .i64 c∧t 3=.ptr 0 0 0∧t 4=.ptr 1 0 0∧∃g,h=.live 6 false false [y.cells]::.live 3 false false [d.cells]::g) ?_ ?_ () _ _ ?_) (fun e t h hk=>?_)
   ·rintro _ t h Q' kQ ⟨h2,h3,h4,h8,⟨g,rfl⟩⟩
    (have hb:=trivial;with_reducible repeat' (first|simp only[hb,Va.down,seval,TY43.down,h2,h3,h4,h8,Int.lt_irrefl,decide_false,List.length_map]|refine fsp ?_ ?_<;>intro hb|refine fd ?_|fail))
    exact kQ _ _ _ (by simp[up,h2,h3,h4])
   ·rintro x rest i _ t h J Q' kJ kQ hx hi ⟨h2,h3,h4,h8,⟨g,rfl⟩⟩
    have hd:decide ((i:Int)<(d.trades.length:Int))=true:=decide_eq_true (by omega)
    have hw:=wrap_next hi hD.trades
    (have hb:=trivial;with_reducible repeat' (first|simp only[hb,Va.down,seval,TY43.down,h2,h3,h4,h8,hd,hx,hw,List.length_map,BTrade.cells,Nat.add_zero]|refine fsp ?_ ?_<;>intro hb|refine fd ?_|fail))
    all_goals first
    |exact kQ _ _ _ (by simp_all[up])
    |(refine rnd_go (kJ _ _ () ⟨?_,?_,?_,?_,⟨_,rfl⟩⟩ ?_);(simp[up,h2]);(simp[up,h3]);(simp[up,h4]);(simp[up]);(simp_all[up]))
   ·exact⟨by simp[up,ent,h2,h3,h4],by simp[up,ent,h2,h3,h4],by simp[up,ent,h2,h3,h4],by simp[up],⟨_,rfl⟩⟩
   split at hk
   ·rename_i hr2
    obtain⟨rfl,h6⟩:=hk
    (have hb:=trivial;with_reducible repeat' (first|simp only[hb,Va.down,seval,TY43.down,h6]|refine fsp ?_ ?_<;>intro hb|refine fd ?_|fail))
    all_goals simp[hr2]
   ·rename_i hr2
    obtain⟨rfl,h2,h3,h4,g,rfl⟩:=hk
    rw[Bool.not_eq_true]at hr2
    rw[hr2,Bool.false_or]
    (have hb:=trivial;with_reducible repeat' (first|simp only[hb,Va.down,seval,TY43.down,h2,h3,h4,List.length_map]|refine fsp ?_ ?_<;>intro hb|refine fd ?_|fail))
    refine fw_ot (lst 96 y.owed (fun i (zz:Unit) t h=>t 2=.int .i64 c∧t 3=.ptr 0 0 0∧t 4=.ptr 1 0 0∧t 10=.int .i64 i∧(∃g,h=.live 6 false false [y.cells]::.live 3 false false [d.cells]::g)) (fun rest zz=>rest.any (fun t=>t.back==y.hour&&(t.frm==c||t.to==c))) (fun r e t h=>if r=true then e=.ret∧t 6=.bool true else e=.exit 4) ?_ ?_ () _ _ ?_) (fun e t h hk=>?_)
    ·rintro _ t h Q' kQ ⟨h2,h3,h4,h10,⟨g,rfl⟩⟩
     (have hb:=trivial;with_reducible repeat' (first|simp only[hb,Va.down,seval,TY43.down,h2,h3,h4,h10,Int.lt_irrefl,decide_false,List.length_map]|refine fsp ?_ ?_<;>intro hb|refine fd ?_|fail))
     exact kQ _ _ _ (by simp)
    ·rintro x rest i _ t h J Q' kJ kQ hx hi ⟨h2,h3,h4,h10,⟨g,rfl⟩⟩
     have hd:decide ((i:Int)<(y.owed.length:Int))=true:=decide_eq_true (by omega)
     have hw:=wrap_next hi hy.owed
     (have hb:=trivial;with_reducible repeat' (first|simp only[hb,Va.down,seval,TY43.down,h2,h3,h4,h10,hd,hx,hw,List.length_map,BTrade.cells,Nat.add_zero]|refine fsp ?_ ?_<;>intro hb|refine fd ?_|fail))
     all_goals first
     |exact kQ _ _ _ (by simp_all[up])
     |(refine rnd_go (kJ _ _ () ⟨?_,?_,?_,?_,⟨_,rfl⟩⟩ ?_);(simp[up,h2]);(simp[up,h3]);(simp[up,h4]);(simp[up]);(simp_all[up]))
    ·exact⟨by simp[up,ent,h2,h3,h4],by simp[up,ent,h2,h3,h4],by simp[up,ent,h2,h3,h4],by simp[up],⟨_,rfl⟩⟩
    split at hk
    ·rename_i hr3
     obtain⟨rfl,h6⟩:=hk
     (have hb:=trivial;with_reducible repeat' (first|simp only[hb,Va.down,seval,TY43.down,h6]|refine fsp ?_ ?_<;>intro hb|refine fd ?_|fail))
     all_goals simp[hr3]
    ·rename_i hr3
     subst hk
     (have hb:=trivial;with_reducible repeat' (first|simp only[hb,Va.down,seval,TY43.down,h2]|refine fsp ?_ ?_<;>intro hb|refine fd ?_|fail))
     all_goals (rw[Bool.not_eq_true]at hr3;simp[hr3])
end Go.Proofs.YtdbiogihimdpcaaGreatDoor
/- Layer 6: the specification's hour, walked. -/
namespace Go.Proofs.YtdbiogihimdpcaaGreatDoor
open Go.Ev Go
set_option maxRecDepth 100000
set_option maxHeartbeats 16000000
end Go.Proofs.YtdbiogihimdpcaaGreatDoor
/- Layer 6: the specification's hour, joined. -/
namespace Go.Proofs.YtdbiogihimdpcaaGreatDoor
open Go.Ev Go
set_option maxRecDepth 100000
set_option maxHeartbeats 16000000
end Go.Proofs.YtdbiogihimdpcaaGreatDoor
/- Layer 6: the law BookSteps, walked. -/
namespace Go.Proofs.YtdbiogihimdpcaaGreatDoor
open Go.Ev Go
set_option maxRecDepth 100000
set_option maxHeartbeats 16000000
def fewB(d:BDay):Bool:=decide (d.hours.length≤53)&&decide (d.noms.length≤210)&&decide (d.trades.length≤60)
theorem w_few(d:BDay):om'.call (.fn 23) [.agg d.cells] []=some (.ret (.bool (fewB d)),[]):=by
 have l1:decide ((d.hours.length:Int)≤53)=decide (d.hours.length≤53):=by rw[decide_eq_decide];omega
 have l2:decide ((d.noms.length:Int)≤210)=decide (d.noms.length≤210):=by rw[decide_eq_decide];omega
 have l3:decide ((d.trades.length:Int)≤60)=decide (d.trades.length≤60):=by rw[decide_eq_decide];omega
 (refine ce Tryz.func23 ?_;simp only[Tryz.f23];(have hb:=trivial;with_reducible repeat' (first|simp only[hb,Vc.down,seval,TY23.down,BDay.cells,List.length_map,l1,l2,l3]|refine fsp ?_ ?_<;>intro hb|refine fd ?_|fail)))
 all_goals (refine congrArg (fun b=>(Out.ret (AV.bool b),([]:Heap))) ?_;simp_all[fewB];try (intros;omega))
def stepsG(s:BStore)(y:BState)(d:BDay):Bool:=shortB s.cons&&fewB d&&decide (y.gas.length≤12)&&decide (y.bills.length≤12)&&decide (y.owed.length≤55)
theorem stepsG_on{s:BStore}{y:BState}{d:BDay}(h:stepsG s y d=true):shortB s.cons=true∧fewB d=true∧decide ((12:Int)<(y.gas.length:Int))=false∧decide ((12:Int)<(y.bills.length:Int))=false∧decide ((55:Int)<(y.owed.length:Int))=false:=by
 simp only[stepsG,Bool.and_eq_true,decide_eq_true_eq]at h
 obtain⟨⟨⟨⟨a,b⟩,c⟩,e⟩,f⟩:=h
 exact⟨a,b,decide_eq_false (by omega),decide_eq_false (by omega),decide_eq_false (by omega)⟩
end Go.Proofs.YtdbiogihimdpcaaGreatDoor
/- Layer 6: an hour of a store without contracts, method by method. The lists of gas (a), bills (b) and loans (c) are blocks, or nil. -/
namespace Go.Proofs.YtdbiogihimdpcaaGreatDoor
open Go.Ev Go
set_option maxRecDepth 100000
set_option maxHeartbeats 16000000
def zg:Bool→AV
 |true=>.slr 1 1 0 0
 |false=>.nils
def zi:Bool→Bool→Nat
 |false,false=>1
 |true,false=>2
 |false,true=>2
 |true,true=>3
def zl(a:Bool):Bool→AV
 |true=>.slr 1 (zi a false) 0 0
 |false=>.nils
def zo(a b:Bool):Bool→AV
 |true=>.slr 5 (zi a b) 0 0
 |false=>.nils
def zb(st:Nat)(w:Bool):Bool→Heap→Heap
 |true,h=>.live st true w []::h
 |false,h=>h
theorem z_loans(a b c:Bool){s:BStore}{d:BDay}{fl w w1 w2 w3:Bool}{hr own fuel:Int}:
 om'.call (.fn 104) [.ptr 0 0 0] (.live 19 fl w [(rc s d hr (zg a) own fuel (zl a b) (zo a b c) .nils .nils .nils .nils)]::zb 1 w1 a (zb 1 w2 b (zb 5 w3 c [])))=
  some (.ret (.tup []),.live 19 false true [(rc s d hr (zg a) own fuel (zl a b) .nils .nils .nils .nils .nils)]::zb 1 w1 a (zb 1 w2 b (zb 5 w3 c []))):=by
 cases a<;>cases b<;>cases c<;>simp only[zg,zi,zl,zo,zb]
 all_goals (refine ce Tryz.func104 ?_;simp only[Tryz.f104];(have hb:=trivial;with_reducible repeat' (first|simp only[hb,Vc.down,seval,TY104.down,List.length_nil,Int.natCast_zero,Int.lt_irrefl,decide_false]|refine fsp ?_ ?_<;>intro hb|refine fd ?_|refine fun1 ?_|fail)))
theorem z_trades(a b:Bool){s:BStore}{d:BDay}{w w1 w2:Bool}{hr own fuel:Int}(hT:d.trades=[]):
 om'.call (.fn 105) [.ptr 0 0 0] (.live 19 false w [(rc s d hr (zg a) own fuel (zl a b) .nils .nils .nils .nils .nils)]::zb 1 w1 a (zb 1 w2 b []))=
  some (.ret (.tup []),.live 19 false w [(rc s d hr (zg a) own fuel (zl a b) .nils .nils .nils .nils .nils)]::zb 1 w1 a (zb 1 w2 b [])):=by
 have hz:d.trades.length=0:=by rw[hT];rfl
 cases a<;>cases b<;>simp only[zg,zi,zl,zb]
 all_goals (refine ce Tryz.func105 ?_;simp only[Tryz.f105];(have hb:=trivial;with_reducible repeat' (first|simp only[hb,Vc.down,seval,TY105.down,List.length_map,hz,Int.natCast_zero,Int.lt_irrefl,decide_false]|refine fsp ?_ ?_<;>intro hb|refine fd ?_|refine fun1 ?_|fail)))
theorem z_active{s:BStore}{d:BDay}(hs:s.cons=[]){fl w:Bool}{hr own fuel:Int}{gv lv ov wv av fv rv y:AV}(tl:Heap):
 om'.call (.sh 131) [.ptr 0 0 0,y] (.live 19 fl w [(rc s d hr gv own fuel lv ov wv av fv rv)]::tl)=some (.ret (.tup []),.live 19 fl w [(rc s d hr gv own fuel lv ov wv av fv rv)]::tl):=by
 have hz:s.cons.length=0:=by rw[hs];rfl
 (refine csh Tryz.func131 ?_;simp only[Tryz.f131];(have hb:=trivial;with_reducible repeat' (first|simp only[hb,Vc.down,seval,TY131.down,List.length_map,hz,Int.natCast_zero,Int.lt_irrefl,decide_false]|refine fsp ?_ ?_<;>intro hb|refine fd ?_|refine fun1 ?_|fail)))
theorem z_wants(a b:Bool){s:BStore}{d:BDay}{w w1 w2:Bool}{hr own fuel:Int}(hs:s.cons=[]):
 om'.call (.fn 106) [.ptr 0 0 0] (.live 19 false w [(rc s d hr (zg a) own fuel (zl a b) .nils .nils .nils .nils .nils)]::zb 1 w1 a (zb 1 w2 b []))=
  some (.ret (.tup []),.live 19 false true [(rc s d hr (zg a) own fuel (zl a b) .nils (.slr 1 (zi a b) 0 0) .nils .nils .nils)]::zb 1 w1 a (zb 1 w2 b [.live 1 true false []])):=by
 have hz:s.cons.length=0:=by rw[hs];rfl
 have ha:=fun gv lv wv y=>z_active (s:=s) (d:=d) hs (fl:=false) (w:=false) (hr:=hr) (own:=own) (fuel:=fuel) (gv:=gv) (lv:=lv) (ov:=.nils) (wv:=wv) (av:=.nils) (fv:=.nils) (rv:=.nils) (y:=y)
 cases a<;>cases b<;>simp only[zg,zi,zl,zb]
 all_goals (refine ce Tryz.func106 ?_;simp only[Tryz.f106];(have hb:=trivial;with_reducible repeat' (first|simp only[hb,Vc.down,seval,TY106.down,List.length_map,hz,Int.natCast_zero,Int.le_refl,Int.reducePow,Int.reduceLE,List.replicate_zero,Int.toNat_zero,ha]|refine fsp ?_ ?_<;>intro hb|refine fd ?_|refine fun1 ?_|fail)))
theorem z_bills(a b:Bool){s:BStore}{d:BDay}{w w1 w2 w3:Bool}{hr own fuel:Int}(hs:s.cons=[]):
 om'.call (.fn 110) [.ptr 0 0 0] (.live 19 false w [(rc s d hr (zg a) own fuel (zl a b) .nils (.slr 1 (zi a b) 0 0) .nils .nils .nils)]::zb 1 w1 a (zb 1 w2 b [.live 1 true w3 []]))=some (.ret (.tup []),.live 19 false w [(rc s d hr (zg a) own fuel (zl a b) .nils (.slr 1 (zi a b) 0 0) .nils .nils .nils)]::zb 1 w1 a (zb 1 w2 b [.live 1 true w3 []])):=by
 have ha:=fun gv lv wv y=>z_active (s:=s) (d:=d) hs (fl:=false) (w:=false) (hr:=hr) (own:=own) (fuel:=fuel) (gv:=gv) (lv:=lv) (ov:=.nils) (wv:=wv) (av:=.nils) (fv:=.nils) (rv:=.nils) (y:=y)
 cases a<;>cases b<;>simp only[zg,zi,zl,zb]
 all_goals (refine ce Tryz.func110 ?_;simp only[Tryz.f110];(have hb:=trivial;with_reducible repeat' (first|simp only[hb,Vc.down,seval,TY110.down,List.length_map,ha]|refine fsp ?_ ?_<;>intro hb|refine fd ?_|refine fun1 ?_|fail)))
theorem z_gas(a b:Bool){s:BStore}{d:BDay}{w w1 w2 w3:Bool}{hr own fuel:Int}:
 om'.call (.fn 109) [.ptr 0 0 0] (.live 19 false w [(rc s d hr (zg a) own fuel (zl a b) .nils (.slr 1 (zi a b) 0 0) .nils .nils .nils)]::zb 1 w1 a (zb 1 w2 b [.live 1 true w3 []]))=some (.ret (.tup []),.live 19 false w [(rc s d hr (zg a) own fuel (zl a b) .nils (.slr 1 (zi a b) 0 0) .nils .nils .nils)]::zb 1 w1 a (zb 1 w2 b [.live 1 true w3 []])):=by
 cases a<;>cases b<;>simp only[zg,zi,zl,zb]
 all_goals (refine ce Tryz.func109 ?_;simp only[Tryz.f109];(have hb:=trivial;with_reducible repeat' (first|simp only[hb,Vc.down,seval,TY109.down,List.length_nil,Int.natCast_zero,Int.lt_irrefl,decide_false]|refine fsp ?_ ?_<;>intro hb|refine fd ?_|refine fun1 ?_|fail)))
theorem z_hour{s:BStore}{d:BDay}{hr fuel:Int}{x:BHour}(h0:0≤hr)(hx:d.hours[hr.toNat]?=some x)(own:Int)(gv lv wv:AV)(tl:Heap):
 om'.call (.sh 133) [.ptr 0 0 0] (.live 19 false false [(rc s d hr gv own fuel lv .nils wv .nils .nils .nils)]::tl)=some (.ret (.agg x.cells),.live 19 false false [(rc s d hr gv own fuel lv .nils wv .nils .nils .nils)]::tl++[.live 4 true true [x.cells]]):=h_hour (b:=0) rfl h0 hx
theorem z_grants(a b:Bool){s:BStore}{d:BDay}{w w1 w2 w3:Bool}{hr own fuel:Int}{x:BHour}(h0:0≤hr)(hx:d.hours[hr.toNat]?=some x)(hi:0≤x.inn)(ho:0≤x.out):
 om'.call (.fn 107) [.ptr 0 0 0] (.live 19 false w [(rc s d hr (zg a) own fuel (zl a b) .nils (.slr 1 (zi a b) 0 0) .nils .nils .nils)]::zb 1 w1 a (zb 1 w2 b [.live 1 true w3 []]))=some (.ret (.tup []),.live 19 false true [(rc s d hr (zg a) own fuel (zl a b) .nils (.slr 1 (zi a b) 0 0) .nils .nils .nils)]::zb 1 w1 a (zb 1 w2 b [.live 1 true w3 []])):=by
 have g1:=e_grant_nil (s:=s) (nn:=true) hi ho
 rw[slv_true]at g1
 have hh:=z_hour (s:=s) (d:=d) (fuel:=fuel) h0 hx
 cases a<;>cases b<;>simp only[zg,zi,zl,zb]
 all_goals (refine ce Tryz.func107 ?_;simp only[Tryz.f107];(have hb:=trivial;with_reducible repeat' (first|simp only[hb,Vc.down,seval,TY107.down,hh,BHour.cells,g1,List.drop_nil,List.take_nil,List.length_nil]|refine fsp ?_ ?_<;>intro hb|refine fd ?_|fail)))
theorem z_flows(a b:Bool){s:BStore}{d:BDay}{w w1 w2 w3:Bool}{hr own fuel:Int}{x:BHour}(h0:0≤hr)(hx:d.hours[hr.toNat]?=some x):
 om'.call (.fn 108) [.ptr 0 0 0] (.live 19 false w [(rc s d hr (zg a) own fuel (zl a b) .nils (.slr 1 (zi a b) 0 0) .nils .nils .nils)]::zb 1 w1 a (zb 1 w2 b [.live 1 true w3 []]))=some (.ret (.tup []),.live 19 false true [(rc s d hr (zg a) (ownL [] x own) fuel (zl a b) .nils (.slr 1 (zi a b) 0 0) .nils .nils .nils)]::zb 1 w1 a (zb 1 w2 b [.live 1 true w3 []])):=by
 have g1:=e_sides_nil (nn:=false)
 rw[slv_nil]at g1
 have g2:=e_sum (l:=[]) (nn:=false) (by simp)
 rw[List.map_nil,slv_nil]at g2
 have g4:=fun amount=>e_shareC (amount:=amount) (l:=[]) (nn:=false) (g:=134) (w:=fun x=>x) (fun x _=>e_flows1 x) (by simp)
 simp only[List.map_nil,slv_nil,List.length_nil,List.nil_append,sumF,shareF]at g4 g2
 have g6:=e_joined' [] [] true true (by simp) (by simp) _ _ (fun _=>rfl) (fun h=>absurd rfl h)
 simp only[List.map_nil,slv_true]at g6
 have hh:=z_hour (s:=s) (d:=d) (fuel:=fuel) h0 hx
 cases a<;>cases b<;>simp only[zg,zi,zl,zb]
 all_goals
  (refine ce Tryz.func108 ?_;simp only[Tryz.f108];(have hb:=trivial;with_reducible repeat' (first|simp only[hb,Vc.down,seval,TY108.down,hh,BHour.cells,g1,g2,g4,g6,List.drop_nil,List.take_nil,List.length_nil,List.map_nil]|refine fsp ?_ ?_<;>intro hb|refine fd ?_|fail)))
  rfl
end Go.Proofs.YtdbiogihimdpcaaGreatDoor
/- Layer 6: step, of a store without contracts. -/
namespace Go.Proofs.YtdbiogihimdpcaaGreatDoor
open Go.Ev Go
set_option maxRecDepth 100000
set_option maxHeartbeats 16000000
theorem e_cloneE:om'.call (.fn 102) [.imm 1 true []] []=some (.ret (.slr 1 0 0 0),[.live 1 true false []]):=by
 (refine ce Tryz.func102 ?_;simp only[Tryz.f102];(have hb:=trivial;with_reducible repeat' (first|simp only[hb,Vc.down,seval,TY102.down,List.length_nil]|refine fsp ?_ ?_<;>intro hb|refine fd ?_|fail)))
theorem e_cloneN:om'.call (.fn 102) [.nils] []=some (.ret .nils,[]):=by
 (refine ce Tryz.func102 ?_;simp only[Tryz.f102];(have hb:=trivial;with_reducible repeat' (first|simp only[hb,Vc.down,seval,TY102.down,List.length_nil]|refine fsp ?_ ?_<;>intro hb|refine fd ?_|fail)))
/-- What comes of an hour of a store without contracts. -/
def ZQ(hr own fuel:Int)(o:Out)(h:Heap):Prop:=∃w1 w2 w3:Bool,
 (o=.ret (.tup [.agg [.int .i64 hr,.nils,.int .i64 own,.int .i64 fuel,.nils,.nils],.agg [.slr 1 0 0 0,.nils,.nils,.nils]])∧h=[.live 1 true w3 []])∨
 (o=.ret (.tup [.agg [.int .i64 hr,.slr 1 0 0 0,.int .i64 own,.int .i64 fuel,.nils,.nils],.agg [.slr 1 1 0 0,.nils,.nils,.nils]])∧h=[.live 1 true w1 [],.live 1 true w3 []])∨
 (o=.ret (.tup [.agg [.int .i64 hr,.nils,.int .i64 own,.int .i64 fuel,.slr 1 0 0 0,.nils],.agg [.slr 1 1 0 0,.nils,.nils,.nils]])∧h=[.live 1 true w2 [],.live 1 true w3 []])∨
 (o=.ret (.tup [.agg [.int .i64 hr,.slr 1 0 0 0,.int .i64 own,.int .i64 fuel,.slr 1 1 0 0,.nils],.agg [.slr 1 2 0 0,.nils,.nils,.nils]])∧h=[.live 1 true w1 [],.live 1 true w2 [],.live 1 true w3 []])
structure ZOK(s:BStore)(d:BDay)(hr:Int)(x:BHour):Prop where
 con:s.cons=[]
 tr:d.trades=[]
 h0:0≤hr
 hx:d.hours[hr.toNat]?=some x
 inn:0≤x.inn
 out:0≤x.out
theorem e_stepZ0{s:BStore}{d:BDay}{x:BHour}{hr own fuel:Int}{nG nL nO:Bool}(K:ZOK s d hr x):
 ClQ om' 64 [.agg s.cells,.agg [.int .i64 hr,slv 1 true nG [],.int .i64 own,.int .i64 fuel,slv 1 true nL [],slv 5 true nO []],.agg d.cells] [] (ZQ (IntKind.i64.wrap (hr+1)) (ownL [] x own) fuel):=by
 have k1:=z_loans nG nL nO (s:=s) (d:=d) (fl:=false) (w:=false) (w1:=false) (w2:=false) (w3:=false) (hr:=hr) (own:=own) (fuel:=fuel)
 have k2:=z_trades nG nL (s:=s) (w:=false) (w1:=false) (w2:=false) (hr:=hr) (own:=own) (fuel:=fuel) K.tr
 have k3:=z_wants nG nL (d:=d) (w:=false) (w1:=false) (w2:=false) (hr:=hr) (own:=own) (fuel:=fuel) K.con
 have k4:=z_grants nG nL (s:=s) (w:=false) (w1:=false) (w2:=false) (w3:=false) (own:=own) (fuel:=fuel) K.h0 K.hx K.inn K.out
 have k5:=z_flows nG nL (s:=s) (w:=false) (w1:=false) (w2:=false) (w3:=false) (own:=own) (fuel:=fuel) K.h0 K.hx
 have k6:=z_gas nG nL (s:=s) (d:=d) (w:=false) (w1:=false) (w2:=false) (w3:=false) (hr:=hr) (own:=ownL [] x own) (fuel:=fuel)
 have k7:=z_bills nG nL (d:=d) (w:=false) (w1:=false) (w2:=false) (w3:=false) (hr:=hr) (own:=ownL [] x own) (fuel:=fuel) K.con
 have b5:=bld_7 5
 have b6:=bld_7 6
 have b7:=bld_7 7
 have b8:=bld_7 8
 simp only[fnV,fnL,List.map_cons,List.map_nil]at b5 b6 b7 b8
 have c0:=e_cloneE
 have c1:=e_cloneN
 have c2:=e_cloneTrN
 have c3:=e_cloneTr (l:=[]) (nn:=true) (by simp) (by simp)
 simp only[List.map_nil,slv_true,List.length_nil,BDay.cells]at *
 cases nG<;>cases nL<;>cases nO<;>simp only[slv_nil,slv_true,zg,zi,zl,zo,zb]at *
 all_goals
  refine stOf rfl Tryz.func64 rfl rfl ?_
  simp only[Tryz.f64]
  (have hb:=trivial;with_reducible repeat' (first|simp only[hb,Vc.down,seval,TY64.down,c0,c1,c2,c3,wrap_of,ix_7,b5,b6,b7,b8,k1,k2,k3,k4,k5,k6,k7]|refine fsp ?_ ?_<;>intro hb|refine fd ?_|refine fun1 ?_|fail))
  first
  |exact⟨false,false,_,.inl ⟨rfl,rfl⟩⟩
  |exact⟨_,false,_,.inr (.inl ⟨rfl,rfl⟩)⟩
  |exact⟨false,_,_,.inr (.inr (.inl ⟨rfl,rfl⟩))⟩
  |exact⟨_,_,_,.inr (.inr (.inr ⟨rfl,rfl⟩))⟩
end Go.Proofs.YtdbiogihimdpcaaGreatDoor
/- Layer 6: Step, of a store without contracts. -/
namespace Go.Proofs.YtdbiogihimdpcaaGreatDoor
open Go.Ev Go
set_option maxRecDepth 100000
set_option maxHeartbeats 16000000
theorem trade_n0{t:BTrade}:tradeB 0 t=false:=by
 rw[←Bool.not_eq_true]
 intro h
 have T:=(trade_ok (n:=0) (by omega) (t:=t) (by simpa using h)).1
 have t1:=T.1.1;have t2:=T.1.2
 omega
/-- A store without contracts: nothing in the state, no trades. -/
theorem emptyS{s:BStore}{y:BState}{d:BDay}(h2:stateB s y=true)(h3:dayB s.cons.length d=true)(he:s.cons=[]):y.gas=[]∧y.bills=[]∧y.owed=[]∧d.trades=[]:=by
 simp only[stateB,preB,inB,Bool.and_eq_true,decide_eq_true_eq,List.all_eq_true]at h2
 obtain⟨⟨⟨⟨⟨⟨⟨p1,p2⟩,_⟩,_⟩,_⟩,_⟩,_⟩,p7⟩:=h2
 simp only[dayB,Bool.and_eq_true,decide_eq_true_eq,List.all_eq_true]at h3
 obtain⟨_,d6⟩:=h3
 rw[he]at p1 p2 p7 d6
 refine⟨List.length_eq_zero_iff.1 p1,List.length_eq_zero_iff.1 p2,?_,?_⟩
 ·refine List.eq_nil_iff_forall_not_mem.2 fun t ht=>?_
  have:=p7 t ht
  simp only[owedB,Bool.and_eq_true,List.length_nil,Int.ofNat_zero]at this
  have q:=this.1.1
  simp only[show((0:Nat):Int)=0 from rfl,trade_n0]at q
  cases q
 ·refine List.eq_nil_iff_forall_not_mem.2 fun t ht=>?_
  have:=d6 t ht
  simp only[List.length_nil,show((0:Nat):Int)=0 from rfl,trade_n0]at this
  cases this
theorem zOK{s:BStore}{d:BDay}{x:BHour}{y:BState}(h2:stateB s y=true)(h3:dayB s.cons.length d=true)(he:s.cons=[])(hx:d.hours[y.hour.toNat]?=some x):ZOK s d y.hour x:=by
 obtain⟨_,_,_,e4⟩:=emptyS h2 h3 he
 simp only[stateB,preB,inB,Bool.and_eq_true,decide_eq_true_eq]at h2
 obtain⟨⟨⟨⟨⟨⟨⟨_,_⟩,p3⟩,_⟩,_⟩,_⟩,_⟩,_⟩:=h2
 simp only[dayB,hourB,inB,Bool.and_eq_true,decide_eq_true_eq,List.all_eq_true]at h3
 obtain⟨⟨⟨_,d4⟩,_⟩,_⟩:=h3
 have D:=d4 x (List.mem_of_getElem? hx)
 exact⟨he,e4,p3.1,hx,D.1.1.1.1,D.1.1.2.1⟩
theorem e_stepZ{s:BStore}{d:BDay}{x:BHour}{y:BState}(K:ZOK s d y.hour x)(hG:y.gas=[])(hL:y.bills=[])(hO:y.owed=[]):
 ClQ om' 64 [.agg s.cells,.agg y.cells,.agg d.cells] [] (ZQ (IntKind.i64.wrap (y.hour+1)) (ownL [] x y.own) y.fuel):=by
 obtain⟨hr,nG,gas,own,fuel,nL,bills,nO,owed⟩:=y
 simp only at hG hL hO
 subst hG hL hO
 simp only[BDay.cells]at *
 exact e_stepZ0 K
theorem e_StepZ{s:BStore}{d:BDay}{x:BHour}{y:BState}(hs:s.small)(hd:d.small)(hy:y.small)(h1:storeB s=true)(h2:stateB s y=true)(h3:dayB s.cons.length d=true)(he:s.cons=[])(hx:d.hours[y.hour.toNat]?=some x):
 ClQ om' 40 [.agg s.cells,.agg y.cells,.agg d.cells] []
  (fun o h=>∃o',o=o3 o'∧ZQ (IntKind.i64.wrap (y.hour+1)) (ownL [] x y.own) y.fuel o' h):=by
 have c1:=e_store s hs
 have c2:=e_state s hs y hy
 have c3:=e_day d hd s.cons.length
 simp only[BDay.cells]at c3
 rw[h1]at c1
 rw[h2]at c2
 rw[h3]at c3
 obtain⟨hG,hL,hO,_⟩:=emptyS h2 h3 he
 have K:=zOK h2 h3 he hx
 have hlt:=(List.getElem?_eq_some_iff.1 hx).1
 have h0:=K.h0
 have c4:decide ((d.hours.length:Int)≤y.hour)=false:=decide_eq_false (by omega)
 obtain⟨o,h',e,w1,w2,w3,hq⟩:=e_stepZ K hG hL hO
 simp only[BDay.cells]at e
 rcases hq with⟨rfl,rfl⟩|⟨rfl,rfl⟩|⟨rfl,rfl⟩|⟨rfl,rfl⟩<;>(
  refine stOf rfl Tryz.func40 rfl rfl ?_
  simp only[Tryz.f40]
  (have hb:=trivial;with_reducible repeat' (first|simp only[hb,Vc.down,seval,TY40.down,BDay.cells,c1,c2,c3,c4,e,List.length_map]|refine fsp ?_ ?_<;>intro hb|refine fd ?_|fail)))
 ·exact⟨_,rfl,w1,w2,w3,.inl ⟨rfl,rfl⟩⟩
 ·exact⟨_,rfl,w1,w2,w3,.inr (.inl ⟨rfl,rfl⟩)⟩
 ·exact⟨_,rfl,w1,w2,w3,.inr (.inr (.inl ⟨rfl,rfl⟩))⟩
 ·exact⟨_,rfl,w1,w2,w3,.inr (.inr (.inr ⟨rfl,rfl⟩))⟩
end Go.Proofs.YtdbiogihimdpcaaGreatDoor
/- Layer 6: the law BookOwns, walked. -/
namespace Go.Proofs.YtdbiogihimdpcaaGreatDoor
open Go.Ev Go
set_option maxRecDepth 100000
set_option maxHeartbeats 16000000
theorem w_Owns0(hk:om'.call (.fn 15) [] []=some (.ret (.bool true),[]))(s:BStore)(hs:s.small)(y:BState)(hy:y.small)(d:BDay)(hd:d.small)(h:¬(stepsG s y d=true∧storeB s=true∧stateB s y=true∧dayB s.cons.length d=true∧¬(d.hours.length:Int)≤y.hour)):
 om'.call (.fn 12) [.agg s.cells,.agg y.cells,.agg d.cells] []=some (.ret (.bool true),[]):=by
 have h1:=w_short (nn:=s.nn) hs.cons
 have h2:=w_few d
 have c1:=r_Store s hs
 have c2:=r_State s hs y hy
 have c3:=r_Day d hd s.cons.length
 simp only[BDay.cells]at h2 c3
 have l1:decide ((12:Int)<(y.gas.length:Int))= !decide (y.gas.length≤12):=by rw[←decide_not,decide_eq_decide];omega
 have l2:decide ((12:Int)<(y.bills.length:Int))= !decide (y.bills.length≤12):=by rw[←decide_not,decide_eq_decide];omega
 have l3:decide ((55:Int)<(y.owed.length:Int))= !decide (y.owed.length≤55):=by rw[←decide_not,decide_eq_decide];omega
 have key:¬(shortB s.cons=true∧fewB d=true∧y.gas.length≤12∧y.bills.length≤12∧y.owed.length≤55∧storeB s=true∧stateB s y=true∧dayB s.cons.length d=true∧¬(d.hours.length:Int)≤y.hour):=fun⟨a,b,c,e,f,g,i,j,k⟩=>h ⟨by simp[stepsG,a,b,c,e,f],g,i,j,k⟩
 (refine ce Tryz.func12 ?_;simp only[Tryz.f12];(have hb:=trivial;with_reducible repeat' (first|simp only[hb,Vc.down,seval,TY12.down,BDay.cells,h1,h2,l1,l2,l3,c1,c2,c3,hk,List.length_map]|refine fsp ?_ ?_<;>intro hb|refine fd ?_|fail)))
 all_goals (exfalso;refine key ⟨?_,?_,?_,?_,?_,?_,?_,?_,?_⟩<;>clear key h<;>simp_all)
/-- What the law's loop looks at. -/
def OwH(s:BStore)(y:BState)(d:BDay)(n:Nat)(hr own fuel:Int)(G L F:List Int)(t7 t8:AV)(h:Heap):Prop:=
 ∃(b7 b8 bG bL bF:Nat) (f7 w7 f8 w8 wG wL wF:Bool) (ov wv av rv:AV),t7=.ptr b7 0 0∧t8=.ptr b8 0 0∧
  h[0]?=some (.live 6 false false [s.cells])∧h[1]?=some (.live 6 false false [y.cells])∧h[2]?=some (.live 3 false false [d.cells])∧
  h[b7]?=some (.live 6 f7 w7 [[.int .i64 hr,.slr 1 bG 0 n,.int .i64 own,.int .i64 fuel,.slr 1 bL 0 n,ov]])∧h[b8]?=some (.live 4 f8 w8 [[wv,av,.slr 1 bF 0 n,rv]])∧
  h[bG]?=some (.live 1 true wG (G.map iv))∧h[bL]?=some (.live 1 true wL (L.map iv))∧h[bF]?=some (.live 1 true wF (F.map iv))
theorem OwH.app{s:BStore}{y:BState}{d:BDay}{n:Nat}{hr own fuel:Int}{G L F:List Int}{t7 t8:AV}{h:Heap}(H:OwH s y d n hr own fuel G L F t7 t8 h)(tl:Heap):OwH s y d n hr own fuel G L F t7 t8 (h++tl):=by
 obtain⟨b7,b8,bG,bL,bF,f7,w7,f8,w8,wG,wL,wF,ov,wv,av,rv,e7,e8,a0,a1,a2,a7,a8,aG,aL,aF⟩:=H
 exact⟨b7,b8,bG,bL,bF,f7,w7,f8,w8,wG,wL,wF,ov,wv,av,rv,e7,e8,get_app a0 _,get_app a1 _,get_app a2 _,get_app a7 _,get_app a8 _,get_app aG _,get_app aL _,get_app aF _⟩
/-- What there was, less what there is. -/
def ownF(A G:List Int):List BCon→Nat→Int→Int
 | [],_,a=>a
 |_::rest,i,a=>ownF A G rest (i+1) (IntKind.i64.wrap (IntKind.i64.wrap (a+gI A i)-gI G i))
def own0(y:BState)(z:BHour)(own fuel:Int):Int:=IntKind.i64.wrap (IntKind.i64.wrap (IntKind.i64.wrap (IntKind.i64.wrap (IntKind.i64.wrap (y.own+y.fuel)+z.flowIn)-z.flowOut)-own)-fuel)
theorem gI_get{l:List Int}{i:Nat}(h:i<l.length):l[i]?=some (gI l i):=by
 unfold gI;rw[Int.toNat_natCast,List.getElem?_eq_getElem h];rfl
theorem w_OwnsV(hk:om'.call (.fn 15) [] []=some (.ret (.bool true),[]))(s:BStore)(hs:s.small)(y:BState)(hy:y.small)(d:BDay)(hD:d.small)(h:stepsG s y d=true)(v1:storeB s=true)(v2:stateB s y=true)(v3:dayB s.cons.length d=true)(hh:¬(d.hours.length:Int)≤y.hour)(h0:0≤y.hour)
 {z:BHour} (hz:d.hours[y.hour.toNat]?=some z) {n:Nat} {own fuel:Int} {G L R W A F:List Int} {O:List BTrade} (hn:n≤1000) (lS:s.cons.length=n) (lyG:y.gas.length=n) (lyL:y.bills.length=n) (lG:G.length=n) (lL:L.length=n) (lF:F.length=n)
 (hf:y.fuel≤fuel) (hG:∀(i:Nat) c,s.cons[i]?=some c→0≤gI G i∧gI G i≤c.space)
 (hr:∀(i:Nat) c,s.cons[i]?=some c→touchB d y.hour y.owed i=false→gI G i=gI y.gas i∧gI F i=0∧gI L i=IntKind.i64.wrap (gI y.bills i+if inB y.hour c.lo c.hi=true then c.fixed else 0))
 (hsum:ownF y.gas G s.cons 0 (own0 y z own fuel)=0)
 (hP:ClQ om' 40 [.agg s.cells,.agg y.cells,.agg d.cells] [] (fun o h=>∃o',o=o3 o'∧StepQ n (IntKind.i64.wrap (y.hour+1)) own fuel G L O R W A F o' h)):
 om'.call (.fn 12) [.agg s.cells,.agg y.cells,.agg d.cells] []=some (.ret (.bool true),[]):=by
 obtain⟨g1,g2,g3,g4,g5⟩:=stepsG_on h
 have h1:=w_short (nn:=s.nn) hs.cons
 have h2:=w_few d
 rw[g1]at h1
 rw[g2]at h2
 have c1:=r_Store s hs
 have c2:=r_State s hs y hy
 have c3:=r_Day d hD s.cons.length
 rw[v1]at c1
 rw[v2]at c2
 rw[v3]at c3
 have c6:decide ((d.hours.length:Int)≤y.hour)=false:=decide_eq_false hh
 have c7:decide (fuel<y.fuel)=false:=decide_eq_false (by omega)
 obtain⟨o1,k1,e1,o1',rfl,w1,w2,w3,w4,w5,w6,w7,q1⟩:=hP
 simp only[BDay.cells]at h2 c3 e1
 rw[lyG]at g3
 rw[lyL]at g4
 rcases q1 with⟨pO,pR,rfl,rfl⟩|⟨pR,rfl,rfl⟩|⟨pO,pR,rfl,rfl⟩|⟨pR,rfl,rfl⟩<;>simp only[stO,o3,lv1,lv5]at e1
 all_goals
  (refine ce Tryz.func12 ?_;simp only[Tryz.f12];(have hb:=trivial;with_reducible repeat' (first|simp only[hb,Vc.down,seval,TY12.down,BDay.cells,h1,h2,g3,g4,g5,e1,c1,c2,c3,c6,c7,h0,hz,BHour.cells,List.length_map,i_eqself,Int.reduceBEq,lyG,lyL]|refine fsp ?_ ?_<;>intro hb|refine fdl ?_|fail)))
  refine fw_ot (lst 245 s.cons (fun i (zz:Int × Nat) t h=>t 3=.ptr 0 0 0∧t 4=.ptr 1 0 0∧t 5=.ptr 2 0 0∧t 12=.int .i64 i∧t 11=.int .i64 zz.1∧(i=zz.2∧OwH s y d n (IntKind.i64.wrap (y.hour+1)) own fuel G L F (t 7) (t 8) h)) (fun rest zz=>ownF y.gas G rest zz.2 zz.1) (fun r e t h=>e=.exit 0∧t 11=.int .i64 r) ?_ ?_ (own0 y z own fuel,0) _ _ ?_) (fun e t h hk=>?_)
  ·rintro⟨a,k⟩ t h Q' kQ ⟨h3,h4,h5,h12,h11,⟨hik,hH⟩⟩
   try dsimp only at *
   obtain⟨b7,b8,bG,bL,bF,f7,w7,f8,w8,wG,wL,wF,ov,wv,av,rv,e7,e8,a0,a1,a2,a7,a8,aG,aL,aF⟩:=hH
   (have hb:=trivial;with_reducible repeat' (first|simp only[hb,Vc.down,seval,TY12.down,h3,h4,h5,h12,h11,Int.lt_irrefl,decide_false,e7,e8,a0,a1,a2,lyG,lS,List.length_map]|refine fsp ?_ ?_<;>intro hb|refine fd ?_|fail))
   exact kQ _ _ _ ⟨rfl,by simp[up,h11,ownF]⟩
  ·rintro x rest i ⟨a,k⟩ t h J Q' kJ kQ hx hi ⟨h3,h4,h5,h12,h11,⟨hik,hH⟩⟩
   have hd:decide ((i:Int)<(s.cons.length:Int))=true:=decide_eq_true (by omega)
   have hw:=wrap_next hi hs.cons
   try dsimp only at *
   obtain⟨b7,b8,bG,bL,bF,f7,w7,f8,w8,wG,wL,wF,ov,wv,av,rv,e7,e8,a0,a1,a2,a7,a8,aG,aL,aF⟩:=id hH
   have hi':i<n:=by rw[←lS];exact(List.getElem?_eq_some_iff.1 hx).1
   have b0:=get_app a0;have b1:=get_app a1;have b2:=get_app a2;have b7':=get_app a7;have b8':=get_app a8;have bG':=get_app aG;have bL':=get_app aL;have bF':=get_app aF
   have k1:=gI_get (l:=G) (i:=i) (by omega);have k2:=gI_get (l:=L) (i:=i) (by omega);have k3:=gI_get (l:=F) (i:=i) (by omega);have k4:=gI_get (l:=y.gas) (i:=i) (by omega);have k5:=gI_get (l:=y.bills) (i:=i) (by omega)
   have m1:decide (gI G i<0)=false:=decide_eq_false (by have:=hG i x hx;omega)
   have m2:decide (x.space<gI G i)=false:=decide_eq_false (by have:=hG i x hx;omega)
   have hii:((i:Int)<(n:Int))=True:=eq_true (by omega)
   have hT:=w_touched hy hD (i:Int)
   subst hik
   cases htb:touchB d y.hour y.owed i with
   |true=>
    rw[htb]at hT
    (have hb:=trivial;with_reducible repeat' (first|simp only[hb,Vc.down,seval,TY12.down,h3,h4,h5,h11,h12,e7,e8,a0,a1,a2,a7,a8,aG,aL,aF,b0,b1,b2,b7',b8',bG',bL',bF',k1,k2,k3,k4,k5,m1,m2,iv,hT,hii,hx,hw,Nat.zero_add,Int.toNat_natCast,lyG,lS,BCon.cells,List.length_map]|refine fsp ?_ ?_<;>intro hb|refine fdl ?_|fail))
    (refine rnd_go (kJ _ _ (IntKind.i64.wrap (IntKind.i64.wrap (a+gI y.gas i)-gI G i),i+1) ⟨?_,?_,?_,?_,?_,?_⟩ ?_);(simp[up,h3]);(simp[up,h4]);(simp[up,h5]);(simp[up]);(simp[up,h11]);(exact⟨rfl,by simpa [up]using hH.app _⟩);exact rfl)
   |false=>
    rw[htb]at hT
    obtain⟨q1,q2,q3⟩:=hr i x hx htb
    rw[q1]at k1 m1 m2
    rw[q2]at k3
    rw[q3]at k2
    by_cases hA:x.lo≤y.hour<;>by_cases hB:y.hour≤x.hi<;>simp only[inB,hA,hB,decide_true,decide_false,Bool.and_self,Bool.and_false,Bool.false_and,Bool.and_true,if_true,Bool.false_eq_true,if_false]at k2
    all_goals
     (have hb:=trivial;with_reducible repeat' (first|simp only[hb,Vc.down,seval,TY12.down,h3,h4,h5,h11,h12,e7,e8,a0,a1,a2,a7,a8,aG,aL,aF,b0,b1,b2,b7',b8',bG',bL',bF',k1,k2,k3,k4,k5,m1,m2,iv,hT,hii,hx,hw,Nat.zero_add,Int.toNat_natCast,lyG,lS,BCon.cells,List.length_map,hA,hB,decide_false,i_eqself,Int.reduceBEq]|refine fsp ?_ ?_<;>intro hb|refine fdl ?_|fail))
     (refine rnd_go (kJ _ _ (IntKind.i64.wrap (IntKind.i64.wrap (a+gI y.gas i)-gI y.gas i),i+1) ⟨?_,?_,?_,?_,?_,?_⟩ ?_);(simp[up,h3]);(simp[up,h4]);(simp[up,h5]);(simp[up]);(simp[up,h11]);(first|exact⟨rfl,by simpa [up]using hH.app _⟩|exact⟨rfl,by simpa [up]using (hH.app _).app _⟩);(rw[ownF,q1]))
  ·exact⟨by simp[up,ent,own0],by simp[up,ent,own0],by simp[up,ent,own0],by simp[up],by simp[up,ent,own0],(by first|exact⟨rfl,8,9,3,4,7,_,_,_,_,_,_,_,_,_,_,_,rfl,rfl,rfl,rfl,rfl,rfl,rfl,rfl,rfl,rfl⟩|exact⟨rfl,9,10,3,4,8,_,_,_,_,_,_,_,_,_,_,_,rfl,rfl,rfl,rfl,rfl,rfl,rfl,rfl,rfl,rfl⟩|exact⟨rfl,9,10,3,4,7,_,_,_,_,_,_,_,_,_,_,_,rfl,rfl,rfl,rfl,rfl,rfl,rfl,rfl,rfl,rfl⟩|exact⟨rfl,10,11,3,4,8,_,_,_,_,_,_,_,_,_,_,_,rfl,rfl,rfl,rfl,rfl,rfl,rfl,rfl,rfl,rfl⟩)⟩
  obtain⟨rfl,h11⟩:=hk
  rw[hsum]at h11
  (have hb:=trivial;with_reducible repeat' (first|simp only[hb,Vc.down,seval,TY12.down,h11,hk,i_eqself,Int.reduceBEq]|refine fsp ?_ ?_<;>intro hb|refine fd ?_|fail))
end Go.Proofs.YtdbiogihimdpcaaGreatDoor
/- Layer 6: the law BookOwns, all cases. -/
namespace Go.Proofs.YtdbiogihimdpcaaGreatDoor
open Go.Ev Go
set_option maxRecDepth 100000
set_option maxHeartbeats 16000000
theorem w_OwnsZ(hk:om'.call (.fn 15) [] []=some (.ret (.bool true),[]))(s:BStore)(hs:s.small)(y:BState)(hy:y.small)(d:BDay)(hD:d.small)(h:stepsG s y d=true)(v1:storeB s=true)(v2:stateB s y=true)(v3:dayB s.cons.length d=true)(hh:¬(d.hours.length:Int)≤y.hour)(he:s.cons=[]){z:BHour}(hz:d.hours[y.hour.toNat]?=some z):
 om'.call (.fn 12) [.agg s.cells,.agg y.cells,.agg d.cells] []=some (.ret (.bool true),[]):=by
 obtain⟨g1,g2,g3,g4,g5⟩:=stepsG_on h
 have h1:=w_short (nn:=s.nn) hs.cons
 have h2:=w_few d
 rw[g1]at h1
 rw[g2]at h2
 have c1:=r_Store s hs
 have c2:=r_State s hs y hy
 have c3:=r_Day d hD s.cons.length
 rw[v1]at c1
 rw[v2]at c2
 rw[v3]at c3
 have c6:decide ((d.hours.length:Int)≤y.hour)=false:=decide_eq_false hh
 have h0:0≤y.hour:=by
  have p:=v2
  simp only[stateB,preB,inB,Bool.and_eq_true,decide_eq_true_eq]at p
  omega
 obtain⟨eG,eL,eO,_⟩:=emptyS v2 v3 he
 have hzb:=v3
 simp only[dayB,hourB,inB,Bool.and_eq_true,decide_eq_true_eq,List.all_eq_true]at hzb
 have Dz:=hzb.1.1.2 z (List.mem_of_getElem? hz)
 have p:=v2
 simp only[stateB,preB,inB,Bool.and_eq_true,decide_eq_true_eq]at p
 have eown:=own_eq (A:=[]) (by simp) (by simp) Dz.1.2 Dz.2 (own:=y.own) (by omega)
 have eown2:ownL [] z y.own=y.own+z.flowIn-z.flowOut:=by
  rw[eown.1,eown.2.1]
  have q1:mn z.flowIn 0=0:=by unfold mn;split<;>omega
  have q2:mn z.flowOut 0=0:=by unfold mn;split<;>omega
  simp only[List.map_nil,List.sum_nil,q1,q2]
  omega
 have es:IntKind.i64.wrap (IntKind.i64.wrap (IntKind.i64.wrap (IntKind.i64.wrap (IntKind.i64.wrap (y.own+y.fuel)+z.flowIn)-z.flowOut)-ownL [] z y.own)-y.fuel)=0:=by
  rw[eown2,wrap_of (n:=y.own+y.fuel) (by omega) (by omega),wrap_of (n:=y.own+y.fuel+z.flowIn) (by omega) (by omega),wrap_of (n:=y.own+y.fuel+z.flowIn-z.flowOut) (by omega) (by omega),wrap_of (n:=y.own+y.fuel+z.flowIn-z.flowOut-_) (by omega) (by omega),wrap_of (by omega) (by omega)]
  omega
 have c7:decide (y.fuel<y.fuel)=false:=decide_eq_false (by omega)
 obtain⟨o1,k1,e1,o1',rfl,w1,w2,w3,q1⟩:=e_StepZ hs hD hy v1 v2 v3 he hz
 have lG:y.gas.length=0:=by rw[eG];rfl
 have lL:y.bills.length=0:=by rw[eL];rfl
 rw[lG]at g3
 rw[lL]at g4
 rcases q1 with⟨rfl,rfl⟩|⟨rfl,rfl⟩|⟨rfl,rfl⟩|⟨rfl,rfl⟩<;>simp only[o3]at e1
 all_goals (refine ce Tryz.func12 ?_;simp only[Tryz.f12];(have hb:=trivial;with_reducible repeat' (first|simp only[hb,Vc.down,seval,TY12.down,h1,h2,g3,g4,g5,e1,c1,c2,c3,c6,c7,h0,hz,hk,es,BHour.cells,List.length_map,i_eqself,Int.reduceBEq,lG,lL,Int.natCast_zero,List.take_nil]|refine fsp ?_ ?_<;>intro hb|refine fd ?_|refine fun1 ?_|fail)))
theorem ownF_eq(A G:List Int)(hA:∀i:Nat,0≤gI A i∧gI A i≤100000000)(hG:∀i:Nat,0≤gI G i∧gI G i≤100000000):∀(cs:List BCon) (i:Nat) (a:Int),A.length=i+cs.length→G.length=i+cs.length→ -4000000000000000000+200000000*cs.length≤a→a≤4000000000000000000-200000000*cs.length→
 ownF A G cs i a=a+(A.drop i).sum-(G.drop i).sum:=by
 have e:∀(l:List Int) (i:Nat),i<l.length→(l.drop i).sum=gI l i+(l.drop (i+1)).sum:=fun l i h=>by
  rw[List.drop_eq_getElem_cons h,List.sum_cons]
  congr 1
  unfold gI;rw[Int.toNat_natCast,List.getElem?_eq_getElem h];rfl
 intro cs
 induction cs with
 |nil=>
  intro i a h1 h2 _ _
  rw[List.drop_eq_nil_of_le (by simp at h1;omega),List.drop_eq_nil_of_le (by simp at h2;omega)]
  simp[ownF]
 |cons c cs ih=>
  intro i a h1 h2 h3 h4
  simp only[List.length_cons]at h1 h2 h3 h4
  have a1:=hA i
  have b1:=hG i
  rw[ownF,wrap_of (n:=a+gI A i) (by omega) (by omega),wrap_of (by omega) (by omega)]
  rw[ih (i+1) _ (by omega) (by omega) (by omega) (by omega),e A i (by omega),e G i (by omega)]
  omega
theorem w_BookOwns(hk:om'.call (.fn 15) [] []=some (.ret (.bool true),[]))(s:BStore)(hs:s.small)(y:BState)(hy:y.small)(d:BDay)(hd:d.small):
 om'.call (.fn 12) [.agg s.cells,.agg y.cells,.agg d.cells] []=some (.ret (.bool true),[]):=by
 by_cases hv:stepsG s y d=true∧storeB s=true∧stateB s y=true∧dayB s.cons.length d=true∧¬(d.hours.length:Int)≤y.hour
 ·obtain⟨h,v1,v2,v3,hh⟩:=hv
  have h0:0≤y.hour:=by
   have p:=v2
   simp only[stateB,preB,inB,Bool.and_eq_true,decide_eq_true_eq]at p
   omega
  have hlt:y.hour.toNat<d.hours.length:=by omega
  have hz:=List.getElem?_eq_getElem hlt
  generalize d.hours[y.hour.toNat]=z at hz
  by_cases he:s.cons=[]
  ·exact w_OwnsZ hk s hs y hy d hd h v1 v2 v3 hh he hz
  ·have I:=stI v1 v2
   have hl8:=(storeOK v1).len
   have p:=v2
   simp only[stateB,preB,inB,Bool.and_eq_true,decide_eq_true_eq]at p
   have X:=hourOwn (fuel:=y.fuel) v1 v3 (by omega) I (by omega) hz
   have hcs:∀c∈s.cons,conB c=true:=List.all_eq_true.1 (storeB_con v1)
   have bnd:∀{g:List Int},GOK s.cons g→∀i:Nat,0≤gI g i∧gI g i≤100000000:=fun {g} K i=>by
    by_cases hi:i<s.cons.length
    ·have hc:s.cons[i]?=some s.cons[i]:=List.getElem?_eq_getElem hi
     have b:=K.inn i _ hc
     have c:=(conOK (hcs _ (List.mem_of_getElem? hc))).space
     omega
    ·rw[gI_out (by have:=K.len;omega)];omega
   have zb:=v3
   simp only[dayB,hourB,inB,Bool.and_eq_true,decide_eq_true_eq,List.all_eq_true]at zb
   have Dz:=zb.1.1.2 z (List.mem_of_getElem? hz)
   have xo:=X.ow
   have xf:=X.fu
   refine w_OwnsV hk s hs y hy d hd h v1 v2 v3 hh h0 hz (by omega) rfl I.g.len I.l X.len.1 X.len.2.1 X.len.2.2.1 X.fu.1 X.gas.inn (fun i c hc ht=>?_) ?_ (e_StepV hs hd hy v1 v2 v3 he hz)
   ·obtain⟨q1,q2,q3⟩:=X.rest i c hc ht
    refine⟨q1,q2,?_⟩
    rw[q3]
    have lb:=I.lok i
    have fx:=(lack_in (hcs c (List.mem_of_getElem? hc))).2.2.2.2
    rw[wrap_of]
    ·split<;>omega
    ·split<;>omega
   ·have e0:own0 y z (own5 s d y.hour z y.gas y.bills y.owed y.own) (G6 s d y.hour z y.gas y.bills y.owed y.fuel).2=y.own+y.fuel+z.flowIn-z.flowOut-own5 s d y.hour z y.gas y.bills y.owed y.own-(G6 s d y.hour z y.gas y.bills y.owed y.fuel).2:=by
     unfold own0
     rw[wrap_of (n:=y.own+y.fuel) (by omega) (by omega),wrap_of (n:=y.own+y.fuel+z.flowIn) (by omega) (by omega),wrap_of (n:=y.own+y.fuel+z.flowIn-z.flowOut) (by omega) (by omega),wrap_of (n:=y.own+y.fuel+z.flowIn-z.flowOut-_) (by omega) (by omega),wrap_of (by omega) (by omega)]
    rw[e0,ownF_eq _ _ (bnd I.g) (bnd X.gas) s.cons 0 _ (by rw[I.g.len];omega) (by rw[X.gas.len];omega) (by omega) (by omega)]
    simp only[List.drop_zero]
    have:=X.sum
    omega
 ·exact w_Owns0 hk s hs y hy d hd hv
end Go.Proofs.YtdbiogihimdpcaaGreatDoor
/- Layer 6: the specification's Step, of a store without contracts. -/
namespace Go.Proofs.YtdbiogihimdpcaaGreatDoor
open Go.Ev Go
set_option maxRecDepth 100000
set_option maxHeartbeats 16000000
end Go.Proofs.YtdbiogihimdpcaaGreatDoor
/- Layer 6: the law BookSteps, all cases. -/
namespace Go.Proofs.YtdbiogihimdpcaaGreatDoor
open Go.Ev Go
set_option maxRecDepth 100000
set_option maxHeartbeats 16000000
end Go.Proofs.YtdbiogihimdpcaaGreatDoor
/- Layer 6: states and days as they come. -/
namespace Go.Proofs.YtdbiogihimdpcaaGreatDoor
open Go.Ev Go
set_option maxRecDepth 100000
set_option maxHeartbeats 16000000
theorem ty_trade{n:Nat}{r:List AV}(h:Ty Tryz.prog (n+2) 111 r):∃x:BTrade,r=x.cells∧True:=by
 unfold Ty at h
 simp only[Tryz.underlying111,TyFs]at h
 obtain⟨a,b,rfl,h1,c,d,rfl,h2,e,f,rfl,h3,g,k,rfl,h4,p,q,rfl,h5,rfl⟩:=h
 obtain⟨x,rfl,_⟩:=ty_int h1
 obtain⟨y,rfl,_⟩:=ty_int h2
 obtain⟨z,rfl,_⟩:=ty_int h3
 obtain⟨u,rfl,_⟩:=ty_int h4
 obtain⟨v,rfl,_⟩:=ty_int h5
 exact⟨⟨x,y,z,u,v⟩,rfl,trivial⟩
theorem ty_trades{n:Nat}{r:List AV}(h:Ty Tryz.prog (n+3) 46 r):∃(nn:Bool) (l:List BTrade),r=[slv 5 true nn (l.map BTrade.cells)]∧l.length≤maxLen:=by
 unfold Ty at h
 simp only[Tryz.underlying46]at h
 obtain⟨nn,rows,rfl,hl,hrows⟩:=h
 obtain⟨l,rfl,_⟩:=list_of (fun r hr=>ty_trade hr) hrows
 have e1:Tryz.prog.cellsOf 111=5:=by kernel_rfl
 have e2:flT Tryz.prog (n+2) 111=true:=by
  simp only[flT,Tryz.underlying111,Tryz.underlying3];rfl
 rw[e1,e2]
 exact⟨nn,l,rfl,by simpa using hl⟩
theorem ty_hour{n:Nat}{r:List AV}(h:Ty Tryz.prog (n+2) 59 r):∃x:BHour,r=x.cells∧True:=by
 unfold Ty at h
 simp only[Tryz.underlying59,TyFs]at h
 obtain⟨a,b,rfl,h1,c,d,rfl,h2,e,f,rfl,h3,g,k,rfl,h4,rfl⟩:=h
 obtain⟨x,rfl,_⟩:=ty_int h1
 obtain⟨y,rfl,_⟩:=ty_int h2
 obtain⟨z,rfl,_⟩:=ty_int h3
 obtain⟨u,rfl,_⟩:=ty_int h4
 exact⟨⟨x,y,z,u⟩,rfl,trivial⟩
theorem ty_hours{n:Nat}{r:List AV}(h:Ty Tryz.prog (n+3) 44 r):∃(nn:Bool) (l:List BHour),r=[slv 4 true nn (l.map BHour.cells)]∧l.length≤maxLen:=by
 unfold Ty at h
 simp only[Tryz.underlying44]at h
 obtain⟨nn,rows,rfl,hl,hrows⟩:=h
 obtain⟨l,rfl,_⟩:=list_of (fun r hr=>ty_hour hr) hrows
 have e1:Tryz.prog.cellsOf 59=4:=by kernel_rfl
 have e2:flT Tryz.prog (n+2) 59=true:=by
  simp only[flT,Tryz.underlying59,Tryz.underlying3];rfl
 rw[e1,e2]
 exact⟨nn,l,rfl,by simpa using hl⟩
theorem tv_state{av:AV}(h:TyV Tryz.prog 7 52 av):∃y:BState,av=.agg y.cells∧y.small:=by
 unfold TyV at h
 simp only[Tryz.underlying52]at h
 obtain⟨cs,rfl,h⟩:=h
 unfold Ty at h
 simp only[Tryz.underlying52,TyFs]at h
 obtain⟨a0,b0,rfl,h0,a1,b1,rfl,h1,a2,b2,rfl,h2,a3,b3,rfl,h3,a4,b4,rfl,h4,a5,b5,rfl,h5,rfl⟩:=h
 obtain⟨x0,rfl,_⟩:=ty_int h0
 obtain⟨nG,g,rfl,hg,_⟩:=ty_ints h1
 obtain⟨x2,rfl,_⟩:=ty_int h2
 obtain⟨x3,rfl,_⟩:=ty_int h3
 obtain⟨nL,l,rfl,hl,_⟩:=ty_ints h4
 obtain⟨nO,o,rfl,ho⟩:=ty_trades h5
 exact⟨⟨x0,nG,g,x2,x3,nL,l,nO,o⟩,rfl,hg,hl,ho⟩
theorem tv_day{av:AV}(h:TyV Tryz.prog 7 48 av):∃d:BDay,av=.agg d.cells∧d.small:=by
 unfold TyV at h
 simp only[Tryz.underlying48]at h
 obtain⟨cs,rfl,h⟩:=h
 unfold Ty at h
 simp only[Tryz.underlying48,TyFs]at h
 obtain⟨a0,b0,rfl,h0,a1,b1,rfl,h1,a2,b2,rfl,h2,rfl⟩:=h
 obtain⟨nh,hh,rfl,k0⟩:=ty_hours h0
 obtain⟨nn,n',rfl,k1⟩:=ty_noms h1
 obtain⟨nt,t,rfl,k2⟩:=ty_trades h2
 exact⟨⟨nh,hh,nn,n',nt,t⟩,rfl,k0,k1,k2⟩
end Go.Proofs.YtdbiogihimdpcaaGreatDoor
/- Layer 6: BookOwns, of typed values. -/
namespace Go.Proofs.YtdbiogihimdpcaaGreatDoor
open Go.Ev Go
set_option maxRecDepth 100000
set_option maxHeartbeats 16000000
theorem t_BookOwns(hk:om'.call (.fn 15) [] []=some (.ret (.bool true),[])):∀avs,TyVs Tryz.prog 7 Tryz.f12.params.toList avs→om'.call (.fn 12) avs []=some (.ret (.bool true),[]):=by
 intro avs h
 rw[show Tryz.f12.params.toList=[24,52,48]from rfl]at h
 match avs,h with
 | [a,b,c],h=>
   obtain⟨h1,h2,h3,_⟩:=h
   obtain⟨s,rfl,hs⟩:=tv_store h1
   obtain⟨y,rfl,hy⟩:=tv_state h2
   obtain⟨d,rfl,hd⟩:=tv_day h3
   exact w_BookOwns hk s hs y hy d hd
 | [],h=>exact h.elim
 | [_],h=>exact h.2.elim
 | [_,_],h=>exact h.2.2.elim
 |_::_::_::_::_,h=>exact h.2.2.2.elim
end Go.Proofs.YtdbiogihimdpcaaGreatDoor
/- Layer 6: the document's examples. -/
namespace Go.Proofs.YtdbiogihimdpcaaGreatDoor
open Go.Ev Go
set_option maxRecDepth 100000
set_option maxHeartbeats 16000000
def dRate:List AV→Option BRate
 | [.int .i64 a,.int .i64 b,.int .i64 c]=>some ⟨a,b,c⟩
 |_=>none
def dSl{α:Type}(n:Nat)(fl:Bool)(d:List AV→Option α):AV→Option (Bool × List α)
 | .nils=>some (false,[])
 | .imm n' fl' rows=>if n'=n∧fl'=fl then(omap d rows).map fun l=>(true,l)else none
 |_=>none
def dCon:List AV→Option BCon
 | [.bool f,.int .i64 sp,.int .i64 lo,.int .i64 hi,r,.int .i64 g,.int .i64 fx,.int .i64 a,.int .i64 b,.int .i64 c,.int .i64 l]=>(dSl 3 true dRate r).map fun x=>⟨f,sp,lo,hi,x.1,x.2,g,fx,a,b,c,l⟩
 |_=>none
def dStore:List AV→Option BStore
 | [.int .i64 sp,.int .i64 a,.int .i64 b,.int .i64 l,.int .i64 f,r]=>(dSl 11 false dCon r).map fun x=>⟨sp,a,b,l,f,x.1,x.2⟩
 |_=>none
theorem dRate_eq{cs:List AV}{x:BRate}(h:dRate cs=some x):cs=x.cells:=by
 unfold dRate at h
 split at h
 ·cases h;rfl
 ·cases h
theorem omap_map{α:Type}{d:List AV→Option α}{f:α→List AV}(hd:∀cs x,d cs=some x→cs=f x):∀{rows:List (List AV)} {l:List α},omap d rows=some l→rows=l.map f
 | [],l,h=>by simp[omap]at h;subst h;rfl
 |r::rows,l,h=>by
  simp only[omap,Option.bind_eq_some_iff,Option.map_eq_some_iff]at h
  obtain⟨x,h1,l',h2,rfl⟩:=h
  rw[hd r x h1,omap_map hd h2];rfl
theorem dSl_eq{α:Type}{n:Nat}{fl:Bool}{d:List AV→Option α}{f:α→List AV}(hd:∀cs x,d cs=some x→cs=f x){v:AV}{x:Bool × List α}(h:dSl n fl d v=some x):v=slv n fl x.1 (x.2.map f):=by
 unfold dSl at h
 split at h
 ·cases h;rfl
 ·split at h
  ·rename_i hq
   obtain⟨rfl,rfl⟩:=hq
   obtain⟨l,h1,rfl⟩:=Option.map_eq_some_iff.1 h
   rw[omap_map hd h1]
   cases l<;>rfl
  ·cases h
 ·cases h
theorem dCon_eq{cs:List AV}{x:BCon}(h:dCon cs=some x):cs=x.cells:=by
 unfold dCon at h
 split at h
 ·obtain⟨y,h1,rfl⟩:=Option.map_eq_some_iff.1 h
  rw[dSl_eq (fun cs x=>dRate_eq) h1];rfl
 ·cases h
theorem dStore_eq{cs:List AV}{x:BStore}(h:dStore cs=some x):cs=x.cells:=by
 unfold dStore at h
 split at h
 ·obtain⟨y,h1,rfl⟩:=Option.map_eq_some_iff.1 h
  rw[dSl_eq (fun cs x=>dCon_eq) h1]
 ·cases h
def smallB(l:List BCon):Bool:=decide (l.length≤1000)&&l.all fun c=>decide (c.rates.length≤1000)
theorem smallB_cons{l:List BCon}(h:smallB l=true):l.length≤maxLen∧∀c∈l,c.rates.length≤maxLen:=by
 simp only[smallB,Bool.and_eq_true,decide_eq_true_eq,List.all_eq_true]at h
 unfold maxLen
 exact⟨by omega,fun c hc=>by have:=h.2 c hc;omega⟩
def pStore:List AV→Heap→Option (Out × Heap)
 | [.agg cs],[]=>(dStore cs).bind fun s=>if smallB s.cons=true then some (.ret (.bool (storeB s)),[])else none
 |_,_=>none
def ratesOKB(l:List BCon):Bool:=l.all fun c=> !c.rates.isEmpty&&decide (c.rates.length≤6)
def pSold:List AV→Heap→Option (Out × Heap)
 | [v,.int .i64 h],[]=>(dSl 11 false dCon v).bind fun x=>if(smallB x.2&&ratesOKB x.2)=true then(match soldF h x.2 (0,0)with|(a,b)=>some (.ret (.tup [.int .i64 a,.int .i64 b]),[]))else none
 |_,_=>none
def pr2:Prims:=⟨fun f=>if f=49 then some pStore else if f=68 then some pSold else pr f,pr.md⟩
theorem pr2_ok:∀f p,pr2 f=some p→∀a h r,p a h=some r→om'.call (.fn f) a h=some r:=by
 intro f p hp a h r hr
 simp only[pr2]at hp
 split at hp
 ·rename_i hf
  subst hf
  cases hp
  unfold pStore at hr
  split at hr
  ·rename_i cs
   obtain⟨s,h1,h2⟩:=Option.bind_eq_some_iff.1 hr
   split at h2
   ·rename_i hs
    cases h2
    rw[dStore_eq h1]
    exact e_store s ⟨(smallB_cons hs).1,(smallB_cons hs).2⟩
   ·cases h2
  ·cases hr
 ·split at hp
  ·rename_i hf
   subst hf
   cases hp
   unfold pSold at hr
   split at hr
   ·rename_i v hour
    obtain⟨x,h1,h2⟩:=Option.bind_eq_some_iff.1 hr
    split at h2
    ·rename_i hs
     simp only[Bool.and_eq_true]at hs
     cases h2
     rw[dSl_eq (fun cs x=>dCon_eq) h1]
     exact e_sold hour (smallB_cons hs.1).1 (fun c hc=>by
      have:=List.all_eq_true.1 hs.2 c hc
      simp only[Bool.and_eq_true,decide_eq_true_eq,Bool.not_eq_eq_eq_not,Bool.not_true,List.isEmpty_eq_false_iff]at this
      exact this)
    ·cases h2
   ·cases hr
  ·exact om_prim hp hr
end Go.Proofs.YtdbiogihimdpcaaGreatDoor
/- Layer 6: the document's examples, evaluated. -/
namespace Go.Proofs.YtdbiogihimdpcaaGreatDoor
open Go.Ev Go
set_option maxRecDepth 100000
set_option maxHeartbeats 16000000
theorem known_orc:(orc Tryz.prog pr2 100).call (.fn 15) [] []=some (.ret (.bool true),[]):=by kernel_rfl
theorem known_ok:om'.call (.fn 15) [] []=some (.ret (.bool true),[]):=ext_call (pr:=pr) (pr2:=pr2) rfl (fun f hf=>by
 simp only[pr2]at hf
 split at hf
 ·cases hf
 ·split at hf
  ·cases hf
  ·exact hf) pr2_ok known_orc
end Go.Proofs.YtdbiogihimdpcaaGreatDoor
