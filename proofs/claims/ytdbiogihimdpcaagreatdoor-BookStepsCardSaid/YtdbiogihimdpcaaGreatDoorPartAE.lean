/- The functions of the layer, walked. -/
import Derived.Test.YtdbiogihimdpcaaGreatDoorPartAD
import Derived.Test.YtdbiogihimdpcaaGreatDoorPartAB
import Derived.Test.YtdbiogihimdpcaaGreatDoorLibD
set_option linter.unusedSimpArgs false
set_option linter.unusedVariables false
/- Layer 6: gas that flows. -/
namespace Go.Proofs.YtdbiogihimdpcaaGreatDoor
open Go.Ev Go
set_option maxRecDepth 100000
set_option maxHeartbeats 16000000
/-- max(0, n), as it is written. -/
def max0(n:Int):Int:=if 0<n then n else 0
def fuelOf(f n:Int):Int:=IntKind.i64.wrap ((IntKind.i64.wrap (max0 n*f)).tdiv 1000)
/-- Gas and fuel behind all flows. -/
def gasF(f:Int):List Int→Nat→List Int × Int→List Int × Int
 | [],_,a=>a
 |n::rest,i,(G,fu)=>gasF f rest (i+1) (sI G i (IntKind.i64.wrap (gI G i+IntKind.i64.wrap (n-fuelOf f n))),IntKind.i64.wrap (fu+fuelOf f n))
theorem h_gasA{s:BStore}{d:BDay}{w w1 w2 w3 w4 w5 w6 w7:Bool}{hr own fuel:Int}{G L W A F R:List Int}{O:List BTrade}(hFG:F.length=G.length)(hl:F.length≤1000):
 ClQ om' 109 [.ptr 0 0 0] [.live 19 false w [(rc s d hr (.slr 1 1 0 G.length) own fuel (.slr 1 2 0 L.length) .nils (.slr 1 3 0 W.length) (.slr 1 4 0 A.length) (.slr 1 5 0 F.length) .nils)],.live 1 true w1 (G.map iv),.live 1 true w2 (L.map iv),.live 1 true w4 (W.map iv),.live 1 true w6 (A.map iv),.live 1 true w7 (F.map iv)]
  fun o h'=>o=.ret (.tup [])∧∃wr wG,(wG=false→(gasF s.fuel F 0 (G,fuel)).1=G)∧(wr=false→(gasF s.fuel F 0 (G,fuel)).2=fuel)∧h'=[.live 19 false wr [(rc s d hr (.slr 1 1 0 G.length) own ((gasF s.fuel F 0 (G,fuel)).2) (.slr 1 2 0 L.length) .nils (.slr 1 3 0 W.length) (.slr 1 4 0 A.length) (.slr 1 5 0 F.length) .nils)],.live 1 true wG ((gasF s.fuel F 0 (G,fuel)).1.map iv),.live 1 true w2 (L.map iv),.live 1 true w4 (W.map iv),.live 1 true w6 (A.map iv),.live 1 true w7 (F.map iv)]:=by
 have hl':F.length≤maxLen:=by unfold maxLen;omega
 refine stOf rfl Tryz.func109 rfl rfl ?_
 simp only[Tryz.f109]
 (have hb:=trivial;with_reducible repeat' (first|simp only[hb,Vb.down,seval,TY109.down,List.length_map]|refine fsp ?_ ?_<;>intro hb|refine fd ?_|fail))
 refine fw_ot (lst 49 F (fun i (zz:List Int × Int × Nat) t h=>t 0=.ptr 0 0 0∧t 9=.slr 1 5 0 F.length∧t 10=.int .i64 F.length∧t 11=.int .i64 i∧(∃wr wG,h=[.live 19 false wr [(rc s d hr (.slr 1 1 0 G.length) own zz.2.1 (.slr 1 2 0 L.length) .nils (.slr 1 3 0 W.length) (.slr 1 4 0 A.length) (.slr 1 5 0 F.length) .nils)],.live 1 true wG (zz.1.map iv),.live 1 true w2 (L.map iv),.live 1 true w4 (W.map iv),.live 1 true w6 (A.map iv),.live 1 true w7 (F.map iv)]∧(wG=false→zz.1=G)∧(wr=false→zz.2.1=fuel)∧zz.1.length=G.length∧i=zz.2.2)) (fun rest zz=>gasF s.fuel rest zz.2.2 (zz.1,zz.2.1)) (fun r e t h=>e=.exit 0∧∃wr wG,h=[.live 19 false wr [(rc s d hr (.slr 1 1 0 G.length) own r.2 (.slr 1 2 0 L.length) .nils (.slr 1 3 0 W.length) (.slr 1 4 0 A.length) (.slr 1 5 0 F.length) .nils)],.live 1 true wG (r.1.map iv),.live 1 true w2 (L.map iv),.live 1 true w4 (W.map iv),.live 1 true w6 (A.map iv),.live 1 true w7 (F.map iv)]∧(wG=false→r.1=G)∧(wr=false→r.2=fuel)) ?_ ?_ (G,fuel,0) _ _ ?_) (fun e t h hk=>?_)
 ·rintro⟨G',fu,k⟩ t h Q' kQ ⟨h0,h9,h10,h11,⟨wr,wG,rfl,hwG,hwr,hG',rfl⟩⟩
  try dsimp only at *
  (have hb:=trivial;with_reducible repeat' (first|simp only[hb,Vb.down,seval,TY109.down,h0,h9,h10,h11,Int.lt_irrefl,decide_false]|refine fsp ?_ ?_<;>intro hb|refine fd ?_|fail))
  exact kQ _ _ _ ⟨rfl,wr,wG,rfl,hwG,hwr⟩
 ·rintro x rest i ⟨G',fu,k⟩ t h J Q' kJ kQ hx hi ⟨h0,h9,h10,h11,⟨wr,wG,rfl,hwG,hwr,hG',rfl⟩⟩
  have hd:decide ((i:Int)<(F.length:Int))=true:=decide_eq_true (by omega)
  have hw:=wrap_next hi hl'
  try dsimp only at *
  have hii:((i:Int)<(F.length:Int))=True:=eq_true (by omega)
  have hig:((i:Int)<(G.length:Int))=True:=eq_true (by omega)
  have a1:G'[i]?=some (gI G' i):=by have:=gI_at (l:=G') (i:=(i:Int)) (by simp;omega);simpa using this
  have a2:∀v,(G'.map iv).set i [.int .i64 v]=(sI G' i v).map iv:=fun v=>by have:=sI_map G' (i:Int) v;simpa using this
  have a3:(if 0<x then x else 0)=max0 x:=rfl
  have a4:IntKind.i64.wrap ((IntKind.i64.wrap (max0 x*s.fuel)).tdiv 1000)=fuelOf s.fuel x:=rfl
  (have hb:=trivial;with_reducible repeat' (first|simp only[hb,Vb.down,seval,TY109.down,h0,h9,h10,h11,hd,hx,hw,hii,hig,iv,List.length_map,a1,a2,a3,a4,Int.natCast_nonneg,Int.reduceEq]|refine fsp ?_ ?_<;>intro hb|refine fd ?_|fail))
  (refine rnd_go (kJ _ _ (sI G' i (IntKind.i64.wrap (gI G' i+IntKind.i64.wrap (x-fuelOf s.fuel x))),IntKind.i64.wrap (fu+fuelOf s.fuel x),i+1) ⟨?_,?_,?_,?_,⟨true,true,rfl,(fun h=>by cases h),(fun h=>by cases h),by rw[sI_length];exact hG',rfl⟩⟩ ?_);(simp[up,h0]);(simp[up,h9]);(simp[up,h10]);(simp[up]);(simp[gasF]))
 ·exact⟨by simp[up,ent],by simp[up,ent],by simp[up,ent],by simp[up],⟨_,_,rfl,fun _=>rfl,fun _=>rfl,rfl,rfl⟩⟩
 ·obtain⟨rfl,wr,wG,rfl,hwG,hwr⟩:=hk
  (have hb:=trivial;with_reducible repeat' (first|simp only[hb,Vb.down,seval,TY109.down]|refine fsp ?_ ?_<;>intro hb|refine fd ?_|fail))
  exact⟨wr,wG,hwG,hwr,rfl⟩
theorem h_gasB{s:BStore}{d:BDay}{w w1 w2 w3 w4 w5 w6 w7:Bool}{hr own fuel:Int}{G L W A F R:List Int}{O:List BTrade}(hFG:F.length=G.length)(hl:F.length≤1000):
 ClQ om' 109 [.ptr 0 0 0] [.live 19 false w [(rc s d hr (.slr 1 1 0 G.length) own fuel (.slr 1 2 0 L.length) (.slr 5 3 0 O.length) (.slr 1 4 0 W.length) (.slr 1 5 0 A.length) (.slr 1 6 0 F.length) .nils)],.live 1 true w1 (G.map iv),.live 1 true w2 (L.map iv),.live 5 true w3 (O.map BTrade.cells),.live 1 true w4 (W.map iv),.live 1 true w6 (A.map iv),.live 1 true w7 (F.map iv)]
  fun o h'=>o=.ret (.tup [])∧∃wr wG,(wG=false→(gasF s.fuel F 0 (G,fuel)).1=G)∧(wr=false→(gasF s.fuel F 0 (G,fuel)).2=fuel)∧h'=[.live 19 false wr [(rc s d hr (.slr 1 1 0 G.length) own ((gasF s.fuel F 0 (G,fuel)).2) (.slr 1 2 0 L.length) (.slr 5 3 0 O.length) (.slr 1 4 0 W.length) (.slr 1 5 0 A.length) (.slr 1 6 0 F.length) .nils)],.live 1 true wG ((gasF s.fuel F 0 (G,fuel)).1.map iv),.live 1 true w2 (L.map iv),.live 5 true w3 (O.map BTrade.cells),.live 1 true w4 (W.map iv),.live 1 true w6 (A.map iv),.live 1 true w7 (F.map iv)]:=by
 have hl':F.length≤maxLen:=by unfold maxLen;omega
 refine stOf rfl Tryz.func109 rfl rfl ?_
 simp only[Tryz.f109]
 (have hb:=trivial;with_reducible repeat' (first|simp only[hb,Vb.down,seval,TY109.down,List.length_map]|refine fsp ?_ ?_<;>intro hb|refine fd ?_|fail))
 refine fw_ot (lst 49 F (fun i (zz:List Int × Int × Nat) t h=>t 0=.ptr 0 0 0∧t 9=.slr 1 6 0 F.length∧t 10=.int .i64 F.length∧t 11=.int .i64 i∧(∃wr wG,h=[.live 19 false wr [(rc s d hr (.slr 1 1 0 G.length) own zz.2.1 (.slr 1 2 0 L.length) (.slr 5 3 0 O.length) (.slr 1 4 0 W.length) (.slr 1 5 0 A.length) (.slr 1 6 0 F.length) .nils)],.live 1 true wG (zz.1.map iv),.live 1 true w2 (L.map iv),.live 5 true w3 (O.map BTrade.cells),.live 1 true w4 (W.map iv),.live 1 true w6 (A.map iv),.live 1 true w7 (F.map iv)]∧(wG=false→zz.1=G)∧(wr=false→zz.2.1=fuel)∧zz.1.length=G.length∧i=zz.2.2)) (fun rest zz=>gasF s.fuel rest zz.2.2 (zz.1,zz.2.1)) (fun r e t h=>e=.exit 0∧∃wr wG,h=[.live 19 false wr [(rc s d hr (.slr 1 1 0 G.length) own r.2 (.slr 1 2 0 L.length) (.slr 5 3 0 O.length) (.slr 1 4 0 W.length) (.slr 1 5 0 A.length) (.slr 1 6 0 F.length) .nils)],.live 1 true wG (r.1.map iv),.live 1 true w2 (L.map iv),.live 5 true w3 (O.map BTrade.cells),.live 1 true w4 (W.map iv),.live 1 true w6 (A.map iv),.live 1 true w7 (F.map iv)]∧(wG=false→r.1=G)∧(wr=false→r.2=fuel)) ?_ ?_ (G,fuel,0) _ _ ?_) (fun e t h hk=>?_)
 ·rintro⟨G',fu,k⟩ t h Q' kQ ⟨h0,h9,h10,h11,⟨wr,wG,rfl,hwG,hwr,hG',rfl⟩⟩
  try dsimp only at *
  (have hb:=trivial;with_reducible repeat' (first|simp only[hb,Vb.down,seval,TY109.down,h0,h9,h10,h11,Int.lt_irrefl,decide_false]|refine fsp ?_ ?_<;>intro hb|refine fd ?_|fail))
  exact kQ _ _ _ ⟨rfl,wr,wG,rfl,hwG,hwr⟩
 ·rintro x rest i ⟨G',fu,k⟩ t h J Q' kJ kQ hx hi ⟨h0,h9,h10,h11,⟨wr,wG,rfl,hwG,hwr,hG',rfl⟩⟩
  have hd:decide ((i:Int)<(F.length:Int))=true:=decide_eq_true (by omega)
  have hw:=wrap_next hi hl'
  try dsimp only at *
  have hii:((i:Int)<(F.length:Int))=True:=eq_true (by omega)
  have hig:((i:Int)<(G.length:Int))=True:=eq_true (by omega)
  have a1:G'[i]?=some (gI G' i):=by have:=gI_at (l:=G') (i:=(i:Int)) (by simp;omega);simpa using this
  have a2:∀v,(G'.map iv).set i [.int .i64 v]=(sI G' i v).map iv:=fun v=>by have:=sI_map G' (i:Int) v;simpa using this
  have a3:(if 0<x then x else 0)=max0 x:=rfl
  have a4:IntKind.i64.wrap ((IntKind.i64.wrap (max0 x*s.fuel)).tdiv 1000)=fuelOf s.fuel x:=rfl
  (have hb:=trivial;with_reducible repeat' (first|simp only[hb,Vb.down,seval,TY109.down,h0,h9,h10,h11,hd,hx,hw,hii,hig,iv,List.length_map,a1,a2,a3,a4,Int.natCast_nonneg,Int.reduceEq]|refine fsp ?_ ?_<;>intro hb|refine fd ?_|fail))
  (refine rnd_go (kJ _ _ (sI G' i (IntKind.i64.wrap (gI G' i+IntKind.i64.wrap (x-fuelOf s.fuel x))),IntKind.i64.wrap (fu+fuelOf s.fuel x),i+1) ⟨?_,?_,?_,?_,⟨true,true,rfl,(fun h=>by cases h),(fun h=>by cases h),by rw[sI_length];exact hG',rfl⟩⟩ ?_);(simp[up,h0]);(simp[up,h9]);(simp[up,h10]);(simp[up]);(simp[gasF]))
 ·exact⟨by simp[up,ent],by simp[up,ent],by simp[up,ent],by simp[up],⟨_,_,rfl,fun _=>rfl,fun _=>rfl,rfl,rfl⟩⟩
 ·obtain⟨rfl,wr,wG,rfl,hwG,hwr⟩:=hk
  (have hb:=trivial;with_reducible repeat' (first|simp only[hb,Vb.down,seval,TY109.down]|refine fsp ?_ ?_<;>intro hb|refine fd ?_|fail))
  exact⟨wr,wG,hwG,hwr,rfl⟩
theorem h_gasC{s:BStore}{d:BDay}{w w1 w2 w3 w4 w5 w6 w7:Bool}{hr own fuel:Int}{G L W A F R:List Int}{O:List BTrade}(hFG:F.length=G.length)(hl:F.length≤1000):
 ClQ om' 109 [.ptr 0 0 0] [.live 19 false w [(rc s d hr (.slr 1 1 0 G.length) own fuel (.slr 1 2 0 L.length) .nils (.slr 1 3 0 W.length) (.slr 1 4 0 A.length) (.slr 1 5 0 F.length) (.slr 1 6 0 R.length))],.live 1 true w1 (G.map iv),.live 1 true w2 (L.map iv),.live 1 true w4 (W.map iv),.live 1 true w6 (A.map iv),.live 1 true w7 (F.map iv),.live 1 true w5 (R.map iv)]
  fun o h'=>o=.ret (.tup [])∧∃wr wG,(wG=false→(gasF s.fuel F 0 (G,fuel)).1=G)∧(wr=false→(gasF s.fuel F 0 (G,fuel)).2=fuel)∧h'=[.live 19 false wr [(rc s d hr (.slr 1 1 0 G.length) own ((gasF s.fuel F 0 (G,fuel)).2) (.slr 1 2 0 L.length) .nils (.slr 1 3 0 W.length) (.slr 1 4 0 A.length) (.slr 1 5 0 F.length) (.slr 1 6 0 R.length))],.live 1 true wG ((gasF s.fuel F 0 (G,fuel)).1.map iv),.live 1 true w2 (L.map iv),.live 1 true w4 (W.map iv),.live 1 true w6 (A.map iv),.live 1 true w7 (F.map iv),.live 1 true w5 (R.map iv)]:=by
 have hl':F.length≤maxLen:=by unfold maxLen;omega
 refine stOf rfl Tryz.func109 rfl rfl ?_
 simp only[Tryz.f109]
 (have hb:=trivial;with_reducible repeat' (first|simp only[hb,Vb.down,seval,TY109.down,List.length_map]|refine fsp ?_ ?_<;>intro hb|refine fd ?_|fail))
 refine fw_ot (lst 49 F (fun i (zz:List Int × Int × Nat) t h=>t 0=.ptr 0 0 0∧t 9=.slr 1 5 0 F.length∧t 10=.int .i64 F.length∧t 11=.int .i64 i∧(∃wr wG,h=[.live 19 false wr [(rc s d hr (.slr 1 1 0 G.length) own zz.2.1 (.slr 1 2 0 L.length) .nils (.slr 1 3 0 W.length) (.slr 1 4 0 A.length) (.slr 1 5 0 F.length) (.slr 1 6 0 R.length))],.live 1 true wG (zz.1.map iv),.live 1 true w2 (L.map iv),.live 1 true w4 (W.map iv),.live 1 true w6 (A.map iv),.live 1 true w7 (F.map iv),.live 1 true w5 (R.map iv)]∧(wG=false→zz.1=G)∧(wr=false→zz.2.1=fuel)∧zz.1.length=G.length∧i=zz.2.2)) (fun rest zz=>gasF s.fuel rest zz.2.2 (zz.1,zz.2.1)) (fun r e t h=>e=.exit 0∧∃wr wG,h=[.live 19 false wr [(rc s d hr (.slr 1 1 0 G.length) own r.2 (.slr 1 2 0 L.length) .nils (.slr 1 3 0 W.length) (.slr 1 4 0 A.length) (.slr 1 5 0 F.length) (.slr 1 6 0 R.length))],.live 1 true wG (r.1.map iv),.live 1 true w2 (L.map iv),.live 1 true w4 (W.map iv),.live 1 true w6 (A.map iv),.live 1 true w7 (F.map iv),.live 1 true w5 (R.map iv)]∧(wG=false→r.1=G)∧(wr=false→r.2=fuel)) ?_ ?_ (G,fuel,0) _ _ ?_) (fun e t h hk=>?_)
 ·rintro⟨G',fu,k⟩ t h Q' kQ ⟨h0,h9,h10,h11,⟨wr,wG,rfl,hwG,hwr,hG',rfl⟩⟩
  try dsimp only at *
  (have hb:=trivial;with_reducible repeat' (first|simp only[hb,Vb.down,seval,TY109.down,h0,h9,h10,h11,Int.lt_irrefl,decide_false]|refine fsp ?_ ?_<;>intro hb|refine fd ?_|fail))
  exact kQ _ _ _ ⟨rfl,wr,wG,rfl,hwG,hwr⟩
 ·rintro x rest i ⟨G',fu,k⟩ t h J Q' kJ kQ hx hi ⟨h0,h9,h10,h11,⟨wr,wG,rfl,hwG,hwr,hG',rfl⟩⟩
  have hd:decide ((i:Int)<(F.length:Int))=true:=decide_eq_true (by omega)
  have hw:=wrap_next hi hl'
  try dsimp only at *
  have hii:((i:Int)<(F.length:Int))=True:=eq_true (by omega)
  have hig:((i:Int)<(G.length:Int))=True:=eq_true (by omega)
  have a1:G'[i]?=some (gI G' i):=by have:=gI_at (l:=G') (i:=(i:Int)) (by simp;omega);simpa using this
  have a2:∀v,(G'.map iv).set i [.int .i64 v]=(sI G' i v).map iv:=fun v=>by have:=sI_map G' (i:Int) v;simpa using this
  have a3:(if 0<x then x else 0)=max0 x:=rfl
  have a4:IntKind.i64.wrap ((IntKind.i64.wrap (max0 x*s.fuel)).tdiv 1000)=fuelOf s.fuel x:=rfl
  (have hb:=trivial;with_reducible repeat' (first|simp only[hb,Vb.down,seval,TY109.down,h0,h9,h10,h11,hd,hx,hw,hii,hig,iv,List.length_map,a1,a2,a3,a4,Int.natCast_nonneg,Int.reduceEq]|refine fsp ?_ ?_<;>intro hb|refine fd ?_|fail))
  (refine rnd_go (kJ _ _ (sI G' i (IntKind.i64.wrap (gI G' i+IntKind.i64.wrap (x-fuelOf s.fuel x))),IntKind.i64.wrap (fu+fuelOf s.fuel x),i+1) ⟨?_,?_,?_,?_,⟨true,true,rfl,(fun h=>by cases h),(fun h=>by cases h),by rw[sI_length];exact hG',rfl⟩⟩ ?_);(simp[up,h0]);(simp[up,h9]);(simp[up,h10]);(simp[up]);(simp[gasF]))
 ·exact⟨by simp[up,ent],by simp[up,ent],by simp[up,ent],by simp[up],⟨_,_,rfl,fun _=>rfl,fun _=>rfl,rfl,rfl⟩⟩
 ·obtain⟨rfl,wr,wG,rfl,hwG,hwr⟩:=hk
  (have hb:=trivial;with_reducible repeat' (first|simp only[hb,Vb.down,seval,TY109.down]|refine fsp ?_ ?_<;>intro hb|refine fd ?_|fail))
  exact⟨wr,wG,hwG,hwr,rfl⟩
theorem h_gasD{s:BStore}{d:BDay}{w w1 w2 w3 w4 w5 w6 w7:Bool}{hr own fuel:Int}{G L W A F R:List Int}{O:List BTrade}(hFG:F.length=G.length)(hl:F.length≤1000):
 ClQ om' 109 [.ptr 0 0 0] [.live 19 false w [(rc s d hr (.slr 1 1 0 G.length) own fuel (.slr 1 2 0 L.length) (.slr 5 3 0 O.length) (.slr 1 4 0 W.length) (.slr 1 5 0 A.length) (.slr 1 6 0 F.length) (.slr 1 7 0 R.length))],.live 1 true w1 (G.map iv),.live 1 true w2 (L.map iv),.live 5 true w3 (O.map BTrade.cells),.live 1 true w4 (W.map iv),.live 1 true w6 (A.map iv),.live 1 true w7 (F.map iv),.live 1 true w5 (R.map iv)]
  fun o h'=>o=.ret (.tup [])∧∃wr wG,(wG=false→(gasF s.fuel F 0 (G,fuel)).1=G)∧(wr=false→(gasF s.fuel F 0 (G,fuel)).2=fuel)∧h'=[.live 19 false wr [(rc s d hr (.slr 1 1 0 G.length) own ((gasF s.fuel F 0 (G,fuel)).2) (.slr 1 2 0 L.length) (.slr 5 3 0 O.length) (.slr 1 4 0 W.length) (.slr 1 5 0 A.length) (.slr 1 6 0 F.length) (.slr 1 7 0 R.length))],.live 1 true wG ((gasF s.fuel F 0 (G,fuel)).1.map iv),.live 1 true w2 (L.map iv),.live 5 true w3 (O.map BTrade.cells),.live 1 true w4 (W.map iv),.live 1 true w6 (A.map iv),.live 1 true w7 (F.map iv),.live 1 true w5 (R.map iv)]:=by
 have hl':F.length≤maxLen:=by unfold maxLen;omega
 refine stOf rfl Tryz.func109 rfl rfl ?_
 simp only[Tryz.f109]
 (have hb:=trivial;with_reducible repeat' (first|simp only[hb,Vb.down,seval,TY109.down,List.length_map]|refine fsp ?_ ?_<;>intro hb|refine fd ?_|fail))
 refine fw_ot (lst 49 F (fun i (zz:List Int × Int × Nat) t h=>t 0=.ptr 0 0 0∧t 9=.slr 1 6 0 F.length∧t 10=.int .i64 F.length∧t 11=.int .i64 i∧(∃wr wG,h=[.live 19 false wr [(rc s d hr (.slr 1 1 0 G.length) own zz.2.1 (.slr 1 2 0 L.length) (.slr 5 3 0 O.length) (.slr 1 4 0 W.length) (.slr 1 5 0 A.length) (.slr 1 6 0 F.length) (.slr 1 7 0 R.length))],.live 1 true wG (zz.1.map iv),.live 1 true w2 (L.map iv),.live 5 true w3 (O.map BTrade.cells),.live 1 true w4 (W.map iv),.live 1 true w6 (A.map iv),.live 1 true w7 (F.map iv),.live 1 true w5 (R.map iv)]∧(wG=false→zz.1=G)∧(wr=false→zz.2.1=fuel)∧zz.1.length=G.length∧i=zz.2.2)) (fun rest zz=>gasF s.fuel rest zz.2.2 (zz.1,zz.2.1)) (fun r e t h=>e=.exit 0∧∃wr wG,h=[.live 19 false wr [(rc s d hr (.slr 1 1 0 G.length) own r.2 (.slr 1 2 0 L.length) (.slr 5 3 0 O.length) (.slr 1 4 0 W.length) (.slr 1 5 0 A.length) (.slr 1 6 0 F.length) (.slr 1 7 0 R.length))],.live 1 true wG (r.1.map iv),.live 1 true w2 (L.map iv),.live 5 true w3 (O.map BTrade.cells),.live 1 true w4 (W.map iv),.live 1 true w6 (A.map iv),.live 1 true w7 (F.map iv),.live 1 true w5 (R.map iv)]∧(wG=false→r.1=G)∧(wr=false→r.2=fuel)) ?_ ?_ (G,fuel,0) _ _ ?_) (fun e t h hk=>?_)
 ·rintro⟨G',fu,k⟩ t h Q' kQ ⟨h0,h9,h10,h11,⟨wr,wG,rfl,hwG,hwr,hG',rfl⟩⟩
  try dsimp only at *
  (have hb:=trivial;with_reducible repeat' (first|simp only[hb,Vb.down,seval,TY109.down,h0,h9,h10,h11,Int.lt_irrefl,decide_false]|refine fsp ?_ ?_<;>intro hb|refine fd ?_|fail))
  exact kQ _ _ _ ⟨rfl,wr,wG,rfl,hwG,hwr⟩
 ·rintro x rest i ⟨G',fu,k⟩ t h J Q' kJ kQ hx hi ⟨h0,h9,h10,h11,⟨wr,wG,rfl,hwG,hwr,hG',rfl⟩⟩
  have hd:decide ((i:Int)<(F.length:Int))=true:=decide_eq_true (by omega)
  have hw:=wrap_next hi hl'
  try dsimp only at *
  have hii:((i:Int)<(F.length:Int))=True:=eq_true (by omega)
  have hig:((i:Int)<(G.length:Int))=True:=eq_true (by omega)
  have a1:G'[i]?=some (gI G' i):=by have:=gI_at (l:=G') (i:=(i:Int)) (by simp;omega);simpa using this
  have a2:∀v,(G'.map iv).set i [.int .i64 v]=(sI G' i v).map iv:=fun v=>by have:=sI_map G' (i:Int) v;simpa using this
  have a3:(if 0<x then x else 0)=max0 x:=rfl
  have a4:IntKind.i64.wrap ((IntKind.i64.wrap (max0 x*s.fuel)).tdiv 1000)=fuelOf s.fuel x:=rfl
  (have hb:=trivial;with_reducible repeat' (first|simp only[hb,Vb.down,seval,TY109.down,h0,h9,h10,h11,hd,hx,hw,hii,hig,iv,List.length_map,a1,a2,a3,a4,Int.natCast_nonneg,Int.reduceEq]|refine fsp ?_ ?_<;>intro hb|refine fd ?_|fail))
  (refine rnd_go (kJ _ _ (sI G' i (IntKind.i64.wrap (gI G' i+IntKind.i64.wrap (x-fuelOf s.fuel x))),IntKind.i64.wrap (fu+fuelOf s.fuel x),i+1) ⟨?_,?_,?_,?_,⟨true,true,rfl,(fun h=>by cases h),(fun h=>by cases h),by rw[sI_length];exact hG',rfl⟩⟩ ?_);(simp[up,h0]);(simp[up,h9]);(simp[up,h10]);(simp[up]);(simp[gasF]))
 ·exact⟨by simp[up,ent],by simp[up,ent],by simp[up,ent],by simp[up],⟨_,_,rfl,fun _=>rfl,fun _=>rfl,rfl,rfl⟩⟩
 ·obtain⟨rfl,wr,wG,rfl,hwG,hwr⟩:=hk
  (have hb:=trivial;with_reducible repeat' (first|simp only[hb,Vb.down,seval,TY109.down]|refine fsp ?_ ?_<;>intro hb|refine fd ?_|fail))
  exact⟨wr,wG,hwG,hwr,rfl⟩
def quoW(c:BCon)(gas:Int):Int:=IntKind.i64.wrap ((IntKind.i64.wrap (1000*gas)).tdiv c.space)
def rateF(q:Int):List BRate→BRate→BRate
 | [],o=>o
 |r::rest,o=>rateF q rest (if r.fill≤q then r else o)
theorem e_rate(c:BCon)(gas:Int)(r0:BRate)(hr0:c.rates[0]?=some r0)(hl:c.rates.length≤maxLen)(hs:c.space≠0):om'.call (.fn 132) [.agg [.bool c.firm,.int .i64 c.space,.int .i64 c.lo,.int .i64 c.hi,slv 3 true c.nn (c.rates.map BRate.cells),.int .i64 c.gas,.int .i64 c.fixed,.int .i64 c.inn,.int .i64 c.out,.int .i64 c.cut,.int .i64 c.lack],.int .i64 gas] []=some (.ret (.agg (rateF (quoW c gas) c.rates r0).cells),[]):=by
 have hz:(c.space=0)=False:=eq_false hs
 (refine ce Tryz.func132 ?_;simp only[Tryz.f132];(have hb:=trivial;with_reducible repeat' (first|simp only[hb,Va.down,seval,TY132.down,List.length_map,hr0,BRate.cells,Int.le_refl,Int.toNat_zero]|refine fsp ?_ ?_<;>intro hb|refine fd ?_|fail)))
 refine fw_ot (lst 30 c.rates (fun i (o:Bool × BRate) t h=>(∃K,h=[.live 11 false false [[.bool c.firm,.int .i64 c.space,.int .i64 c.lo,.int .i64 c.hi,slv 3 true c.nn (c.rates.map BRate.cells),.int .i64 c.gas,.int .i64 c.fixed,.int .i64 c.inn,.int .i64 c.out,.int .i64 c.cut,.int .i64 c.lack]],.live 3 true false [[.int .i64 0,.int .i64 0,.int .i64 0]],.live 3 true o.1 [[.int .i64 o.2.fill,.int .i64 o.2.inn,.int .i64 o.2.out]]]++K)∧t 1=.int .i64 gas∧t 2=.ptr 0 0 0∧t 4=.ptr 1 0 0∧t 5=.ptr 2 0 0∧t 13=slv 3 true c.nn (c.rates.map BRate.cells)∧t 14=.int .i64 c.rates.length∧t 15=.int .i64 i)
  (fun rest o=>rateF (quoW c gas) rest o.2) (fun r e t h=>e=.exit 0∧(∃w K,h=[.live 11 false false [[.bool c.firm,.int .i64 c.space,.int .i64 c.lo,.int .i64 c.hi,slv 3 true c.nn (c.rates.map BRate.cells),.int .i64 c.gas,.int .i64 c.fixed,.int .i64 c.inn,.int .i64 c.out,.int .i64 c.cut,.int .i64 c.lack]],.live 3 true false [[.int .i64 0,.int .i64 0,.int .i64 0]],.live 3 true w [[.int .i64 r.fill,.int .i64 r.inn,.int .i64 r.out]]]++K)∧t 4=.ptr 1 0 0∧t 5=.ptr 2 0 0) ?_ ?_ (true,r0) _ _ ?_) (fun e t h hk=>?_)
 ·rintro⟨w,o⟩ t h Q' kQ ⟨⟨K,rfl⟩,h1,h2,h4,h5,h13,h14,h15⟩
  (have hb:=trivial;with_reducible repeat' (first|simp only[hb,Va.down,seval,TY132.down,h14,h15,Int.lt_irrefl,decide_false]|refine fsp ?_ ?_<;>intro hb|refine fd ?_|fail))
  exact kQ _ _ _ ⟨rfl,⟨w,K,rfl⟩,by simp[up,h4],by simp[up,h5]⟩
 ·rintro x rest i ⟨w,o⟩ t h J Q' kJ kQ hx hi ⟨⟨K,rfl⟩,h1,h2,h4,h5,h13,h14,h15⟩
  have hd:decide ((i:Int)<(c.rates.length:Int))=true:=by simpa using hi
  have hw:=wrap_next hi hl
  (have hb:=trivial;with_reducible repeat' (first|simp only[hb,Va.down,seval,TY132.down,h1,h2,h4,h5,h13,h14,h15,hd,hw,hx,hz,BRate.cells]|refine fsp ?_ ?_<;>intro hb|refine fd ?_|fail))
  ·exact rnd_go (kJ _ _ (true,x) ⟨⟨_,rfl⟩,by simp[up,h1],by simp[up,h2],by simp[up,h4],by simp[up,h5],by simp[up,h13],by simp[up,h14],by simp[up]⟩ (by rw[decide_eq_true_eq]at hb;simp only[rateF];rw[if_pos (by exact hb)]))
  ·exact rnd_go (kJ _ _ (w,o) ⟨⟨_,rfl⟩,by simp[up,h1],by simp[up,h2],by simp[up,h4],by simp[up,h5],by simp[up,h13],by simp[up,h14],by simp[up]⟩ (by rw[decide_eq_false_iff_not]at hb;simp only[rateF];rw[if_neg (by exact hb)]))
 ·exact⟨⟨[],rfl⟩,by simp[up,ent],by simp[up],by simp[up],by simp[up],by simp[up],by simp[up],by simp[up]⟩
 ·obtain⟨rfl,⟨w,K,rfl⟩,h4,h5⟩:=hk
  (have hb:=trivial;with_reducible repeat' (first|simp only[hb,Va.down,seval,TY132.down,h4,h5]|refine fsp ?_ ?_<;>intro hb|refine fd ?_|fail))
  all_goals rfl
def rateAt(l:List BRate)(n:Nat):BRate:=(l[n]?).getD ⟨0,0,0⟩
def rateR(q:Int)(l:List BRate):Nat→BRate
 |0=>rateAt l 0
 |n+1=>if q<(rateAt l (n+1)).fill then rateR q l n else rateAt l (n+1)
theorem r_Rate(c:BCon)(gas:Int)(r0:BRate)(hr0:c.rates[0]?=some r0)(h0:r0.fill≤quoW c gas)(hl:c.rates.length≤maxLen)(hs:c.space≠0):om'.call (.fn 116) [.agg [.bool c.firm,.int .i64 c.space,.int .i64 c.lo,.int .i64 c.hi,slv 3 true c.nn (c.rates.map BRate.cells),.int .i64 c.gas,.int .i64 c.fixed,.int .i64 c.inn,.int .i64 c.out,.int .i64 c.cut,.int .i64 c.lack],.int .i64 gas] []=some (.ret (.agg (rateR (quoW c gas) c.rates (c.rates.length-1)).cells),[]):=by
 have hz:(c.space=0)=False:=eq_false hs
 have hpos:0<c.rates.length:=(List.getElem?_eq_some_iff.1 hr0).1
 have hlast:IntKind.i64.wrap ((c.rates.length:Int)-1)=((c.rates.length-1:Nat):Int):=by
  unfold maxLen at hl
  rw[wrap_of (by omega) (by omega)];omega
 (refine ce Tryz.func116 ?_;simp only[Tryz.f116];(have hb:=trivial;with_reducible repeat' (first|simp only[hb,Va.down,seval,TY116.down,List.length_map,hlast]|refine fsp ?_ ?_<;>intro hb|refine fd ?_|fail)))
 refine fw_ot (cnt 29 (fun n (_:Unit) t h=>n<c.rates.length∧h=[.live 11 false false [[.bool c.firm,.int .i64 c.space,.int .i64 c.lo,.int .i64 c.hi,slv 3 true c.nn (c.rates.map BRate.cells),.int .i64 c.gas,.int .i64 c.fixed,.int .i64 c.inn,.int .i64 c.out,.int .i64 c.cut,.int .i64 c.lack]],.live 3 true false [[.int .i64 0,.int .i64 0,.int .i64 0]]]∧t 1=.int .i64 gas∧t 2=.ptr 0 0 0∧t 4=.ptr 1 0 0∧t 5=.int .i64 n)
  (fun n _=>rateR (quoW c gas) c.rates n) (fun r e t h=>e=.exit 0∧h=[.live 11 false false [[.bool c.firm,.int .i64 c.space,.int .i64 c.lo,.int .i64 c.hi,slv 3 true c.nn (c.rates.map BRate.cells),.int .i64 c.gas,.int .i64 c.fixed,.int .i64 c.inn,.int .i64 c.out,.int .i64 c.cut,.int .i64 c.lack]],.live 3 true false [[.int .i64 0,.int .i64 0,.int .i64 0]]]∧t 2=.ptr 0 0 0∧t 4=.ptr 1 0 0∧∃k:Nat,t 5=.int .i64 k∧c.rates[k]?=some r) ?_ ?_ (c.rates.length-1) () _ _ ?_) (fun e t h hk=>?_)
 ·rintro _ t h Q' kQ ⟨hn,rfl,h1,h2,h4,h5⟩
  have hd:decide (quoW c gas<r0.fill)=false:=by rw[decide_eq_false_iff_not];omega
  simp only[quoW]at hd
  have h5':t 5=.int .i64 0:=h5
  (have hb:=trivial;with_reducible repeat' (first|simp only[hb,Va.down,seval,TY116.down,h1,h2,h4,h5',hz,hr0,BRate.cells,Int.le_refl,Int.toNat_zero,hd]|refine fsp ?_ ?_<;>intro hb|refine fd ?_|fail))
  all_goals first
   |exact kQ _ _ _ ⟨rfl,rfl,by simp[up,h2],by simp[up,h4],0,by simp[up,h5'],by simp[rateR,rateAt,hr0]⟩
   |(exfalso;simp only[quoW]at h0;rw[decide_eq_true_eq]at hb;omega)
 ·rintro n _ t h J Q' kJ kQ ⟨hn,rfl,h1,h2,h4,h5⟩
  obtain⟨x,hx⟩:∃x,c.rates[n+1]?=some x:=⟨c.rates[n+1],List.getElem?_eq_getElem hn⟩
  have hw:IntKind.i64.wrap (((n+1:Nat):Int)-1)=(n:Int):=by unfold maxLen at hl;rw[wrap_of (by omega) (by omega)];omega
  (have hb:=trivial;with_reducible repeat' (first|simp only[hb,Va.down,seval,TY116.down,h1,h2,h4,h5,hz,hx,BRate.cells,hw]|refine fsp ?_ ?_<;>intro hb|refine fd ?_|fail))
  ·exact rnd_go (kJ _ _ () ⟨by omega,rfl,by simp[up,h1],by simp[up,h2],by simp[up,h4],by simp[up]⟩ (by rw[decide_eq_true_eq]at hb;simp only[rateR,rateAt,hx,Option.getD_some];rw[if_pos (by exact hb)]))
  ·exact kQ _ _ _ ⟨rfl,rfl,by simp[up,h2],by simp[up,h4],n+1,by simp[up,h5],by rw[decide_eq_false_iff_not]at hb;simp only[rateR,rateAt,hx,Option.getD_some];rw[if_neg (by exact hb)]⟩
 ·exact⟨by omega,rfl,by simp[up,ent],by simp[up],by simp[up],by simp[up]⟩
 ·obtain⟨rfl,rfl,h2,h4,k,h5,hx⟩:=hk
  (have hb:=trivial;with_reducible repeat' (first|simp only[hb,Va.down,seval,TY116.down,h2,h4,h5,hx,BRate.cells]|refine fsp ?_ ?_<;>intro hb|refine fd ?_|fail))
  all_goals rfl
theorem rateF_snoc(q:Int):∀(l:List BRate) (r o:BRate),rateF q (l++[r]) o=if r.fill≤q then r else rateF q l o
 | [],r,o=>rfl
 |x::l,r,o=>by simp only[List.cons_append,rateF];exact rateF_snoc q l r _
theorem rateF_R(q:Int)(l:List BRate)(r0:BRate)(hr0:l[0]?=some r0):∀n,n<l.length→rateF q (l.take (n+1)) r0=rateR q l n
 |0,h=>by
  have:l.take 1=[r0]:=by rw[List.take_add_one,hr0];rfl
  rw[this]
  simp[rateF,rateR,rateAt,hr0]
 |n+1,h=>by
  obtain⟨x,hx⟩:∃x,l[n+1]?=some x:=⟨l[n+1],List.getElem?_eq_getElem h⟩
  rw[List.take_add_one,hx]
  simp only[Option.toList_some]
  rw[rateF_snoc,rateF_R q l r0 hr0 n (by omega)]
  simp only[rateR,rateAt,hx,Option.getD_some]
  by_cases hq:x.fill≤q
  ·rw[if_pos hq,if_neg (by omega)]
  ·rw[if_neg hq,if_pos (by omega)]
theorem rateF_all(q:Int)(l:List BRate)(r0:BRate)(hr0:l[0]?=some r0):rateF q l r0=rateR q l (l.length-1):=by
 have hpos:0<l.length:=(List.getElem?_eq_some_iff.1 hr0).1
 have:=rateF_R q l r0 hr0 (l.length-1) (by omega)
 rwa[show l.length-1+1=l.length by omega,List.take_length]at this
theorem stRn{vs:List AV}{b:Nat}{h:Heap}{ps:List Nat}{asg body:Code}{tm:List AV}{st:LSt}{Q:Out→Heap→Prop}(hb:h[b]?=some (.lp ps asg body tm st))(hl:ps.length=vs.length)
 (he:RnE b Q (rndA om' Tryz.prog b body (evM om' Tryz.prog 5000 asg [] ⟨setPs tm ps vs,h⟩))):RnQ om' (vs++[.yl b]) h Q:=RnQ.start (pr:=pr) hb hl he
theorem quietH_cl{g:Heap}(h:quietH g=true):quietH (clH g)=true:=by
 simp only[quietH,clH,List.all_eq_true,List.mem_map]at h ⊢
 rintro c ⟨c',hc',rfl⟩
 have:=h c' hc'
 cases c'<;>simp_all[CB.quiet,CB.clean,CB.same]
def actF{σ:Type}(st:Nat→BCon→σ→σ):List BCon→Nat→σ→σ
 | [],_,a=>a
 |c::rest,i,a=>actF st rest (i+1) (st i c a)
theorem h_active{s:BStore}{d:BDay}{hr:Int}{y:AV}{σ:Type}(st:Nat→BCon→σ→σ)(Inv:Nat→σ→Heap→Prop)(hl:s.cons.length≤maxLen)
 (hI:∀i a h,Inv i a h→∃fl w gv own fuel lv ov wv av fv rv,h[0]?=some (.live 19 fl w [(rc s d hr gv own fuel lv ov wv av fv rv)]))
 (hA:∀i a h fl w (rows:List (List AV)),Inv i a h→Inv i a (h++[.live 11 fl w rows]))
 (hR:∀(i:Nat) (c:BCon) a h,s.cons[i]?=some c→inB hr c.lo c.hi=true→Inv i a h→∃es,cl om' h (some y) (some [.int .i64 i,.agg [.bool c.firm,.int .i64 c.space,.int .i64 c.lo,.int .i64 c.hi,slv 3 true c.nn (c.rates.map BRate.cells),.int .i64 c.gas,.int .i64 c.fixed,.int .i64 c.inn,.int .i64 c.out,.int .i64 c.cut,.int .i64 c.lack]])=some (.ret (.bool true),es)∧Inv (i+1) (st i c a) (happ h es))
 (hN:∀(i:Nat) (c:BCon) a h,s.cons[i]?=some c→inB hr c.lo c.hi=false→Inv i a h→Inv (i+1) (st i c a) h)
 (a0:σ) {h0:Heap} (h0I:Inv 0 a0 h0):
 ShQ om' 131 [.ptr 0 0 0,y] h0 fun o h'=>o=.ret (.tup [])∧Inv s.cons.length (actF st s.cons 0 a0) h':=by
 obtain⟨fl,w,gv,own,fuel,lv,ov,wv,av,fv,rv,hB⟩:=hI _ _ _ h0I
 refine stSh rfl Tryz.func131 rfl rfl ?_
 simp only[Tryz.f131]
 (have hb:=trivial;with_reducible repeat' (first|simp only[hb,Vc.down,seval,TY131.down,hB,List.length_map]|refine fsp ?_ ?_<;>intro hb|refine fd ?_|fail))
 refine fw_ot (lst 32 s.cons (fun i (zz:σ × Nat) t h=>t 0=.ptr 0 0 0∧t 1=y∧t 10=slv 11 false s.nn (s.cons.map BCon.cells)∧t 11=.int .i64 s.cons.length∧t 12=.int .i64 i∧(Inv i zz.1 h∧i=zz.2)) (fun rest zz=>actF st rest zz.2 zz.1) (fun r e t h=>e=.exit 0∧Inv s.cons.length r h) ?_ ?_ (a0,0) _ _ ?_) (fun e t h hk=>?_)
 ·rintro⟨a,k⟩ t h Q' kQ ⟨h0,h1,h10,h11,h12,⟨hv,rfl⟩⟩
  try dsimp only at *
  (have hb:=trivial;with_reducible repeat' (first|simp only[hb,Vc.down,seval,TY131.down,h0,h1,h10,h11,h12,Int.lt_irrefl,decide_false]|refine fsp ?_ ?_<;>intro hb|refine fd ?_|fail))
  exact kQ _ _ _ ⟨rfl,hv⟩
 ·rintro x rest i ⟨a,k⟩ t h J Q' kJ kQ hx hi ⟨h0,h1,h10,h11,h12,⟨hv,rfl⟩⟩
  have hd:decide ((i:Int)<(s.cons.length:Int))=true:=decide_eq_true (by omega)
  have hw:=wrap_next hi hl
  try dsimp only at *
  obtain⟨fl,w,gv,own,fuel,lv,ov,wv,av,fv,rv,hB⟩:=hI _ _ _ hv
  have hB1:=get_app hB
  have hii:((i:Int)<(s.cons.length:Int))=True:=eq_true (by omega)
  have hv1:=hA _ _ _ false true [[.bool x.firm,.int .i64 x.space,.int .i64 x.lo,.int .i64 x.hi,slv 3 true x.nn (x.rates.map BRate.cells),.int .i64 x.gas,.int .i64 x.fixed,.int .i64 x.inn,.int .i64 x.out,.int .i64 x.cut,.int .i64 x.lack]] hv
  have hac:=e_active x x.firm hr
  cases hact:inB hr x.lo x.hi with
  |false=>
   rw[hact]at hac
   (have hb:=trivial;with_reducible repeat' (first|simp only[hb,Vc.down,seval,TY131.down,h0,h1,h10,h11,h12,hd,hx,hw,hii,hB1,BCon.cells,hac]|refine fsp ?_ ?_<;>intro hb|refine fd ?_|fail))
   (refine rnd_go (kJ _ _ (st i x a,i+1) ⟨?_,?_,?_,?_,?_,⟨hN _ _ _ _ hx hact hv1,rfl⟩⟩ ?_);(simp[up,h0]);(simp[up,h1]);(simp[up,h10]);(simp[up,h11]);(simp[up]);(simp[actF]))
  |true=>
   rw[hact]at hac
   obtain⟨es,hes,hv2⟩:=hR _ _ _ _ hx hact hv1
   (have hb:=trivial;with_reducible repeat' (first|simp only[hb,Vc.down,seval,TY131.down,h0,h1,h10,h11,h12,hd,hx,hw,hii,hB1,BCon.cells,hac,hes]|refine fsp ?_ ?_<;>intro hb|refine fd ?_|fail))
   (refine rnd_go (kJ _ _ (st i x a,i+1) ⟨?_,?_,?_,?_,?_,⟨hv2,rfl⟩⟩ ?_);(simp[up,h0]);(simp[up,h1]);(simp[up,h10]);(simp[up,h11]);(simp[up]);(simp[actF]))
 ·exact⟨by simp[up,ent],by simp[up,ent],by simp[up,ent],by simp[up,ent],by simp[up],⟨h0I,rfl⟩⟩
 ·obtain⟨rfl,hv⟩:=hk
  (have hb:=trivial;with_reducible repeat' (first|simp only[hb,Vc.down,seval,TY131.down]|refine fsp ?_ ?_<;>intro hb|refine fd ?_|fail))
  exact hv
def rate0(c:BCon):BRate:=(c.rates[0]?).getD ⟨0,0,0⟩
def rateG(c:BCon)(g:Int):BRate:=rateF (quoW c g) c.rates (rate0 c)
def nomAmt(l:List BNom)(k:Int):Int:=((l[k.toNat]?).map BNom.amount).getD 0
def mn(a b:Int):Int:=if b<a then b else a
def mx0(x:Int):Int:=if 0>x then 0 else x
def wantP(c:BCon)(n g:Int):Int:=IntKind.i64.wrap (mx0 (mn (mn n (rateG c g).inn) (IntKind.i64.wrap (c.space-g)))-mx0 (mn (mn (IntKind.i64.wrap (0-n)) (rateG c g).out) g))
def wantS(s:BStore)(d:BDay)(hr:Int)(G:List Int)(i:Nat)(c:BCon)(a:List Int):List Int:=
 if inB hr c.lo c.hi=true then
  if cntF s.lead d.noms i hr d.noms (0,-1)<0 then a
  else sI a i (wantP c (nomAmt d.noms (cntF s.lead d.noms i hr d.noms (0,-1))) (gI G i))
 else a
theorem cnt_in(lead:Int)(l:List BNom)(c h:Int):∀(rest:List BNom) (i:Nat) (o:Int),(o= -1∨0≤o∧o<i)→(cntF lead l c h rest (i,o)= -1∨0≤cntF lead l c h rest (i,o)∧cntF lead l c h rest (i,o)<i+rest.length)
 | [],i,o,ho=>by simpa [cntF]using ho
 |n::rest,i,o,ho=>by
  have:=cnt_in lead l c h rest (i+1) (cnt1 lead l c h n i o) (by unfold cnt1;split<;>omega)
  simp only[cntF,List.length_cons]at this ⊢
  omega
theorem cnt_at{lead:Int}{l:List BNom}{c h:Int}(hn:¬cntF lead l c h l (0,-1)<0):0≤cntF lead l c h l (0,-1)∧∃n,l[(cntF lead l c h l (0,-1)).toNat]?=some n:=by
 have:=cnt_in lead l c h l 0 (-1) (.inl rfl)
 have h0:0≤cntF lead l c h l (0,-1):=by omega
 exact⟨h0,_,List.getElem?_eq_getElem (by omega)⟩
def ConW(c:BCon):Prop:=c.space≠0∧c.rates≠[]∧c.rates.length≤maxLen
theorem h_wantsA{s:BStore}{d:BDay}{w w1 w2 w3 w5:Bool}{hr own fuel:Int}{G L R:List Int}{O:List BTrade}(hG:G.length=s.cons.length)(hl:s.cons.length≤1000)(hn:d.noms.length≤1000)(hc:∀c∈s.cons,ConW c):
 ClQ om' 106 [.ptr 0 0 0] [.live 19 false w [(rc s d hr (.slr 1 1 0 G.length) own fuel (.slr 1 2 0 L.length) .nils .nils .nils .nils .nils)],.live 1 true w1 (G.map iv),.live 1 true w2 (L.map iv)]
  fun o h'=>o=.ret (.tup [])∧∃ww,h'=[.live 19 false true [(rc s d hr (.slr 1 1 0 G.length) own fuel (.slr 1 2 0 L.length) .nils (.slr 1 3 0 s.cons.length) .nils .nils .nils)],.live 1 true w1 (G.map iv),.live 1 true w2 (L.map iv),.live 1 true ww ((actF (wantS s d hr G) s.cons 0 (List.replicate s.cons.length 0)).map iv)]:=by
 have hl':s.cons.length≤maxLen:=by unfold maxLen;omega
 have h40:((s.cons.length:Int)≤1099511627776)=True:=eq_true (by omega)
 refine stOf rfl Tryz.func106 rfl rfl ?_
 simp only[Tryz.f106]
 (have hb:=trivial;with_reducible repeat' (first|simp only[hb,Vc.down,seval,TY106.down,List.length_map,h40,Int.le_refl,Int.reducePow]|refine fsp ?_ ?_<;>intro hb|refine fd ?_|fail))
 generalize hL:CB.lp _ _ _ _ _=LP
 refine rn_use (h_active (s:=s) (d:=d) (hr:=hr) (y:=.yl 5) (wantS s d hr G) (fun i a h=>(∃ww g,h=.live 19 false false [(rc s d hr (.slr 1 1 0 G.length) own fuel (.slr 1 2 0 L.length) .nils (.slr 1 4 0 s.cons.length) .nils .nils .nils)]::.live 1 true false (G.map iv)::.live 1 true false (L.map iv)::   .live 1 false false [[.ptr 0 0 0]]::.live 1 true ww (a.map iv)::LP::g∧quietH g=true∧a.length=s.cons.length∧(ww=false→a=List.replicate s.cons.length 0))) hl' ?_ ?_ ?_ ?_ (List.replicate s.cons.length 0) ?_) ?_
 ·rintro i a h ⟨ww,g,rfl,_,_,_⟩
  exact⟨_,_,_,_,_,_,_,_,_,_,_,rfl⟩
 ·rintro i a h fl w rows ⟨ww,g,rfl,hqg,hal,hwr⟩
  exact⟨ww,g++[.live 11 fl w rows],rfl,by rw[qh_app,hqg];rfl,hal,hwr⟩
 ·rintro i c a h hx hact ⟨ww,g,rfl,hqg,hal,hwr⟩
  obtain⟨hz,hr0,hrl⟩:=hc c (List.mem_of_getElem? hx)
  have hil:i<s.cons.length:=(List.getElem?_eq_some_iff.1 hx).1
  have hct:=e_counts s d.noms d.nn i hr (by unfold maxLen;omega)
  have hii:((i:Int)<(s.cons.length:Int))=True:=eq_true (by omega)
  have hiG:((i:Int)<(G.length:Int))=True:=eq_true (by omega)
  have aG:G[i]?=some (gI G i):=by have:=gI_at (l:=G) (i:=(i:Int)) (by simp;omega);simpa using this
  have aA:a[i]?=some (gI a i):=by have:=gI_at (l:=a) (i:=(i:Int)) (by simp;omega);simpa using this
  have aW:∀v,(a.map iv).set i [.int .i64 v]=(sI a i v).map iv:=fun v=>by have:=sI_map a (i:Int) v;simpa using this
  have hrt:=fun g=>e_rate c g (rate0 c) (by unfold rate0;rw[List.getElem?_eq_getElem (List.length_pos_iff.2 hr0)];rfl) hrl hz
  have hroom:∀(tl:Heap),om'.call (.sh 130) [.ptr 0 0 0,.int .i64 i] (.live 19 false false [(rc s d hr (.slr 1 1 0 G.length) own fuel (.slr 1 2 0 L.length) .nils (.slr 1 4 0 s.cons.length) .nils .nils .nils)]::.live 1 true false (G.map iv)::tl)=some (.ret (.int .i64 (IntKind.i64.wrap (c.space-gI G i))),.live 19 false false [(rc s d hr (.slr 1 1 0 G.length) own fuel (.slr 1 2 0 L.length) .nils (.slr 1 4 0 s.cons.length) .nils .nils .nils)]::.live 1 true false (G.map iv)::tl):=fun tl=>
   h_room (b:=0) (bg:=1) (n:=G.length) rfl rfl rfl ⟨by omega,by omega⟩ (by simpa using hx)
  have round:∀g0:Heap,quietH g0=true→RnQ om' ([.int .i64 i,.agg [.bool c.firm,.int .i64 c.space,.int .i64 c.lo,.int .i64 c.hi,slv 3 true c.nn (c.rates.map BRate.cells),.int .i64 c.gas,.int .i64 c.fixed,.int .i64 c.inn,.int .i64 c.out,.int .i64 c.cut,.int .i64 c.lack]]++[.yl 5]) (.live 19 false false [(rc s d hr (.slr 1 1 0 G.length) own fuel (.slr 1 2 0 L.length) .nils (.slr 1 4 0 s.cons.length) .nils .nils .nils)]::.live 1 true false (G.map iv)::.live 1 true false (L.map iv)::   .live 1 false false [[.ptr 0 0 0]]::.live 1 true false (a.map iv)::LP::g0)
   fun o h'=>o=.ret (.bool true)∧∃ww g',h'=.live 19 false false [(rc s d hr (.slr 1 1 0 G.length) own fuel (.slr 1 2 0 L.length) .nils (.slr 1 4 0 s.cons.length) .nils .nils .nils)]::.live 1 true false (G.map iv)::.live 1 true false (L.map iv)::   .live 1 false false [[.ptr 0 0 0]]::.live 1 true ww ((wantS s d hr G i c a).map iv)::LP::(g0++g')∧quietH g'=true∧(ww=false→wantS s d hr G i c a=a):=by
   subst hL
   intro g0 hq0
   have hse:=fun i l l'=>se_app hq0 i l l'
   refine stRn rfl rfl ?_
   cases hk:decide (cntF s.lead d.noms i hr d.noms (0,-1)<0)with
   |true=>
    (have hb:=trivial;with_reducible repeat' (first|simp only[hb,Vc.down,seval,TY106.down,hct,hk,hx,BCon.cells]|refine fsp ?_ ?_<;>intro hb|refine fd ?_|fail))
    have hwa:wantS s d hr G i c a=a:=by simp[wantS,hact,of_decide_eq_true hk]
    exact⟨_,_,rfl,rfl,false,[_],by rw[hwa],rfl,fun _=>hwa⟩
   |false=>
    have hkn:=of_decide_eq_false hk
    obtain⟨hk0,nk,hnk⟩:=cnt_at hkn
    have hk0':(0≤cntF s.lead d.noms i hr d.noms (0,-1))=True:=eq_true hk0
    (have hb:=trivial;with_reducible repeat' (first|simp only[hb,Vc.down,seval,TY106.down,hct,hk,hx,BCon.cells,BNom.cells,BRate.cells,hk0',hnk,hrt,hroom,hii,hiG,aG,aA,aW,hse,iv,List.length_map]|refine fsp ?_ ?_<;>intro hb|((refine fw_gdF (g0.length) 6 ?_ ?_);(simp (discharger:=decide) only[lg_nil,lg_cons,List.map_cons,List.map_nil,mf_cells,mf_blk,mf_all,ef_new,ef_cells,sft_lit,sft_add,List.length_cons,List.length_nil];kernel_rfl);intro _)|refine fdq ?_|fail))
    exact⟨_,_,rfl,rfl,true,[_,_],by rw[show wantS s d hr G i c a=sI a i (wantP c nk.amount (gI G i)) by simp[wantS,hact,hkn,nomAmt,hnk]];rfl,rfl,fun h=>by cases h⟩
  obtain⟨o,h',e,rfl,ww',g',rfl,hq',hwa⟩:=round (clH g) (quietH_cl hqg)
  have hst:=fun i l=>se_tail hqg i l
  have hLc:LP.clean=LP:=by rw[←hL];rfl
  have hLq:LP.quiet LP=true:=by rw[←hL];rfl
  simp only[List.cons_append,List.nil_append]at e
  have hal':(wantS s d hr G i c a).length=s.cons.length:=by unfold wantS;split<;>(try split)<;>simp[sI_length,hal]
  have hgg:quietH (g++g')=true:=by rw[qh_app,hqg,hq'];rfl
  cases ww' with
  |false=>
   refine⟨_,by simp only[Vc.down,seval,hLc,e,hLq,hst];exact rfl,ww,g++g',?_,hgg,hal',fun h=>by rw[hwa rfl];exact hwr h⟩
   rw[hwa rfl,happ_news]
   rfl
  |true=>
   refine⟨_,by simp only[Vc.down,seval,hLc,e,hLq,hst];exact rfl,true,g++g',?_,hgg,hal',fun h=>by cases h⟩
   simp only[happ,happ_news,happ1,List.set_cons_succ,List.set_cons_zero]
   rfl
 ·rintro i c a h hx hact ⟨ww,g,rfl,hqg,hal,hwr⟩
  exact⟨ww,g,by simp[wantS,hact],hqg,by simpa [wantS,hact]using hal,by simpa [wantS,hact]using hwr⟩
 ·exact⟨false,[],by simp[iv],rfl,by simp,fun _=>rfl⟩
 ·rintro o h' ⟨rfl,ww,g,rfl,hqg,hal,hwr⟩
  have hst:=fun i l=>se_tail hqg i l
  subst hL
  have hrep:List.replicate s.cons.length [AV.int .i64 0]=(List.replicate s.cons.length 0).map iv:=by simp[iv]
  cases ww with
  |false=>
   rw[hwr rfl]
   (have hb:=trivial;with_reducible repeat' (first|simp only[hb,Vc.down,seval,TY106.down,hst,happ_news,List.cons_append,hrep]|refine fsp ?_ ?_<;>intro hb|refine fd ?_|fail))
   exact⟨_,rfl⟩
  |true=>
   (have hb:=trivial;with_reducible repeat' (first|simp only[hb,Vc.down,seval,TY106.down,hst,happ_news,List.cons_append]|refine fsp ?_ ?_<;>intro hb|refine fd ?_|fail))
   exact⟨_,rfl⟩
theorem h_wantsB{s:BStore}{d:BDay}{w w1 w2 w3 w5:Bool}{hr own fuel:Int}{G L R:List Int}{O:List BTrade}(hG:G.length=s.cons.length)(hl:s.cons.length≤1000)(hn:d.noms.length≤1000)(hc:∀c∈s.cons,ConW c):
 ClQ om' 106 [.ptr 0 0 0] [.live 19 false w [(rc s d hr (.slr 1 1 0 G.length) own fuel (.slr 1 2 0 L.length) (.slr 5 3 0 O.length) .nils .nils .nils .nils)],.live 1 true w1 (G.map iv),.live 1 true w2 (L.map iv),.live 5 true w3 (O.map BTrade.cells)]
  fun o h'=>o=.ret (.tup [])∧∃ww,h'=[.live 19 false true [(rc s d hr (.slr 1 1 0 G.length) own fuel (.slr 1 2 0 L.length) (.slr 5 3 0 O.length) (.slr 1 4 0 s.cons.length) .nils .nils .nils)],.live 1 true w1 (G.map iv),.live 1 true w2 (L.map iv),.live 5 true w3 (O.map BTrade.cells),.live 1 true ww ((actF (wantS s d hr G) s.cons 0 (List.replicate s.cons.length 0)).map iv)]:=by
 have hl':s.cons.length≤maxLen:=by unfold maxLen;omega
 have h40:((s.cons.length:Int)≤1099511627776)=True:=eq_true (by omega)
 refine stOf rfl Tryz.func106 rfl rfl ?_
 simp only[Tryz.f106]
 (have hb:=trivial;with_reducible repeat' (first|simp only[hb,Vc.down,seval,TY106.down,List.length_map,h40,Int.le_refl,Int.reducePow]|refine fsp ?_ ?_<;>intro hb|refine fd ?_|fail))
 generalize hL:CB.lp _ _ _ _ _=LP
 refine rn_use (h_active (s:=s) (d:=d) (hr:=hr) (y:=.yl 6) (wantS s d hr G) (fun i a h=>(∃ww g,h=.live 19 false false [(rc s d hr (.slr 1 1 0 G.length) own fuel (.slr 1 2 0 L.length) (.slr 5 3 0 O.length) (.slr 1 5 0 s.cons.length) .nils .nils .nils)]::.live 1 true false (G.map iv)::.live 1 true false (L.map iv)::.live 5 true false (O.map BTrade.cells)::  .live 1 false false [[.ptr 0 0 0]]::.live 1 true ww (a.map iv)::LP::g∧quietH g=true∧a.length=s.cons.length∧(ww=false→a=List.replicate s.cons.length 0))) hl' ?_ ?_ ?_ ?_ (List.replicate s.cons.length 0) ?_) ?_
 ·rintro i a h ⟨ww,g,rfl,_,_,_⟩
  exact⟨_,_,_,_,_,_,_,_,_,_,_,rfl⟩
 ·rintro i a h fl w rows ⟨ww,g,rfl,hqg,hal,hwr⟩
  exact⟨ww,g++[.live 11 fl w rows],rfl,by rw[qh_app,hqg];rfl,hal,hwr⟩
 ·rintro i c a h hx hact ⟨ww,g,rfl,hqg,hal,hwr⟩
  obtain⟨hz,hr0,hrl⟩:=hc c (List.mem_of_getElem? hx)
  have hil:i<s.cons.length:=(List.getElem?_eq_some_iff.1 hx).1
  have hct:=e_counts s d.noms d.nn i hr (by unfold maxLen;omega)
  have hii:((i:Int)<(s.cons.length:Int))=True:=eq_true (by omega)
  have hiG:((i:Int)<(G.length:Int))=True:=eq_true (by omega)
  have aG:G[i]?=some (gI G i):=by have:=gI_at (l:=G) (i:=(i:Int)) (by simp;omega);simpa using this
  have aA:a[i]?=some (gI a i):=by have:=gI_at (l:=a) (i:=(i:Int)) (by simp;omega);simpa using this
  have aW:∀v,(a.map iv).set i [.int .i64 v]=(sI a i v).map iv:=fun v=>by have:=sI_map a (i:Int) v;simpa using this
  have hrt:=fun g=>e_rate c g (rate0 c) (by unfold rate0;rw[List.getElem?_eq_getElem (List.length_pos_iff.2 hr0)];rfl) hrl hz
  have hroom:∀(tl:Heap),om'.call (.sh 130) [.ptr 0 0 0,.int .i64 i] (.live 19 false false [(rc s d hr (.slr 1 1 0 G.length) own fuel (.slr 1 2 0 L.length) (.slr 5 3 0 O.length) (.slr 1 5 0 s.cons.length) .nils .nils .nils)]::.live 1 true false (G.map iv)::tl)=some (.ret (.int .i64 (IntKind.i64.wrap (c.space-gI G i))),.live 19 false false [(rc s d hr (.slr 1 1 0 G.length) own fuel (.slr 1 2 0 L.length) (.slr 5 3 0 O.length) (.slr 1 5 0 s.cons.length) .nils .nils .nils)]::.live 1 true false (G.map iv)::tl):=fun tl=>
   h_room (b:=0) (bg:=1) (n:=G.length) rfl rfl rfl ⟨by omega,by omega⟩ (by simpa using hx)
  have round:∀g0:Heap,quietH g0=true→RnQ om' ([.int .i64 i,.agg [.bool c.firm,.int .i64 c.space,.int .i64 c.lo,.int .i64 c.hi,slv 3 true c.nn (c.rates.map BRate.cells),.int .i64 c.gas,.int .i64 c.fixed,.int .i64 c.inn,.int .i64 c.out,.int .i64 c.cut,.int .i64 c.lack]]++[.yl 6]) (.live 19 false false [(rc s d hr (.slr 1 1 0 G.length) own fuel (.slr 1 2 0 L.length) (.slr 5 3 0 O.length) (.slr 1 5 0 s.cons.length) .nils .nils .nils)]::.live 1 true false (G.map iv)::.live 1 true false (L.map iv)::.live 5 true false (O.map BTrade.cells)::  .live 1 false false [[.ptr 0 0 0]]::.live 1 true false (a.map iv)::LP::g0)
   fun o h'=>o=.ret (.bool true)∧∃ww g',h'=.live 19 false false [(rc s d hr (.slr 1 1 0 G.length) own fuel (.slr 1 2 0 L.length) (.slr 5 3 0 O.length) (.slr 1 5 0 s.cons.length) .nils .nils .nils)]::.live 1 true false (G.map iv)::.live 1 true false (L.map iv)::.live 5 true false (O.map BTrade.cells)::  .live 1 false false [[.ptr 0 0 0]]::.live 1 true ww ((wantS s d hr G i c a).map iv)::LP::(g0++g')∧quietH g'=true∧(ww=false→wantS s d hr G i c a=a):=by
   subst hL
   intro g0 hq0
   have hse:=fun i l l'=>se_app hq0 i l l'
   refine stRn rfl rfl ?_
   cases hk:decide (cntF s.lead d.noms i hr d.noms (0,-1)<0)with
   |true=>
    (have hb:=trivial;with_reducible repeat' (first|simp only[hb,Vc.down,seval,TY106.down,hct,hk,hx,BCon.cells]|refine fsp ?_ ?_<;>intro hb|refine fd ?_|fail))
    have hwa:wantS s d hr G i c a=a:=by simp[wantS,hact,of_decide_eq_true hk]
    exact⟨_,_,rfl,rfl,false,[_],by rw[hwa],rfl,fun _=>hwa⟩
   |false=>
    have hkn:=of_decide_eq_false hk
    obtain⟨hk0,nk,hnk⟩:=cnt_at hkn
    have hk0':(0≤cntF s.lead d.noms i hr d.noms (0,-1))=True:=eq_true hk0
    (have hb:=trivial;with_reducible repeat' (first|simp only[hb,Vc.down,seval,TY106.down,hct,hk,hx,BCon.cells,BNom.cells,BRate.cells,hk0',hnk,hrt,hroom,hii,hiG,aG,aA,aW,hse,iv,List.length_map]|refine fsp ?_ ?_<;>intro hb|((refine fw_gdF (g0.length) 6 ?_ ?_);(simp (discharger:=decide) only[lg_nil,lg_cons,List.map_cons,List.map_nil,mf_cells,mf_blk,mf_all,ef_new,ef_cells,sft_lit,sft_add,List.length_cons,List.length_nil];kernel_rfl);intro _)|refine fdq ?_|fail))
    exact⟨_,_,rfl,rfl,true,[_,_],by rw[show wantS s d hr G i c a=sI a i (wantP c nk.amount (gI G i)) by simp[wantS,hact,hkn,nomAmt,hnk]];rfl,rfl,fun h=>by cases h⟩
  obtain⟨o,h',e,rfl,ww',g',rfl,hq',hwa⟩:=round (clH g) (quietH_cl hqg)
  have hst:=fun i l=>se_tail hqg i l
  have hLc:LP.clean=LP:=by rw[←hL];rfl
  have hLq:LP.quiet LP=true:=by rw[←hL];rfl
  simp only[List.cons_append,List.nil_append]at e
  have hal':(wantS s d hr G i c a).length=s.cons.length:=by unfold wantS;split<;>(try split)<;>simp[sI_length,hal]
  have hgg:quietH (g++g')=true:=by rw[qh_app,hqg,hq'];rfl
  cases ww' with
  |false=>
   refine⟨_,by simp only[Vc.down,seval,hLc,e,hLq,hst];exact rfl,ww,g++g',?_,hgg,hal',fun h=>by rw[hwa rfl];exact hwr h⟩
   rw[hwa rfl,happ_news]
   rfl
  |true=>
   refine⟨_,by simp only[Vc.down,seval,hLc,e,hLq,hst];exact rfl,true,g++g',?_,hgg,hal',fun h=>by cases h⟩
   simp only[happ,happ_news,happ1,List.set_cons_succ,List.set_cons_zero]
   rfl
 ·rintro i c a h hx hact ⟨ww,g,rfl,hqg,hal,hwr⟩
  exact⟨ww,g,by simp[wantS,hact],hqg,by simpa [wantS,hact]using hal,by simpa [wantS,hact]using hwr⟩
 ·exact⟨false,[],by simp[iv],rfl,by simp,fun _=>rfl⟩
 ·rintro o h' ⟨rfl,ww,g,rfl,hqg,hal,hwr⟩
  have hst:=fun i l=>se_tail hqg i l
  subst hL
  have hrep:List.replicate s.cons.length [AV.int .i64 0]=(List.replicate s.cons.length 0).map iv:=by simp[iv]
  cases ww with
  |false=>
   rw[hwr rfl]
   (have hb:=trivial;with_reducible repeat' (first|simp only[hb,Vc.down,seval,TY106.down,hst,happ_news,List.cons_append,hrep]|refine fsp ?_ ?_<;>intro hb|refine fd ?_|fail))
   exact⟨_,rfl⟩
  |true=>
   (have hb:=trivial;with_reducible repeat' (first|simp only[hb,Vc.down,seval,TY106.down,hst,happ_news,List.cons_append]|refine fsp ?_ ?_<;>intro hb|refine fd ?_|fail))
   exact⟨_,rfl⟩
theorem h_wantsC{s:BStore}{d:BDay}{w w1 w2 w3 w5:Bool}{hr own fuel:Int}{G L R:List Int}{O:List BTrade}(hG:G.length=s.cons.length)(hl:s.cons.length≤1000)(hn:d.noms.length≤1000)(hc:∀c∈s.cons,ConW c):
 ClQ om' 106 [.ptr 0 0 0] [.live 19 false w [(rc s d hr (.slr 1 1 0 G.length) own fuel (.slr 1 2 0 L.length) .nils .nils .nils .nils (.slr 1 3 0 R.length))],.live 1 true w1 (G.map iv),.live 1 true w2 (L.map iv),.live 1 true w5 (R.map iv)]
  fun o h'=>o=.ret (.tup [])∧∃ww,h'=[.live 19 false true [(rc s d hr (.slr 1 1 0 G.length) own fuel (.slr 1 2 0 L.length) .nils (.slr 1 4 0 s.cons.length) .nils .nils (.slr 1 3 0 R.length))],.live 1 true w1 (G.map iv),.live 1 true w2 (L.map iv),.live 1 true w5 (R.map iv),.live 1 true ww ((actF (wantS s d hr G) s.cons 0 (List.replicate s.cons.length 0)).map iv)]:=by
 have hl':s.cons.length≤maxLen:=by unfold maxLen;omega
 have h40:((s.cons.length:Int)≤1099511627776)=True:=eq_true (by omega)
 refine stOf rfl Tryz.func106 rfl rfl ?_
 simp only[Tryz.f106]
 (have hb:=trivial;with_reducible repeat' (first|simp only[hb,Vc.down,seval,TY106.down,List.length_map,h40,Int.le_refl,Int.reducePow]|refine fsp ?_ ?_<;>intro hb|refine fd ?_|fail))
 generalize hL:CB.lp _ _ _ _ _=LP
 refine rn_use (h_active (s:=s) (d:=d) (hr:=hr) (y:=.yl 6) (wantS s d hr G) (fun i a h=>(∃ww g,h=.live 19 false false [(rc s d hr (.slr 1 1 0 G.length) own fuel (.slr 1 2 0 L.length) .nils (.slr 1 5 0 s.cons.length) .nils .nils (.slr 1 3 0 R.length))]::.live 1 true false (G.map iv)::.live 1 true false (L.map iv)::  .live 1 true false (R.map iv)::.live 1 false false [[.ptr 0 0 0]]::.live 1 true ww (a.map iv)::LP::g∧quietH g=true∧a.length=s.cons.length∧(ww=false→a=List.replicate s.cons.length 0))) hl' ?_ ?_ ?_ ?_ (List.replicate s.cons.length 0) ?_) ?_
 ·rintro i a h ⟨ww,g,rfl,_,_,_⟩
  exact⟨_,_,_,_,_,_,_,_,_,_,_,rfl⟩
 ·rintro i a h fl w rows ⟨ww,g,rfl,hqg,hal,hwr⟩
  exact⟨ww,g++[.live 11 fl w rows],rfl,by rw[qh_app,hqg];rfl,hal,hwr⟩
 ·rintro i c a h hx hact ⟨ww,g,rfl,hqg,hal,hwr⟩
  obtain⟨hz,hr0,hrl⟩:=hc c (List.mem_of_getElem? hx)
  have hil:i<s.cons.length:=(List.getElem?_eq_some_iff.1 hx).1
  have hct:=e_counts s d.noms d.nn i hr (by unfold maxLen;omega)
  have hii:((i:Int)<(s.cons.length:Int))=True:=eq_true (by omega)
  have hiG:((i:Int)<(G.length:Int))=True:=eq_true (by omega)
  have aG:G[i]?=some (gI G i):=by have:=gI_at (l:=G) (i:=(i:Int)) (by simp;omega);simpa using this
  have aA:a[i]?=some (gI a i):=by have:=gI_at (l:=a) (i:=(i:Int)) (by simp;omega);simpa using this
  have aW:∀v,(a.map iv).set i [.int .i64 v]=(sI a i v).map iv:=fun v=>by have:=sI_map a (i:Int) v;simpa using this
  have hrt:=fun g=>e_rate c g (rate0 c) (by unfold rate0;rw[List.getElem?_eq_getElem (List.length_pos_iff.2 hr0)];rfl) hrl hz
  have hroom:∀(tl:Heap),om'.call (.sh 130) [.ptr 0 0 0,.int .i64 i] (.live 19 false false [(rc s d hr (.slr 1 1 0 G.length) own fuel (.slr 1 2 0 L.length) .nils (.slr 1 5 0 s.cons.length) .nils .nils (.slr 1 3 0 R.length))]::.live 1 true false (G.map iv)::tl)=some (.ret (.int .i64 (IntKind.i64.wrap (c.space-gI G i))),.live 19 false false [(rc s d hr (.slr 1 1 0 G.length) own fuel (.slr 1 2 0 L.length) .nils (.slr 1 5 0 s.cons.length) .nils .nils (.slr 1 3 0 R.length))]::.live 1 true false (G.map iv)::tl):=fun tl=>
   h_room (b:=0) (bg:=1) (n:=G.length) rfl rfl rfl ⟨by omega,by omega⟩ (by simpa using hx)
  have round:∀g0:Heap,quietH g0=true→RnQ om' ([.int .i64 i,.agg [.bool c.firm,.int .i64 c.space,.int .i64 c.lo,.int .i64 c.hi,slv 3 true c.nn (c.rates.map BRate.cells),.int .i64 c.gas,.int .i64 c.fixed,.int .i64 c.inn,.int .i64 c.out,.int .i64 c.cut,.int .i64 c.lack]]++[.yl 6]) (.live 19 false false [(rc s d hr (.slr 1 1 0 G.length) own fuel (.slr 1 2 0 L.length) .nils (.slr 1 5 0 s.cons.length) .nils .nils (.slr 1 3 0 R.length))]::.live 1 true false (G.map iv)::.live 1 true false (L.map iv)::  .live 1 true false (R.map iv)::.live 1 false false [[.ptr 0 0 0]]::.live 1 true false (a.map iv)::LP::g0)
   fun o h'=>o=.ret (.bool true)∧∃ww g',h'=.live 19 false false [(rc s d hr (.slr 1 1 0 G.length) own fuel (.slr 1 2 0 L.length) .nils (.slr 1 5 0 s.cons.length) .nils .nils (.slr 1 3 0 R.length))]::.live 1 true false (G.map iv)::.live 1 true false (L.map iv)::  .live 1 true false (R.map iv)::.live 1 false false [[.ptr 0 0 0]]::.live 1 true ww ((wantS s d hr G i c a).map iv)::LP::(g0++g')∧quietH g'=true∧(ww=false→wantS s d hr G i c a=a):=by
   subst hL
   intro g0 hq0
   have hse:=fun i l l'=>se_app hq0 i l l'
   refine stRn rfl rfl ?_
   cases hk:decide (cntF s.lead d.noms i hr d.noms (0,-1)<0)with
   |true=>
    (have hb:=trivial;with_reducible repeat' (first|simp only[hb,Vc.down,seval,TY106.down,hct,hk,hx,BCon.cells]|refine fsp ?_ ?_<;>intro hb|refine fd ?_|fail))
    have hwa:wantS s d hr G i c a=a:=by simp[wantS,hact,of_decide_eq_true hk]
    exact⟨_,_,rfl,rfl,false,[_],by rw[hwa],rfl,fun _=>hwa⟩
   |false=>
    have hkn:=of_decide_eq_false hk
    obtain⟨hk0,nk,hnk⟩:=cnt_at hkn
    have hk0':(0≤cntF s.lead d.noms i hr d.noms (0,-1))=True:=eq_true hk0
    (have hb:=trivial;with_reducible repeat' (first|simp only[hb,Vc.down,seval,TY106.down,hct,hk,hx,BCon.cells,BNom.cells,BRate.cells,hk0',hnk,hrt,hroom,hii,hiG,aG,aA,aW,hse,iv,List.length_map]|refine fsp ?_ ?_<;>intro hb|((refine fw_gdF (g0.length) 6 ?_ ?_);(simp (discharger:=decide) only[lg_nil,lg_cons,List.map_cons,List.map_nil,mf_cells,mf_blk,mf_all,ef_new,ef_cells,sft_lit,sft_add,List.length_cons,List.length_nil];kernel_rfl);intro _)|refine fdq ?_|fail))
    exact⟨_,_,rfl,rfl,true,[_,_],by rw[show wantS s d hr G i c a=sI a i (wantP c nk.amount (gI G i)) by simp[wantS,hact,hkn,nomAmt,hnk]];rfl,rfl,fun h=>by cases h⟩
  obtain⟨o,h',e,rfl,ww',g',rfl,hq',hwa⟩:=round (clH g) (quietH_cl hqg)
  have hst:=fun i l=>se_tail hqg i l
  have hLc:LP.clean=LP:=by rw[←hL];rfl
  have hLq:LP.quiet LP=true:=by rw[←hL];rfl
  simp only[List.cons_append,List.nil_append]at e
  have hal':(wantS s d hr G i c a).length=s.cons.length:=by unfold wantS;split<;>(try split)<;>simp[sI_length,hal]
  have hgg:quietH (g++g')=true:=by rw[qh_app,hqg,hq'];rfl
  cases ww' with
  |false=>
   refine⟨_,by simp only[Vc.down,seval,hLc,e,hLq,hst];exact rfl,ww,g++g',?_,hgg,hal',fun h=>by rw[hwa rfl];exact hwr h⟩
   rw[hwa rfl,happ_news]
   rfl
  |true=>
   refine⟨_,by simp only[Vc.down,seval,hLc,e,hLq,hst];exact rfl,true,g++g',?_,hgg,hal',fun h=>by cases h⟩
   simp only[happ,happ_news,happ1,List.set_cons_succ,List.set_cons_zero]
   rfl
 ·rintro i c a h hx hact ⟨ww,g,rfl,hqg,hal,hwr⟩
  exact⟨ww,g,by simp[wantS,hact],hqg,by simpa [wantS,hact]using hal,by simpa [wantS,hact]using hwr⟩
 ·exact⟨false,[],by simp[iv],rfl,by simp,fun _=>rfl⟩
 ·rintro o h' ⟨rfl,ww,g,rfl,hqg,hal,hwr⟩
  have hst:=fun i l=>se_tail hqg i l
  subst hL
  have hrep:List.replicate s.cons.length [AV.int .i64 0]=(List.replicate s.cons.length 0).map iv:=by simp[iv]
  cases ww with
  |false=>
   rw[hwr rfl]
   (have hb:=trivial;with_reducible repeat' (first|simp only[hb,Vc.down,seval,TY106.down,hst,happ_news,List.cons_append,hrep]|refine fsp ?_ ?_<;>intro hb|refine fd ?_|fail))
   exact⟨_,rfl⟩
  |true=>
   (have hb:=trivial;with_reducible repeat' (first|simp only[hb,Vc.down,seval,TY106.down,hst,happ_news,List.cons_append]|refine fsp ?_ ?_<;>intro hb|refine fd ?_|fail))
   exact⟨_,rfl⟩
theorem h_wantsD{s:BStore}{d:BDay}{w w1 w2 w3 w5:Bool}{hr own fuel:Int}{G L R:List Int}{O:List BTrade}(hG:G.length=s.cons.length)(hl:s.cons.length≤1000)(hn:d.noms.length≤1000)(hc:∀c∈s.cons,ConW c):
 ClQ om' 106 [.ptr 0 0 0] [.live 19 false w [(rc s d hr (.slr 1 1 0 G.length) own fuel (.slr 1 2 0 L.length) (.slr 5 3 0 O.length) .nils .nils .nils (.slr 1 4 0 R.length))],.live 1 true w1 (G.map iv),.live 1 true w2 (L.map iv),.live 5 true w3 (O.map BTrade.cells),.live 1 true w5 (R.map iv)]
  fun o h'=>o=.ret (.tup [])∧∃ww,h'=[.live 19 false true [(rc s d hr (.slr 1 1 0 G.length) own fuel (.slr 1 2 0 L.length) (.slr 5 3 0 O.length) (.slr 1 5 0 s.cons.length) .nils .nils (.slr 1 4 0 R.length))],.live 1 true w1 (G.map iv),.live 1 true w2 (L.map iv),.live 5 true w3 (O.map BTrade.cells),.live 1 true w5 (R.map iv),.live 1 true ww ((actF (wantS s d hr G) s.cons 0 (List.replicate s.cons.length 0)).map iv)]:=by
 have hl':s.cons.length≤maxLen:=by unfold maxLen;omega
 have h40:((s.cons.length:Int)≤1099511627776)=True:=eq_true (by omega)
 refine stOf rfl Tryz.func106 rfl rfl ?_
 simp only[Tryz.f106]
 (have hb:=trivial;with_reducible repeat' (first|simp only[hb,Vc.down,seval,TY106.down,List.length_map,h40,Int.le_refl,Int.reducePow]|refine fsp ?_ ?_<;>intro hb|refine fd ?_|fail))
 generalize hL:CB.lp _ _ _ _ _=LP
 refine rn_use (h_active (s:=s) (d:=d) (hr:=hr) (y:=.yl 7) (wantS s d hr G) (fun i a h=>(∃ww g,h=.live 19 false false [(rc s d hr (.slr 1 1 0 G.length) own fuel (.slr 1 2 0 L.length) (.slr 5 3 0 O.length) (.slr 1 6 0 s.cons.length) .nils .nils (.slr 1 4 0 R.length))]::.live 1 true false (G.map iv)::.live 1 true false (L.map iv)::.live 5 true false (O.map BTrade.cells)::.live 1 true false (R.map iv)::.live 1 false false [[.ptr 0 0 0]]::.live 1 true ww (a.map iv)::LP::g∧quietH g=true∧a.length=s.cons.length∧(ww=false→a=List.replicate s.cons.length 0))) hl' ?_ ?_ ?_ ?_ (List.replicate s.cons.length 0) ?_) ?_
 ·rintro i a h ⟨ww,g,rfl,_,_,_⟩
  exact⟨_,_,_,_,_,_,_,_,_,_,_,rfl⟩
 ·rintro i a h fl w rows ⟨ww,g,rfl,hqg,hal,hwr⟩
  exact⟨ww,g++[.live 11 fl w rows],rfl,by rw[qh_app,hqg];rfl,hal,hwr⟩
 ·rintro i c a h hx hact ⟨ww,g,rfl,hqg,hal,hwr⟩
  obtain⟨hz,hr0,hrl⟩:=hc c (List.mem_of_getElem? hx)
  have hil:i<s.cons.length:=(List.getElem?_eq_some_iff.1 hx).1
  have hct:=e_counts s d.noms d.nn i hr (by unfold maxLen;omega)
  have hii:((i:Int)<(s.cons.length:Int))=True:=eq_true (by omega)
  have hiG:((i:Int)<(G.length:Int))=True:=eq_true (by omega)
  have aG:G[i]?=some (gI G i):=by have:=gI_at (l:=G) (i:=(i:Int)) (by simp;omega);simpa using this
  have aA:a[i]?=some (gI a i):=by have:=gI_at (l:=a) (i:=(i:Int)) (by simp;omega);simpa using this
  have aW:∀v,(a.map iv).set i [.int .i64 v]=(sI a i v).map iv:=fun v=>by have:=sI_map a (i:Int) v;simpa using this
  have hrt:=fun g=>e_rate c g (rate0 c) (by unfold rate0;rw[List.getElem?_eq_getElem (List.length_pos_iff.2 hr0)];rfl) hrl hz
  have hroom:∀(tl:Heap),om'.call (.sh 130) [.ptr 0 0 0,.int .i64 i] (.live 19 false false [(rc s d hr (.slr 1 1 0 G.length) own fuel (.slr 1 2 0 L.length) (.slr 5 3 0 O.length) (.slr 1 6 0 s.cons.length) .nils .nils (.slr 1 4 0 R.length))]::.live 1 true false (G.map iv)::tl)=some (.ret (.int .i64 (IntKind.i64.wrap (c.space-gI G i))),.live 19 false false [(rc s d hr (.slr 1 1 0 G.length) own fuel (.slr 1 2 0 L.length) (.slr 5 3 0 O.length) (.slr 1 6 0 s.cons.length) .nils .nils (.slr 1 4 0 R.length))]::.live 1 true false (G.map iv)::tl):=fun tl=>
   h_room (b:=0) (bg:=1) (n:=G.length) rfl rfl rfl ⟨by omega,by omega⟩ (by simpa using hx)
  have round:∀g0:Heap,quietH g0=true→RnQ om' ([.int .i64 i,.agg [.bool c.firm,.int .i64 c.space,.int .i64 c.lo,.int .i64 c.hi,slv 3 true c.nn (c.rates.map BRate.cells),.int .i64 c.gas,.int .i64 c.fixed,.int .i64 c.inn,.int .i64 c.out,.int .i64 c.cut,.int .i64 c.lack]]++[.yl 7]) (.live 19 false false [(rc s d hr (.slr 1 1 0 G.length) own fuel (.slr 1 2 0 L.length) (.slr 5 3 0 O.length) (.slr 1 6 0 s.cons.length) .nils .nils (.slr 1 4 0 R.length))]::.live 1 true false (G.map iv)::.live 1 true false (L.map iv)::.live 5 true false (O.map BTrade.cells)::.live 1 true false (R.map iv)::.live 1 false false [[.ptr 0 0 0]]::.live 1 true false (a.map iv)::LP::g0)
   fun o h'=>o=.ret (.bool true)∧∃ww g',h'=.live 19 false false [(rc s d hr (.slr 1 1 0 G.length) own fuel (.slr 1 2 0 L.length) (.slr 5 3 0 O.length) (.slr 1 6 0 s.cons.length) .nils .nils (.slr 1 4 0 R.length))]::.live 1 true false (G.map iv)::.live 1 true false (L.map iv)::.live 5 true false (O.map BTrade.cells)::.live 1 true false (R.map iv)::.live 1 false false [[.ptr 0 0 0]]::.live 1 true ww ((wantS s d hr G i c a).map iv)::LP::(g0++g')∧quietH g'=true∧(ww=false→wantS s d hr G i c a=a):=by
   subst hL
   intro g0 hq0
   have hse:=fun i l l'=>se_app hq0 i l l'
   refine stRn rfl rfl ?_
   cases hk:decide (cntF s.lead d.noms i hr d.noms (0,-1)<0)with
   |true=>
    (have hb:=trivial;with_reducible repeat' (first|simp only[hb,Vc.down,seval,TY106.down,hct,hk,hx,BCon.cells]|refine fsp ?_ ?_<;>intro hb|refine fd ?_|fail))
    have hwa:wantS s d hr G i c a=a:=by simp[wantS,hact,of_decide_eq_true hk]
    exact⟨_,_,rfl,rfl,false,[_],by rw[hwa],rfl,fun _=>hwa⟩
   |false=>
    have hkn:=of_decide_eq_false hk
    obtain⟨hk0,nk,hnk⟩:=cnt_at hkn
    have hk0':(0≤cntF s.lead d.noms i hr d.noms (0,-1))=True:=eq_true hk0
    (have hb:=trivial;with_reducible repeat' (first|simp only[hb,Vc.down,seval,TY106.down,hct,hk,hx,BCon.cells,BNom.cells,BRate.cells,hk0',hnk,hrt,hroom,hii,hiG,aG,aA,aW,hse,iv,List.length_map]|refine fsp ?_ ?_<;>intro hb|((refine fw_gdF (g0.length) 6 ?_ ?_);(simp (discharger:=decide) only[lg_nil,lg_cons,List.map_cons,List.map_nil,mf_cells,mf_blk,mf_all,ef_new,ef_cells,sft_lit,sft_add,List.length_cons,List.length_nil];kernel_rfl);intro _)|refine fdq ?_|fail))
    exact⟨_,_,rfl,rfl,true,[_,_],by rw[show wantS s d hr G i c a=sI a i (wantP c nk.amount (gI G i)) by simp[wantS,hact,hkn,nomAmt,hnk]];rfl,rfl,fun h=>by cases h⟩
  obtain⟨o,h',e,rfl,ww',g',rfl,hq',hwa⟩:=round (clH g) (quietH_cl hqg)
  have hst:=fun i l=>se_tail hqg i l
  have hLc:LP.clean=LP:=by rw[←hL];rfl
  have hLq:LP.quiet LP=true:=by rw[←hL];rfl
  simp only[List.cons_append,List.nil_append]at e
  have hal':(wantS s d hr G i c a).length=s.cons.length:=by unfold wantS;split<;>(try split)<;>simp[sI_length,hal]
  have hgg:quietH (g++g')=true:=by rw[qh_app,hqg,hq'];rfl
  cases ww' with
  |false=>
   refine⟨_,by simp only[Vc.down,seval,hLc,e,hLq,hst];exact rfl,ww,g++g',?_,hgg,hal',fun h=>by rw[hwa rfl];exact hwr h⟩
   rw[hwa rfl,happ_news]
   rfl
  |true=>
   refine⟨_,by simp only[Vc.down,seval,hLc,e,hLq,hst];exact rfl,true,g++g',?_,hgg,hal',fun h=>by cases h⟩
   simp only[happ,happ_news,happ1,List.set_cons_succ,List.set_cons_zero]
   rfl
 ·rintro i c a h hx hact ⟨ww,g,rfl,hqg,hal,hwr⟩
  exact⟨ww,g,by simp[wantS,hact],hqg,by simpa [wantS,hact]using hal,by simpa [wantS,hact]using hwr⟩
 ·exact⟨false,[],by simp[iv],rfl,by simp,fun _=>rfl⟩
 ·rintro o h' ⟨rfl,ww,g,rfl,hqg,hal,hwr⟩
  have hst:=fun i l=>se_tail hqg i l
  subst hL
  have hrep:List.replicate s.cons.length [AV.int .i64 0]=(List.replicate s.cons.length 0).map iv:=by simp[iv]
  cases ww with
  |false=>
   rw[hwr rfl]
   (have hb:=trivial;with_reducible repeat' (first|simp only[hb,Vc.down,seval,TY106.down,hst,happ_news,List.cons_append,hrep]|refine fsp ?_ ?_<;>intro hb|refine fd ?_|fail))
   exact⟨_,rfl⟩
  |true=>
   (have hb:=trivial;with_reducible repeat' (first|simp only[hb,Vc.down,seval,TY106.down,hst,happ_news,List.cons_append]|refine fsp ?_ ?_<;>intro hb|refine fd ?_|fail))
   exact⟨_,rfl⟩
end Go.Proofs.YtdbiogihimdpcaaGreatDoor
