/- The functions of the layer, walked. -/
import Derived.Test.YtdbiogihimdpcaaGreatDoorPartAD
import Derived.Test.YtdbiogihimdpcaaGreatDoorPartAB
import Derived.Test.YtdbiogihimdpcaaGreatDoorLibE
open List renaming length_map→aaS,replicate→aaW,cons_append→aa0,nil_append→aa6,getElem?_eq_getElem→abB,getElem?_eq_some_iff→abY,length_cons→ab9,length_eq_zero_iff→acF,take_of_length_le→acK,mem_of_getElem?→aeM,length_pos_iff→aeP,map_cons→aeW,map_nil→aeZ,length_nil→ae6,set_cons_succ→ae7,set_cons_zero→ae8,take_add_one→af4
open Int renaming lt_irrefl→abO,le_refl→abT,natCast_nonneg→acZ,reduceEq→adV,reducePow→aeH
open Option renaming getD_some→afM
set_option linter.unusedSimpArgs false
set_option linter.unusedVariables false
namespace Go.Proofs.YtdbiogihimdpcaaGreatDoor
open Go.Ev Go
set_option maxRecDepth 100000
set_option maxHeartbeats 16000000
theorem Po(x:Int):Bi.call (.fn 134) [.int .i64 x] []=some (.ret (.int .i64 x),[]):=by
 (refine ce Tryz.func134 ?_;simp only[Tryz.f134];(have hb:=trivial;with_reducible repeat' (first|simp only[hb,Vb.down,seval]|refine Af ?_ ?_<;>intro hb|refine fd ?_|fail)))
def Ji(A:List Int)(x:Bc):Int:=min2 x.flowIn (Ar (A.map Bm) 0)
def Le(A:List Int)(x:Bc):Int:=min2 x.flowOut (Ar (A.map Bz) 0)
def Bl(a:Int)(l:List Int):List Int:=Cm a (Ar l 0) l 0 0
def aU(A:List Int)(x:Bc):List Int:=List.zipWith Ti (Bl (Ji A x) (A.map Bm)) (Bl (Le A x) (A.map Bz))
def eJ(A:List Int)(x:Bc)(own:Int):Int:=IntKind.i64.wrap (own+IntKind.i64.wrap (IntKind.i64.wrap (x.flowIn-Ji A x)-IntKind.i64.wrap (x.flowOut-Le A x)))
theorem Eg(a w:Int):∀(l:List Int) (so got:Int),(Cm a w l so got).length=l.length
 | [],_,_=>rfl
 |x::l,so,got=>by unfold Cm;simp[Eg a w l]
theorem aiT{s:Ac}{d:Ap}{w w1 w2 w3 w4 w5 w6:Bool}{hr own fuel:Int}{G L W A R:List Int}{O:List Aa}{x:Bc}(hl:A.length≤1000)(hne:A≠[])(h0:0≤hr)(hx:d.hours[hr.toNat]?=some x):
 Ql Bi 108 [.ptr 0 0 0] [.live 19 false w [(rc s d hr (.slr 1 1 0 G.length) own fuel (.slr 1 2 0 L.length) .nils (.slr 1 3 0 W.length) (.slr 1 4 0 A.length) .nils .nils)],.live 1 true w1 (G.map iv),.live 1 true w2 (L.map iv),.live 1 true w4 (W.map iv),.live 1 true w6 (A.map iv)]
  fun o h'=>o=.ret (.tup [])∧h'=[.live 19 false true [(rc s d hr (.slr 1 1 0 G.length) ((eJ A x own)) fuel (.slr 1 2 0 L.length) .nils (.slr 1 3 0 W.length) (.slr 1 4 0 A.length) (.slr 1 5 0 A.length) .nils)],.live 1 true w1 (G.map iv),.live 1 true w2 (L.map iv),.live 1 true w4 (W.map iv),.live 1 true w6 (A.map iv),.live 1 true false ((aU A x).map iv)]:=by
 have g1:=dU (l:=A) (nn:=true) hl hne
 rw[An]at g1
 have g2:=Zz (l:=A.map Bm) (nn:=true) (by simp[maxLen];omega)
 have g3:=Zz (l:=A.map Bz) (nn:=true) (by simp[maxLen];omega)
 rw[An]at g2 g3
 have m1:∀l:List Int,l.map (fun x=>x)=l:=fun l=>by simp
 have g4:=Qc (amount:=Ji A x) (l:=A.map Bm) (nn:=true) (g:=134) (w:=fun x=>x) (fun x _=>Po x) (by simpa using hl)
 have g5:=Qc (amount:=Le A x) (l:=A.map Bz) (nn:=true) (g:=134) (w:=fun x=>x) (fun x _=>Po x) (by simpa using hl)
 rw[m1,An,aaS,aa6]at g4 g5
 have k2:(Bl (Ji A x) (A.map Bm)).length=A.length:=by unfold Bl;rw[Eg];simp
 have k3:(Bl (Le A x) (A.map Bz)).length=A.length:=by unfold Bl;rw[Eg];simp
 have k1:Bl (Ji A x) (A.map Bm)≠[]:=fun e=>hne (acF.1 (by rw[←k2,e];rfl))
 have g6:=Qu (Bl (Ji A x) (A.map Bm)) (Bl (Le A x) (A.map Bz)) true true (by omega) (by omega) _ _ (fun e=>(k1 e).elim) (fun _=>rfl)
 rw[An,An,k2]at g6
 have htk:∀l:List Int,l.length=A.length→(l.map iv).take A.length=l.map iv:=fun l h=>acK (by simp[h])
 have t1:=htk A rfl
 have t2:=htk (A.map Bm) (by simp)
 have t3:=htk (A.map Bz) (by simp)
 have t4:=htk _ k2
 have t5:=htk _ k3
 unfold Bl at t4 t5 g6 k2 k3
 have h39:(A.length≤549755813888)=True:=eq_true (by omega)
 have hh:∀tl:Ab,Bi.call (.sh 133) [.ptr 0 0 0] (.live 19 false false [(rc s d hr (.slr 1 1 0 G.length) own fuel (.slr 1 2 0 L.length) .nils (.slr 1 3 0 W.length) (.slr 1 4 0 A.length) .nils .nils)]::tl)=some (.ret (.agg x.cells),.live 19 false false [(rc s d hr (.slr 1 1 0 G.length) own fuel (.slr 1 2 0 L.length) .nils (.slr 1 3 0 W.length) (.slr 1 4 0 A.length) .nils .nils)]::tl++[.live 4 true true [x.cells]]):=fun tl=>Yp (b:=0) rfl h0 hx
 have q1:(if Ar (A.map Bm) 0<x.flowIn then Ar (A.map Bm) 0 else x.flowIn)=Ji A x:=by unfold Ji min2;split<;>(first|rfl|(split<;>omega)|omega)
 have q2:(if Ar (A.map Bz) 0<x.flowOut then Ar (A.map Bz) 0 else x.flowOut)=Le A x:=by unfold Le min2;split<;>(first|rfl|(split<;>omega)|omega)
 refine Je rfl Tryz.func108 rfl rfl ?_
 simp only[Tryz.f108]
 (have hb:=trivial;with_reducible repeat' (first|simp only[hb,Vb.down,seval,xF.down,aaS,hh,Bc.cells,g1,g2,g3,q1,q2,g4,g5,g6,k2,k3,t1,t2,t3,t4,t5,h39]|refine Af ?_ ?_<;>intro hb|refine fd ?_|fail))
 rfl
theorem aiK{s:Ac}{d:Ap}{w w1 w2 w3 w4 w5 w6:Bool}{hr own fuel:Int}{G L W A R:List Int}{O:List Aa}{x:Bc}(hl:A.length≤1000)(hne:A≠[])(h0:0≤hr)(hx:d.hours[hr.toNat]?=some x):
 Ql Bi 108 [.ptr 0 0 0] [.live 19 false w [(rc s d hr (.slr 1 1 0 G.length) own fuel (.slr 1 2 0 L.length) (.slr 5 3 0 O.length) (.slr 1 4 0 W.length) (.slr 1 5 0 A.length) .nils .nils)],.live 1 true w1 (G.map iv),.live 1 true w2 (L.map iv),.live 5 true w3 (O.map Aa.cells),.live 1 true w4 (W.map iv),.live 1 true w6 (A.map iv)]
  fun o h'=>o=.ret (.tup [])∧h'=[.live 19 false true [(rc s d hr (.slr 1 1 0 G.length) ((eJ A x own)) fuel (.slr 1 2 0 L.length) (.slr 5 3 0 O.length) (.slr 1 4 0 W.length) (.slr 1 5 0 A.length) (.slr 1 6 0 A.length) .nils)],.live 1 true w1 (G.map iv),.live 1 true w2 (L.map iv),.live 5 true w3 (O.map Aa.cells),.live 1 true w4 (W.map iv),.live 1 true w6 (A.map iv),.live 1 true false ((aU A x).map iv)]:=by
 have g1:=dU (l:=A) (nn:=true) hl hne
 rw[An]at g1
 have g2:=Zz (l:=A.map Bm) (nn:=true) (by simp[maxLen];omega)
 have g3:=Zz (l:=A.map Bz) (nn:=true) (by simp[maxLen];omega)
 rw[An]at g2 g3
 have m1:∀l:List Int,l.map (fun x=>x)=l:=fun l=>by simp
 have g4:=Qc (amount:=Ji A x) (l:=A.map Bm) (nn:=true) (g:=134) (w:=fun x=>x) (fun x _=>Po x) (by simpa using hl)
 have g5:=Qc (amount:=Le A x) (l:=A.map Bz) (nn:=true) (g:=134) (w:=fun x=>x) (fun x _=>Po x) (by simpa using hl)
 rw[m1,An,aaS,aa6]at g4 g5
 have k2:(Bl (Ji A x) (A.map Bm)).length=A.length:=by unfold Bl;rw[Eg];simp
 have k3:(Bl (Le A x) (A.map Bz)).length=A.length:=by unfold Bl;rw[Eg];simp
 have k1:Bl (Ji A x) (A.map Bm)≠[]:=fun e=>hne (acF.1 (by rw[←k2,e];rfl))
 have g6:=Qu (Bl (Ji A x) (A.map Bm)) (Bl (Le A x) (A.map Bz)) true true (by omega) (by omega) _ _ (fun e=>(k1 e).elim) (fun _=>rfl)
 rw[An,An,k2]at g6
 have htk:∀l:List Int,l.length=A.length→(l.map iv).take A.length=l.map iv:=fun l h=>acK (by simp[h])
 have t1:=htk A rfl
 have t2:=htk (A.map Bm) (by simp)
 have t3:=htk (A.map Bz) (by simp)
 have t4:=htk _ k2
 have t5:=htk _ k3
 unfold Bl at t4 t5 g6 k2 k3
 have h39:(A.length≤549755813888)=True:=eq_true (by omega)
 have hh:∀tl:Ab,Bi.call (.sh 133) [.ptr 0 0 0] (.live 19 false false [(rc s d hr (.slr 1 1 0 G.length) own fuel (.slr 1 2 0 L.length) (.slr 5 3 0 O.length) (.slr 1 4 0 W.length) (.slr 1 5 0 A.length) .nils .nils)]::tl)=some (.ret (.agg x.cells),.live 19 false false [(rc s d hr (.slr 1 1 0 G.length) own fuel (.slr 1 2 0 L.length) (.slr 5 3 0 O.length) (.slr 1 4 0 W.length) (.slr 1 5 0 A.length) .nils .nils)]::tl++[.live 4 true true [x.cells]]):=fun tl=>Yp (b:=0) rfl h0 hx
 have q1:(if Ar (A.map Bm) 0<x.flowIn then Ar (A.map Bm) 0 else x.flowIn)=Ji A x:=by unfold Ji min2;split<;>(first|rfl|(split<;>omega)|omega)
 have q2:(if Ar (A.map Bz) 0<x.flowOut then Ar (A.map Bz) 0 else x.flowOut)=Le A x:=by unfold Le min2;split<;>(first|rfl|(split<;>omega)|omega)
 refine Je rfl Tryz.func108 rfl rfl ?_
 simp only[Tryz.f108]
 (have hb:=trivial;with_reducible repeat' (first|simp only[hb,Vb.down,seval,xF.down,aaS,hh,Bc.cells,g1,g2,g3,q1,q2,g4,g5,g6,k2,k3,t1,t2,t3,t4,t5,h39]|refine Af ?_ ?_<;>intro hb|refine fd ?_|fail))
 rfl
theorem aiE{s:Ac}{d:Ap}{w w1 w2 w3 w4 w5 w6:Bool}{hr own fuel:Int}{G L W A R:List Int}{O:List Aa}{x:Bc}(hl:A.length≤1000)(hne:A≠[])(h0:0≤hr)(hx:d.hours[hr.toNat]?=some x):
 Ql Bi 108 [.ptr 0 0 0] [.live 19 false w [(rc s d hr (.slr 1 1 0 G.length) own fuel (.slr 1 2 0 L.length) .nils (.slr 1 3 0 W.length) (.slr 1 4 0 A.length) .nils (.slr 1 5 0 R.length))],.live 1 true w1 (G.map iv),.live 1 true w2 (L.map iv),.live 1 true w4 (W.map iv),.live 1 true w6 (A.map iv),.live 1 true w5 (R.map iv)]
  fun o h'=>o=.ret (.tup [])∧h'=[.live 19 false true [(rc s d hr (.slr 1 1 0 G.length) ((eJ A x own)) fuel (.slr 1 2 0 L.length) .nils (.slr 1 3 0 W.length) (.slr 1 4 0 A.length) (.slr 1 6 0 A.length) (.slr 1 5 0 R.length))],.live 1 true w1 (G.map iv),.live 1 true w2 (L.map iv),.live 1 true w4 (W.map iv),.live 1 true w6 (A.map iv),.live 1 true w5 (R.map iv),.live 1 true false ((aU A x).map iv)]:=by
 have g1:=dU (l:=A) (nn:=true) hl hne
 rw[An]at g1
 have g2:=Zz (l:=A.map Bm) (nn:=true) (by simp[maxLen];omega)
 have g3:=Zz (l:=A.map Bz) (nn:=true) (by simp[maxLen];omega)
 rw[An]at g2 g3
 have m1:∀l:List Int,l.map (fun x=>x)=l:=fun l=>by simp
 have g4:=Qc (amount:=Ji A x) (l:=A.map Bm) (nn:=true) (g:=134) (w:=fun x=>x) (fun x _=>Po x) (by simpa using hl)
 have g5:=Qc (amount:=Le A x) (l:=A.map Bz) (nn:=true) (g:=134) (w:=fun x=>x) (fun x _=>Po x) (by simpa using hl)
 rw[m1,An,aaS,aa6]at g4 g5
 have k2:(Bl (Ji A x) (A.map Bm)).length=A.length:=by unfold Bl;rw[Eg];simp
 have k3:(Bl (Le A x) (A.map Bz)).length=A.length:=by unfold Bl;rw[Eg];simp
 have k1:Bl (Ji A x) (A.map Bm)≠[]:=fun e=>hne (acF.1 (by rw[←k2,e];rfl))
 have g6:=Qu (Bl (Ji A x) (A.map Bm)) (Bl (Le A x) (A.map Bz)) true true (by omega) (by omega) _ _ (fun e=>(k1 e).elim) (fun _=>rfl)
 rw[An,An,k2]at g6
 have htk:∀l:List Int,l.length=A.length→(l.map iv).take A.length=l.map iv:=fun l h=>acK (by simp[h])
 have t1:=htk A rfl
 have t2:=htk (A.map Bm) (by simp)
 have t3:=htk (A.map Bz) (by simp)
 have t4:=htk _ k2
 have t5:=htk _ k3
 unfold Bl at t4 t5 g6 k2 k3
 have h39:(A.length≤549755813888)=True:=eq_true (by omega)
 have hh:∀tl:Ab,Bi.call (.sh 133) [.ptr 0 0 0] (.live 19 false false [(rc s d hr (.slr 1 1 0 G.length) own fuel (.slr 1 2 0 L.length) .nils (.slr 1 3 0 W.length) (.slr 1 4 0 A.length) .nils (.slr 1 5 0 R.length))]::tl)=some (.ret (.agg x.cells),.live 19 false false [(rc s d hr (.slr 1 1 0 G.length) own fuel (.slr 1 2 0 L.length) .nils (.slr 1 3 0 W.length) (.slr 1 4 0 A.length) .nils (.slr 1 5 0 R.length))]::tl++[.live 4 true true [x.cells]]):=fun tl=>Yp (b:=0) rfl h0 hx
 have q1:(if Ar (A.map Bm) 0<x.flowIn then Ar (A.map Bm) 0 else x.flowIn)=Ji A x:=by unfold Ji min2;split<;>(first|rfl|(split<;>omega)|omega)
 have q2:(if Ar (A.map Bz) 0<x.flowOut then Ar (A.map Bz) 0 else x.flowOut)=Le A x:=by unfold Le min2;split<;>(first|rfl|(split<;>omega)|omega)
 refine Je rfl Tryz.func108 rfl rfl ?_
 simp only[Tryz.f108]
 (have hb:=trivial;with_reducible repeat' (first|simp only[hb,Vb.down,seval,xF.down,aaS,hh,Bc.cells,g1,g2,g3,q1,q2,g4,g5,g6,k2,k3,t1,t2,t3,t4,t5,h39]|refine Af ?_ ?_<;>intro hb|refine fd ?_|fail))
 rfl
theorem ak3{s:Ac}{d:Ap}{w w1 w2 w3 w4 w5 w6:Bool}{hr own fuel:Int}{G L W A R:List Int}{O:List Aa}{x:Bc}(hl:A.length≤1000)(hne:A≠[])(h0:0≤hr)(hx:d.hours[hr.toNat]?=some x):
 Ql Bi 108 [.ptr 0 0 0] [.live 19 false w [(rc s d hr (.slr 1 1 0 G.length) own fuel (.slr 1 2 0 L.length) (.slr 5 3 0 O.length) (.slr 1 4 0 W.length) (.slr 1 5 0 A.length) .nils (.slr 1 6 0 R.length))],.live 1 true w1 (G.map iv),.live 1 true w2 (L.map iv),.live 5 true w3 (O.map Aa.cells),.live 1 true w4 (W.map iv),.live 1 true w6 (A.map iv),.live 1 true w5 (R.map iv)]
  fun o h'=>o=.ret (.tup [])∧h'=[.live 19 false true [(rc s d hr (.slr 1 1 0 G.length) ((eJ A x own)) fuel (.slr 1 2 0 L.length) (.slr 5 3 0 O.length) (.slr 1 4 0 W.length) (.slr 1 5 0 A.length) (.slr 1 7 0 A.length) (.slr 1 6 0 R.length))],.live 1 true w1 (G.map iv),.live 1 true w2 (L.map iv),.live 5 true w3 (O.map Aa.cells),.live 1 true w4 (W.map iv),.live 1 true w6 (A.map iv),.live 1 true w5 (R.map iv),.live 1 true false ((aU A x).map iv)]:=by
 have g1:=dU (l:=A) (nn:=true) hl hne
 rw[An]at g1
 have g2:=Zz (l:=A.map Bm) (nn:=true) (by simp[maxLen];omega)
 have g3:=Zz (l:=A.map Bz) (nn:=true) (by simp[maxLen];omega)
 rw[An]at g2 g3
 have m1:∀l:List Int,l.map (fun x=>x)=l:=fun l=>by simp
 have g4:=Qc (amount:=Ji A x) (l:=A.map Bm) (nn:=true) (g:=134) (w:=fun x=>x) (fun x _=>Po x) (by simpa using hl)
 have g5:=Qc (amount:=Le A x) (l:=A.map Bz) (nn:=true) (g:=134) (w:=fun x=>x) (fun x _=>Po x) (by simpa using hl)
 rw[m1,An,aaS,aa6]at g4 g5
 have k2:(Bl (Ji A x) (A.map Bm)).length=A.length:=by unfold Bl;rw[Eg];simp
 have k3:(Bl (Le A x) (A.map Bz)).length=A.length:=by unfold Bl;rw[Eg];simp
 have k1:Bl (Ji A x) (A.map Bm)≠[]:=fun e=>hne (acF.1 (by rw[←k2,e];rfl))
 have g6:=Qu (Bl (Ji A x) (A.map Bm)) (Bl (Le A x) (A.map Bz)) true true (by omega) (by omega) _ _ (fun e=>(k1 e).elim) (fun _=>rfl)
 rw[An,An,k2]at g6
 have htk:∀l:List Int,l.length=A.length→(l.map iv).take A.length=l.map iv:=fun l h=>acK (by simp[h])
 have t1:=htk A rfl
 have t2:=htk (A.map Bm) (by simp)
 have t3:=htk (A.map Bz) (by simp)
 have t4:=htk _ k2
 have t5:=htk _ k3
 unfold Bl at t4 t5 g6 k2 k3
 have h39:(A.length≤549755813888)=True:=eq_true (by omega)
 have hh:∀tl:Ab,Bi.call (.sh 133) [.ptr 0 0 0] (.live 19 false false [(rc s d hr (.slr 1 1 0 G.length) own fuel (.slr 1 2 0 L.length) (.slr 5 3 0 O.length) (.slr 1 4 0 W.length) (.slr 1 5 0 A.length) .nils (.slr 1 6 0 R.length))]::tl)=some (.ret (.agg x.cells),.live 19 false false [(rc s d hr (.slr 1 1 0 G.length) own fuel (.slr 1 2 0 L.length) (.slr 5 3 0 O.length) (.slr 1 4 0 W.length) (.slr 1 5 0 A.length) .nils (.slr 1 6 0 R.length))]::tl++[.live 4 true true [x.cells]]):=fun tl=>Yp (b:=0) rfl h0 hx
 have q1:(if Ar (A.map Bm) 0<x.flowIn then Ar (A.map Bm) 0 else x.flowIn)=Ji A x:=by unfold Ji min2;split<;>(first|rfl|(split<;>omega)|omega)
 have q2:(if Ar (A.map Bz) 0<x.flowOut then Ar (A.map Bz) 0 else x.flowOut)=Le A x:=by unfold Le min2;split<;>(first|rfl|(split<;>omega)|omega)
 refine Je rfl Tryz.func108 rfl rfl ?_
 simp only[Tryz.f108]
 (have hb:=trivial;with_reducible repeat' (first|simp only[hb,Vb.down,seval,xF.down,aaS,hh,Bc.cells,g1,g2,g3,q1,q2,g4,g5,g6,k2,k3,t1,t2,t3,t4,t5,h39]|refine Af ?_ ?_<;>intro hb|refine fd ?_|fail))
 rfl
def rE(n:Int):Int:=if 0<n then n else 0
def Nk(f n:Int):Int:=IntKind.i64.wrap ((IntKind.i64.wrap (rE n*f)).tdiv 1000)
def Hy(f:Int):List Int→Nat→List Int × Int→List Int × Int
 | [],_,a=>a
 |n::rest,i,(G,fu)=>Hy f rest (i+1) (sI G i (IntKind.i64.wrap (gI G i+IntKind.i64.wrap (n-Nk f n))),IntKind.i64.wrap (fu+Nk f n))
theorem auK{s:Ac}{d:Ap}{w w1 w2 w3 w4 w5 w6 w7:Bool}{hr own fuel:Int}{G L W A F R:List Int}{O:List Aa}(hFG:F.length=G.length)(hl:F.length≤1000):
 Ql Bi 109 [.ptr 0 0 0] [.live 19 false w [(rc s d hr (.slr 1 1 0 G.length) own fuel (.slr 1 2 0 L.length) .nils (.slr 1 3 0 W.length) (.slr 1 4 0 A.length) (.slr 1 5 0 F.length) .nils)],.live 1 true w1 (G.map iv),.live 1 true w2 (L.map iv),.live 1 true w4 (W.map iv),.live 1 true w6 (A.map iv),.live 1 true w7 (F.map iv)]
  fun o h'=>o=.ret (.tup [])∧∃wr wG,(wG=false→(Hy s.fuel F 0 (G,fuel)).1=G)∧(wr=false→(Hy s.fuel F 0 (G,fuel)).2=fuel)∧h'=[.live 19 false wr [(rc s d hr (.slr 1 1 0 G.length) own ((Hy s.fuel F 0 (G,fuel)).2) (.slr 1 2 0 L.length) .nils (.slr 1 3 0 W.length) (.slr 1 4 0 A.length) (.slr 1 5 0 F.length) .nils)],.live 1 true wG ((Hy s.fuel F 0 (G,fuel)).1.map iv),.live 1 true w2 (L.map iv),.live 1 true w4 (W.map iv),.live 1 true w6 (A.map iv),.live 1 true w7 (F.map iv)]:=by
 have hl':F.length≤maxLen:=by unfold maxLen;omega
 refine Je rfl Tryz.func109 rfl rfl ?_
 simp only[Tryz.f109]
 (have hb:=trivial;with_reducible repeat' (first|simp only[hb,Vb.down,seval,Rr.down,aaS]|refine Af ?_ ?_<;>intro hb|refine fd ?_|fail))
 refine Cd (Np 49 F (fun i (zz:List Int × Int × Nat) t h=>t 0=.ptr 0 0 0∧t 9=.slr 1 5 0 F.length∧t 10=.int .i64 F.length∧t 11=.int .i64 i∧(∃wr wG,h=[.live 19 false wr [(rc s d hr (.slr 1 1 0 G.length) own zz.2.1 (.slr 1 2 0 L.length) .nils (.slr 1 3 0 W.length) (.slr 1 4 0 A.length) (.slr 1 5 0 F.length) .nils)],.live 1 true wG (zz.1.map iv),.live 1 true w2 (L.map iv),.live 1 true w4 (W.map iv),.live 1 true w6 (A.map iv),.live 1 true w7 (F.map iv)]∧(wG=false→zz.1=G)∧(wr=false→zz.2.1=fuel)∧zz.1.length=G.length∧i=zz.2.2)) (fun rest zz=>Hy s.fuel rest zz.2.2 (zz.1,zz.2.1)) (fun r e t h=>e=.exit 0∧∃wr wG,h=[.live 19 false wr [(rc s d hr (.slr 1 1 0 G.length) own r.2 (.slr 1 2 0 L.length) .nils (.slr 1 3 0 W.length) (.slr 1 4 0 A.length) (.slr 1 5 0 F.length) .nils)],.live 1 true wG (r.1.map iv),.live 1 true w2 (L.map iv),.live 1 true w4 (W.map iv),.live 1 true w6 (A.map iv),.live 1 true w7 (F.map iv)]∧(wG=false→r.1=G)∧(wr=false→r.2=fuel)) ?_ ?_ (G,fuel,0) _ _ ?_) (fun e t h hk=>?_)
 ·rintro⟨G',fu,k⟩ t h Q' kQ ⟨h0,h9,h10,h11,⟨wr,wG,rfl,hwG,hwr,hG',rfl⟩⟩
  try dsimp only at *
  (have hb:=trivial;with_reducible repeat' (first|simp only[hb,Vb.down,seval,Rr.down,h0,h9,h10,h11,abO,decide_false]|refine Af ?_ ?_<;>intro hb|refine fd ?_|fail))
  exact kQ _ _ _ ⟨rfl,wr,wG,rfl,hwG,hwr⟩
 ·rintro x rest i ⟨G',fu,k⟩ t h J Q' kJ kQ hx hi ⟨h0,h9,h10,h11,⟨wr,wG,rfl,hwG,hwr,hG',rfl⟩⟩
  have hd:decide ((i:Int)<(F.length:Int))=true:=decide_eq_true (by omega)
  have hw:=Ai hi hl'
  try dsimp only at *
  have hii:((i:Int)<(F.length:Int))=True:=eq_true (by omega)
  have hig:((i:Int)<(G.length:Int))=True:=eq_true (by omega)
  have a1:G'[i]?=some (gI G' i):=by have:=Ff (l:=G') (i:=(i:Int)) (by simp;omega);simpa using this
  have a2:∀v,(G'.map iv).set i [.int .i64 v]=(sI G' i v).map iv:=fun v=>by have:=Dt G' (i:Int) v;simpa using this
  have a3:(if 0<x then x else 0)=rE x:=rfl
  have a4:IntKind.i64.wrap ((IntKind.i64.wrap (rE x*s.fuel)).tdiv 1000)=Nk s.fuel x:=rfl
  (have hb:=trivial;with_reducible repeat' (first|simp only[hb,Vb.down,seval,Rr.down,h0,h9,h10,h11,hd,hx,hw,hii,hig,iv,aaS,a1,a2,a3,a4,acZ,adV]|refine Af ?_ ?_<;>intro hb|refine fd ?_|fail))
  (refine Ah (kJ _ _ (sI G' i (IntKind.i64.wrap (gI G' i+IntKind.i64.wrap (x-Nk s.fuel x))),IntKind.i64.wrap (fu+Nk s.fuel x),i+1) ⟨?_,?_,?_,?_,⟨true,true,rfl,(fun h=>by cases h),(fun h=>by cases h),by rw[Bg];exact hG',rfl⟩⟩ ?_);(simp[up,h0]);(simp[up,h9]);(simp[up,h10]);(simp[up]);(simp[Hy]))
 ·exact⟨by simp[up,Bw],by simp[up,Bw],by simp[up,Bw],by simp[up],⟨_,_,rfl,fun _=>rfl,fun _=>rfl,rfl,rfl⟩⟩
 ·obtain⟨rfl,wr,wG,rfl,hwG,hwr⟩:=hk
  (have hb:=trivial;with_reducible repeat' (first|simp only[hb,Vb.down,seval,Rr.down]|refine Af ?_ ?_<;>intro hb|refine fd ?_|fail))
  exact⟨wr,wG,hwG,hwr,rfl⟩
theorem aqU{s:Ac}{d:Ap}{w w1 w2 w3 w4 w5 w6 w7:Bool}{hr own fuel:Int}{G L W A F R:List Int}{O:List Aa}(hFG:F.length=G.length)(hl:F.length≤1000):
 Ql Bi 109 [.ptr 0 0 0] [.live 19 false w [(rc s d hr (.slr 1 1 0 G.length) own fuel (.slr 1 2 0 L.length) (.slr 5 3 0 O.length) (.slr 1 4 0 W.length) (.slr 1 5 0 A.length) (.slr 1 6 0 F.length) .nils)],.live 1 true w1 (G.map iv),.live 1 true w2 (L.map iv),.live 5 true w3 (O.map Aa.cells),.live 1 true w4 (W.map iv),.live 1 true w6 (A.map iv),.live 1 true w7 (F.map iv)]
  fun o h'=>o=.ret (.tup [])∧∃wr wG,(wG=false→(Hy s.fuel F 0 (G,fuel)).1=G)∧(wr=false→(Hy s.fuel F 0 (G,fuel)).2=fuel)∧h'=[.live 19 false wr [(rc s d hr (.slr 1 1 0 G.length) own ((Hy s.fuel F 0 (G,fuel)).2) (.slr 1 2 0 L.length) (.slr 5 3 0 O.length) (.slr 1 4 0 W.length) (.slr 1 5 0 A.length) (.slr 1 6 0 F.length) .nils)],.live 1 true wG ((Hy s.fuel F 0 (G,fuel)).1.map iv),.live 1 true w2 (L.map iv),.live 5 true w3 (O.map Aa.cells),.live 1 true w4 (W.map iv),.live 1 true w6 (A.map iv),.live 1 true w7 (F.map iv)]:=by
 have hl':F.length≤maxLen:=by unfold maxLen;omega
 refine Je rfl Tryz.func109 rfl rfl ?_
 simp only[Tryz.f109]
 (have hb:=trivial;with_reducible repeat' (first|simp only[hb,Vb.down,seval,Rr.down,aaS]|refine Af ?_ ?_<;>intro hb|refine fd ?_|fail))
 refine Cd (Np 49 F (fun i (zz:List Int × Int × Nat) t h=>t 0=.ptr 0 0 0∧t 9=.slr 1 6 0 F.length∧t 10=.int .i64 F.length∧t 11=.int .i64 i∧(∃wr wG,h=[.live 19 false wr [(rc s d hr (.slr 1 1 0 G.length) own zz.2.1 (.slr 1 2 0 L.length) (.slr 5 3 0 O.length) (.slr 1 4 0 W.length) (.slr 1 5 0 A.length) (.slr 1 6 0 F.length) .nils)],.live 1 true wG (zz.1.map iv),.live 1 true w2 (L.map iv),.live 5 true w3 (O.map Aa.cells),.live 1 true w4 (W.map iv),.live 1 true w6 (A.map iv),.live 1 true w7 (F.map iv)]∧(wG=false→zz.1=G)∧(wr=false→zz.2.1=fuel)∧zz.1.length=G.length∧i=zz.2.2)) (fun rest zz=>Hy s.fuel rest zz.2.2 (zz.1,zz.2.1)) (fun r e t h=>e=.exit 0∧∃wr wG,h=[.live 19 false wr [(rc s d hr (.slr 1 1 0 G.length) own r.2 (.slr 1 2 0 L.length) (.slr 5 3 0 O.length) (.slr 1 4 0 W.length) (.slr 1 5 0 A.length) (.slr 1 6 0 F.length) .nils)],.live 1 true wG (r.1.map iv),.live 1 true w2 (L.map iv),.live 5 true w3 (O.map Aa.cells),.live 1 true w4 (W.map iv),.live 1 true w6 (A.map iv),.live 1 true w7 (F.map iv)]∧(wG=false→r.1=G)∧(wr=false→r.2=fuel)) ?_ ?_ (G,fuel,0) _ _ ?_) (fun e t h hk=>?_)
 ·rintro⟨G',fu,k⟩ t h Q' kQ ⟨h0,h9,h10,h11,⟨wr,wG,rfl,hwG,hwr,hG',rfl⟩⟩
  try dsimp only at *
  (have hb:=trivial;with_reducible repeat' (first|simp only[hb,Vb.down,seval,Rr.down,h0,h9,h10,h11,abO,decide_false]|refine Af ?_ ?_<;>intro hb|refine fd ?_|fail))
  exact kQ _ _ _ ⟨rfl,wr,wG,rfl,hwG,hwr⟩
 ·rintro x rest i ⟨G',fu,k⟩ t h J Q' kJ kQ hx hi ⟨h0,h9,h10,h11,⟨wr,wG,rfl,hwG,hwr,hG',rfl⟩⟩
  have hd:decide ((i:Int)<(F.length:Int))=true:=decide_eq_true (by omega)
  have hw:=Ai hi hl'
  try dsimp only at *
  have hii:((i:Int)<(F.length:Int))=True:=eq_true (by omega)
  have hig:((i:Int)<(G.length:Int))=True:=eq_true (by omega)
  have a1:G'[i]?=some (gI G' i):=by have:=Ff (l:=G') (i:=(i:Int)) (by simp;omega);simpa using this
  have a2:∀v,(G'.map iv).set i [.int .i64 v]=(sI G' i v).map iv:=fun v=>by have:=Dt G' (i:Int) v;simpa using this
  have a3:(if 0<x then x else 0)=rE x:=rfl
  have a4:IntKind.i64.wrap ((IntKind.i64.wrap (rE x*s.fuel)).tdiv 1000)=Nk s.fuel x:=rfl
  (have hb:=trivial;with_reducible repeat' (first|simp only[hb,Vb.down,seval,Rr.down,h0,h9,h10,h11,hd,hx,hw,hii,hig,iv,aaS,a1,a2,a3,a4,acZ,adV]|refine Af ?_ ?_<;>intro hb|refine fd ?_|fail))
  (refine Ah (kJ _ _ (sI G' i (IntKind.i64.wrap (gI G' i+IntKind.i64.wrap (x-Nk s.fuel x))),IntKind.i64.wrap (fu+Nk s.fuel x),i+1) ⟨?_,?_,?_,?_,⟨true,true,rfl,(fun h=>by cases h),(fun h=>by cases h),by rw[Bg];exact hG',rfl⟩⟩ ?_);(simp[up,h0]);(simp[up,h9]);(simp[up,h10]);(simp[up]);(simp[Hy]))
 ·exact⟨by simp[up,Bw],by simp[up,Bw],by simp[up,Bw],by simp[up],⟨_,_,rfl,fun _=>rfl,fun _=>rfl,rfl,rfl⟩⟩
 ·obtain⟨rfl,wr,wG,rfl,hwG,hwr⟩:=hk
  (have hb:=trivial;with_reducible repeat' (first|simp only[hb,Vb.down,seval,Rr.down]|refine Af ?_ ?_<;>intro hb|refine fd ?_|fail))
  exact⟨wr,wG,hwG,hwr,rfl⟩
theorem asU{s:Ac}{d:Ap}{w w1 w2 w3 w4 w5 w6 w7:Bool}{hr own fuel:Int}{G L W A F R:List Int}{O:List Aa}(hFG:F.length=G.length)(hl:F.length≤1000):
 Ql Bi 109 [.ptr 0 0 0] [.live 19 false w [(rc s d hr (.slr 1 1 0 G.length) own fuel (.slr 1 2 0 L.length) .nils (.slr 1 3 0 W.length) (.slr 1 4 0 A.length) (.slr 1 5 0 F.length) (.slr 1 6 0 R.length))],.live 1 true w1 (G.map iv),.live 1 true w2 (L.map iv),.live 1 true w4 (W.map iv),.live 1 true w6 (A.map iv),.live 1 true w7 (F.map iv),.live 1 true w5 (R.map iv)]
  fun o h'=>o=.ret (.tup [])∧∃wr wG,(wG=false→(Hy s.fuel F 0 (G,fuel)).1=G)∧(wr=false→(Hy s.fuel F 0 (G,fuel)).2=fuel)∧h'=[.live 19 false wr [(rc s d hr (.slr 1 1 0 G.length) own ((Hy s.fuel F 0 (G,fuel)).2) (.slr 1 2 0 L.length) .nils (.slr 1 3 0 W.length) (.slr 1 4 0 A.length) (.slr 1 5 0 F.length) (.slr 1 6 0 R.length))],.live 1 true wG ((Hy s.fuel F 0 (G,fuel)).1.map iv),.live 1 true w2 (L.map iv),.live 1 true w4 (W.map iv),.live 1 true w6 (A.map iv),.live 1 true w7 (F.map iv),.live 1 true w5 (R.map iv)]:=by
 have hl':F.length≤maxLen:=by unfold maxLen;omega
 refine Je rfl Tryz.func109 rfl rfl ?_
 simp only[Tryz.f109]
 (have hb:=trivial;with_reducible repeat' (first|simp only[hb,Vb.down,seval,Rr.down,aaS]|refine Af ?_ ?_<;>intro hb|refine fd ?_|fail))
 refine Cd (Np 49 F (fun i (zz:List Int × Int × Nat) t h=>t 0=.ptr 0 0 0∧t 9=.slr 1 5 0 F.length∧t 10=.int .i64 F.length∧t 11=.int .i64 i∧(∃wr wG,h=[.live 19 false wr [(rc s d hr (.slr 1 1 0 G.length) own zz.2.1 (.slr 1 2 0 L.length) .nils (.slr 1 3 0 W.length) (.slr 1 4 0 A.length) (.slr 1 5 0 F.length) (.slr 1 6 0 R.length))],.live 1 true wG (zz.1.map iv),.live 1 true w2 (L.map iv),.live 1 true w4 (W.map iv),.live 1 true w6 (A.map iv),.live 1 true w7 (F.map iv),.live 1 true w5 (R.map iv)]∧(wG=false→zz.1=G)∧(wr=false→zz.2.1=fuel)∧zz.1.length=G.length∧i=zz.2.2)) (fun rest zz=>Hy s.fuel rest zz.2.2 (zz.1,zz.2.1)) (fun r e t h=>e=.exit 0∧∃wr wG,h=[.live 19 false wr [(rc s d hr (.slr 1 1 0 G.length) own r.2 (.slr 1 2 0 L.length) .nils (.slr 1 3 0 W.length) (.slr 1 4 0 A.length) (.slr 1 5 0 F.length) (.slr 1 6 0 R.length))],.live 1 true wG (r.1.map iv),.live 1 true w2 (L.map iv),.live 1 true w4 (W.map iv),.live 1 true w6 (A.map iv),.live 1 true w7 (F.map iv),.live 1 true w5 (R.map iv)]∧(wG=false→r.1=G)∧(wr=false→r.2=fuel)) ?_ ?_ (G,fuel,0) _ _ ?_) (fun e t h hk=>?_)
 ·rintro⟨G',fu,k⟩ t h Q' kQ ⟨h0,h9,h10,h11,⟨wr,wG,rfl,hwG,hwr,hG',rfl⟩⟩
  try dsimp only at *
  (have hb:=trivial;with_reducible repeat' (first|simp only[hb,Vb.down,seval,Rr.down,h0,h9,h10,h11,abO,decide_false]|refine Af ?_ ?_<;>intro hb|refine fd ?_|fail))
  exact kQ _ _ _ ⟨rfl,wr,wG,rfl,hwG,hwr⟩
 ·rintro x rest i ⟨G',fu,k⟩ t h J Q' kJ kQ hx hi ⟨h0,h9,h10,h11,⟨wr,wG,rfl,hwG,hwr,hG',rfl⟩⟩
  have hd:decide ((i:Int)<(F.length:Int))=true:=decide_eq_true (by omega)
  have hw:=Ai hi hl'
  try dsimp only at *
  have hii:((i:Int)<(F.length:Int))=True:=eq_true (by omega)
  have hig:((i:Int)<(G.length:Int))=True:=eq_true (by omega)
  have a1:G'[i]?=some (gI G' i):=by have:=Ff (l:=G') (i:=(i:Int)) (by simp;omega);simpa using this
  have a2:∀v,(G'.map iv).set i [.int .i64 v]=(sI G' i v).map iv:=fun v=>by have:=Dt G' (i:Int) v;simpa using this
  have a3:(if 0<x then x else 0)=rE x:=rfl
  have a4:IntKind.i64.wrap ((IntKind.i64.wrap (rE x*s.fuel)).tdiv 1000)=Nk s.fuel x:=rfl
  (have hb:=trivial;with_reducible repeat' (first|simp only[hb,Vb.down,seval,Rr.down,h0,h9,h10,h11,hd,hx,hw,hii,hig,iv,aaS,a1,a2,a3,a4,acZ,adV]|refine Af ?_ ?_<;>intro hb|refine fd ?_|fail))
  (refine Ah (kJ _ _ (sI G' i (IntKind.i64.wrap (gI G' i+IntKind.i64.wrap (x-Nk s.fuel x))),IntKind.i64.wrap (fu+Nk s.fuel x),i+1) ⟨?_,?_,?_,?_,⟨true,true,rfl,(fun h=>by cases h),(fun h=>by cases h),by rw[Bg];exact hG',rfl⟩⟩ ?_);(simp[up,h0]);(simp[up,h9]);(simp[up,h10]);(simp[up]);(simp[Hy]))
 ·exact⟨by simp[up,Bw],by simp[up,Bw],by simp[up,Bw],by simp[up],⟨_,_,rfl,fun _=>rfl,fun _=>rfl,rfl,rfl⟩⟩
 ·obtain⟨rfl,wr,wG,rfl,hwG,hwr⟩:=hk
  (have hb:=trivial;with_reducible repeat' (first|simp only[hb,Vb.down,seval,Rr.down]|refine Af ?_ ?_<;>intro hb|refine fd ?_|fail))
  exact⟨wr,wG,hwG,hwr,rfl⟩
theorem arW{s:Ac}{d:Ap}{w w1 w2 w3 w4 w5 w6 w7:Bool}{hr own fuel:Int}{G L W A F R:List Int}{O:List Aa}(hFG:F.length=G.length)(hl:F.length≤1000):
 Ql Bi 109 [.ptr 0 0 0] [.live 19 false w [(rc s d hr (.slr 1 1 0 G.length) own fuel (.slr 1 2 0 L.length) (.slr 5 3 0 O.length) (.slr 1 4 0 W.length) (.slr 1 5 0 A.length) (.slr 1 6 0 F.length) (.slr 1 7 0 R.length))],.live 1 true w1 (G.map iv),.live 1 true w2 (L.map iv),.live 5 true w3 (O.map Aa.cells),.live 1 true w4 (W.map iv),.live 1 true w6 (A.map iv),.live 1 true w7 (F.map iv),.live 1 true w5 (R.map iv)]
  fun o h'=>o=.ret (.tup [])∧∃wr wG,(wG=false→(Hy s.fuel F 0 (G,fuel)).1=G)∧(wr=false→(Hy s.fuel F 0 (G,fuel)).2=fuel)∧h'=[.live 19 false wr [(rc s d hr (.slr 1 1 0 G.length) own ((Hy s.fuel F 0 (G,fuel)).2) (.slr 1 2 0 L.length) (.slr 5 3 0 O.length) (.slr 1 4 0 W.length) (.slr 1 5 0 A.length) (.slr 1 6 0 F.length) (.slr 1 7 0 R.length))],.live 1 true wG ((Hy s.fuel F 0 (G,fuel)).1.map iv),.live 1 true w2 (L.map iv),.live 5 true w3 (O.map Aa.cells),.live 1 true w4 (W.map iv),.live 1 true w6 (A.map iv),.live 1 true w7 (F.map iv),.live 1 true w5 (R.map iv)]:=by
 have hl':F.length≤maxLen:=by unfold maxLen;omega
 refine Je rfl Tryz.func109 rfl rfl ?_
 simp only[Tryz.f109]
 (have hb:=trivial;with_reducible repeat' (first|simp only[hb,Vb.down,seval,Rr.down,aaS]|refine Af ?_ ?_<;>intro hb|refine fd ?_|fail))
 refine Cd (Np 49 F (fun i (zz:List Int × Int × Nat) t h=>t 0=.ptr 0 0 0∧t 9=.slr 1 6 0 F.length∧t 10=.int .i64 F.length∧t 11=.int .i64 i∧(∃wr wG,h=[.live 19 false wr [(rc s d hr (.slr 1 1 0 G.length) own zz.2.1 (.slr 1 2 0 L.length) (.slr 5 3 0 O.length) (.slr 1 4 0 W.length) (.slr 1 5 0 A.length) (.slr 1 6 0 F.length) (.slr 1 7 0 R.length))],.live 1 true wG (zz.1.map iv),.live 1 true w2 (L.map iv),.live 5 true w3 (O.map Aa.cells),.live 1 true w4 (W.map iv),.live 1 true w6 (A.map iv),.live 1 true w7 (F.map iv),.live 1 true w5 (R.map iv)]∧(wG=false→zz.1=G)∧(wr=false→zz.2.1=fuel)∧zz.1.length=G.length∧i=zz.2.2)) (fun rest zz=>Hy s.fuel rest zz.2.2 (zz.1,zz.2.1)) (fun r e t h=>e=.exit 0∧∃wr wG,h=[.live 19 false wr [(rc s d hr (.slr 1 1 0 G.length) own r.2 (.slr 1 2 0 L.length) (.slr 5 3 0 O.length) (.slr 1 4 0 W.length) (.slr 1 5 0 A.length) (.slr 1 6 0 F.length) (.slr 1 7 0 R.length))],.live 1 true wG (r.1.map iv),.live 1 true w2 (L.map iv),.live 5 true w3 (O.map Aa.cells),.live 1 true w4 (W.map iv),.live 1 true w6 (A.map iv),.live 1 true w7 (F.map iv),.live 1 true w5 (R.map iv)]∧(wG=false→r.1=G)∧(wr=false→r.2=fuel)) ?_ ?_ (G,fuel,0) _ _ ?_) (fun e t h hk=>?_)
 ·rintro⟨G',fu,k⟩ t h Q' kQ ⟨h0,h9,h10,h11,⟨wr,wG,rfl,hwG,hwr,hG',rfl⟩⟩
  try dsimp only at *
  (have hb:=trivial;with_reducible repeat' (first|simp only[hb,Vb.down,seval,Rr.down,h0,h9,h10,h11,abO,decide_false]|refine Af ?_ ?_<;>intro hb|refine fd ?_|fail))
  exact kQ _ _ _ ⟨rfl,wr,wG,rfl,hwG,hwr⟩
 ·rintro x rest i ⟨G',fu,k⟩ t h J Q' kJ kQ hx hi ⟨h0,h9,h10,h11,⟨wr,wG,rfl,hwG,hwr,hG',rfl⟩⟩
  have hd:decide ((i:Int)<(F.length:Int))=true:=decide_eq_true (by omega)
  have hw:=Ai hi hl'
  try dsimp only at *
  have hii:((i:Int)<(F.length:Int))=True:=eq_true (by omega)
  have hig:((i:Int)<(G.length:Int))=True:=eq_true (by omega)
  have a1:G'[i]?=some (gI G' i):=by have:=Ff (l:=G') (i:=(i:Int)) (by simp;omega);simpa using this
  have a2:∀v,(G'.map iv).set i [.int .i64 v]=(sI G' i v).map iv:=fun v=>by have:=Dt G' (i:Int) v;simpa using this
  have a3:(if 0<x then x else 0)=rE x:=rfl
  have a4:IntKind.i64.wrap ((IntKind.i64.wrap (rE x*s.fuel)).tdiv 1000)=Nk s.fuel x:=rfl
  (have hb:=trivial;with_reducible repeat' (first|simp only[hb,Vb.down,seval,Rr.down,h0,h9,h10,h11,hd,hx,hw,hii,hig,iv,aaS,a1,a2,a3,a4,acZ,adV]|refine Af ?_ ?_<;>intro hb|refine fd ?_|fail))
  (refine Ah (kJ _ _ (sI G' i (IntKind.i64.wrap (gI G' i+IntKind.i64.wrap (x-Nk s.fuel x))),IntKind.i64.wrap (fu+Nk s.fuel x),i+1) ⟨?_,?_,?_,?_,⟨true,true,rfl,(fun h=>by cases h),(fun h=>by cases h),by rw[Bg];exact hG',rfl⟩⟩ ?_);(simp[up,h0]);(simp[up,h9]);(simp[up,h10]);(simp[up]);(simp[Hy]))
 ·exact⟨by simp[up,Bw],by simp[up,Bw],by simp[up,Bw],by simp[up],⟨_,_,rfl,fun _=>rfl,fun _=>rfl,rfl,rfl⟩⟩
 ·obtain⟨rfl,wr,wG,rfl,hwG,hwr⟩:=hk
  (have hb:=trivial;with_reducible repeat' (first|simp only[hb,Vb.down,seval,Rr.down]|refine Af ?_ ?_<;>intro hb|refine fd ?_|fail))
  exact⟨wr,wG,hwG,hwr,rfl⟩
def cY(c:Ag)(gas:Int):Int:=IntKind.i64.wrap ((IntKind.i64.wrap (1000*gas)).tdiv c.space)
def Ul(q:Int):List Bh→Bh→Bh
 | [],o=>o
 |r::rest,o=>Ul q rest (if r.fill≤q then r else o)
theorem qX(c:Ag)(gas:Int)(r0:Bh)(hr0:c.rates[0]?=some r0)(hl:c.rates.length≤maxLen)(hs:c.space≠0):Bi.call (.fn 132) [.agg [.bool c.firm,.int .i64 c.space,.int .i64 c.lo,.int .i64 c.hi,Ao 3 true c.nn (c.rates.map Bh.cells),.int .i64 c.gas,.int .i64 c.fixed,.int .i64 c.inn,.int .i64 c.out,.int .i64 c.cut,.int .i64 c.lack],.int .i64 gas] []=some (.ret (.agg (Ul (cY c gas) c.rates r0).cells),[]):=by
 have hz:(c.space=0)=False:=eq_false hs
 (refine ce Tryz.func132 ?_;simp only[Tryz.f132];(have hb:=trivial;with_reducible repeat' (first|simp only[hb,Va.down,seval,aa5.down,aaS,hr0,Bh.cells,abT,Int.toNat_zero]|refine Af ?_ ?_<;>intro hb|refine fd ?_|fail)))
 refine Cd (Np 30 c.rates (fun i (o:Bool × Bh) t h=>(∃K,h=[.live 11 false false [[.bool c.firm,.int .i64 c.space,.int .i64 c.lo,.int .i64 c.hi,Ao 3 true c.nn (c.rates.map Bh.cells),.int .i64 c.gas,.int .i64 c.fixed,.int .i64 c.inn,.int .i64 c.out,.int .i64 c.cut,.int .i64 c.lack]],.live 3 true false [[.int .i64 0,.int .i64 0,.int .i64 0]],.live 3 true o.1 [[.int .i64 o.2.fill,.int .i64 o.2.inn,.int .i64 o.2.out]]]++K)∧t 1=.int .i64 gas∧t 2=.ptr 0 0 0∧t 4=.ptr 1 0 0∧t 5=.ptr 2 0 0∧t 13=Ao 3 true c.nn (c.rates.map Bh.cells)∧t 14=.int .i64 c.rates.length∧t 15=.int .i64 i)
  (fun rest o=>Ul (cY c gas) rest o.2) (fun r e t h=>e=.exit 0∧(∃w K,h=[.live 11 false false [[.bool c.firm,.int .i64 c.space,.int .i64 c.lo,.int .i64 c.hi,Ao 3 true c.nn (c.rates.map Bh.cells),.int .i64 c.gas,.int .i64 c.fixed,.int .i64 c.inn,.int .i64 c.out,.int .i64 c.cut,.int .i64 c.lack]],.live 3 true false [[.int .i64 0,.int .i64 0,.int .i64 0]],.live 3 true w [[.int .i64 r.fill,.int .i64 r.inn,.int .i64 r.out]]]++K)∧t 4=.ptr 1 0 0∧t 5=.ptr 2 0 0) ?_ ?_ (true,r0) _ _ ?_) (fun e t h hk=>?_)
 ·rintro⟨w,o⟩ t h Q' kQ ⟨⟨K,rfl⟩,h1,h2,h4,h5,h13,h14,h15⟩
  (have hb:=trivial;with_reducible repeat' (first|simp only[hb,Va.down,seval,aa5.down,h14,h15,abO,decide_false]|refine Af ?_ ?_<;>intro hb|refine fd ?_|fail))
  exact kQ _ _ _ ⟨rfl,⟨w,K,rfl⟩,by simp[up,h4],by simp[up,h5]⟩
 ·rintro x rest i ⟨w,o⟩ t h J Q' kJ kQ hx hi ⟨⟨K,rfl⟩,h1,h2,h4,h5,h13,h14,h15⟩
  have hd:decide ((i:Int)<(c.rates.length:Int))=true:=by simpa using hi
  have hw:=Ai hi hl
  (have hb:=trivial;with_reducible repeat' (first|simp only[hb,Va.down,seval,aa5.down,h1,h2,h4,h5,h13,h14,h15,hd,hw,hx,hz,Bh.cells]|refine Af ?_ ?_<;>intro hb|refine fd ?_|fail))
  ·exact Ah (kJ _ _ (true,x) ⟨⟨_,rfl⟩,by simp[up,h1],by simp[up,h2],by simp[up,h4],by simp[up,h5],by simp[up,h13],by simp[up,h14],by simp[up]⟩ (by rw[decide_eq_true_eq]at hb;simp only[Ul];rw[if_pos (by exact hb)]))
  ·exact Ah (kJ _ _ (w,o) ⟨⟨_,rfl⟩,by simp[up,h1],by simp[up,h2],by simp[up,h4],by simp[up,h5],by simp[up,h13],by simp[up,h14],by simp[up]⟩ (by rw[decide_eq_false_iff_not]at hb;simp only[Ul];rw[if_neg (by exact hb)]))
 ·exact⟨⟨[],rfl⟩,by simp[up,Bw],by simp[up],by simp[up],by simp[up],by simp[up],by simp[up],by simp[up]⟩
 ·obtain⟨rfl,⟨w,K,rfl⟩,h4,h5⟩:=hk
  (have hb:=trivial;with_reducible repeat' (first|simp only[hb,Va.down,seval,aa5.down,h4,h5]|refine Af ?_ ?_<;>intro hb|refine fd ?_|fail))
  all_goals rfl
def aK(l:List Bh)(n:Nat):Bh:=(l[n]?).getD ⟨0,0,0⟩
def cI(q:Int)(l:List Bh):Nat→Bh
 |0=>aK l 0
 |n+1=>if q<(aK l (n+1)).fill then cI q l n else aK l (n+1)
theorem aqF(c:Ag)(gas:Int)(r0:Bh)(hr0:c.rates[0]?=some r0)(h0:r0.fill≤cY c gas)(hl:c.rates.length≤maxLen)(hs:c.space≠0):Bi.call (.fn 116) [.agg [.bool c.firm,.int .i64 c.space,.int .i64 c.lo,.int .i64 c.hi,Ao 3 true c.nn (c.rates.map Bh.cells),.int .i64 c.gas,.int .i64 c.fixed,.int .i64 c.inn,.int .i64 c.out,.int .i64 c.cut,.int .i64 c.lack],.int .i64 gas] []=some (.ret (.agg (cI (cY c gas) c.rates (c.rates.length-1)).cells),[]):=by
 have hz:(c.space=0)=False:=eq_false hs
 have hpos:0<c.rates.length:=(abY.1 hr0).1
 have hlast:IntKind.i64.wrap ((c.rates.length:Int)-1)=((c.rates.length-1:Nat):Int):=by
  unfold maxLen at hl
  rw[Aj (by omega) (by omega)];omega
 (refine ce Tryz.func116 ?_;simp only[Tryz.f116];(have hb:=trivial;with_reducible repeat' (first|simp only[hb,Va.down,seval,aaU.down,aaS,hlast]|refine Af ?_ ?_<;>intro hb|refine fd ?_|fail)))
 refine Cd (cnt 29 (fun n (_:Unit) t h=>n<c.rates.length∧h=[.live 11 false false [[.bool c.firm,.int .i64 c.space,.int .i64 c.lo,.int .i64 c.hi,Ao 3 true c.nn (c.rates.map Bh.cells),.int .i64 c.gas,.int .i64 c.fixed,.int .i64 c.inn,.int .i64 c.out,.int .i64 c.cut,.int .i64 c.lack]],.live 3 true false [[.int .i64 0,.int .i64 0,.int .i64 0]]]∧t 1=.int .i64 gas∧t 2=.ptr 0 0 0∧t 4=.ptr 1 0 0∧t 5=.int .i64 n)
  (fun n _=>cI (cY c gas) c.rates n) (fun r e t h=>e=.exit 0∧h=[.live 11 false false [[.bool c.firm,.int .i64 c.space,.int .i64 c.lo,.int .i64 c.hi,Ao 3 true c.nn (c.rates.map Bh.cells),.int .i64 c.gas,.int .i64 c.fixed,.int .i64 c.inn,.int .i64 c.out,.int .i64 c.cut,.int .i64 c.lack]],.live 3 true false [[.int .i64 0,.int .i64 0,.int .i64 0]]]∧t 2=.ptr 0 0 0∧t 4=.ptr 1 0 0∧∃k:Nat,t 5=.int .i64 k∧c.rates[k]?=some r) ?_ ?_ (c.rates.length-1) () _ _ ?_) (fun e t h hk=>?_)
 ·rintro _ t h Q' kQ ⟨hn,rfl,h1,h2,h4,h5⟩
  have hd:decide (cY c gas<r0.fill)=false:=by rw[decide_eq_false_iff_not];omega
  simp only[cY]at hd
  have h5':t 5=.int .i64 0:=h5
  (have hb:=trivial;with_reducible repeat' (first|simp only[hb,Va.down,seval,aaU.down,h1,h2,h4,h5',hz,hr0,Bh.cells,abT,Int.toNat_zero,hd]|refine Af ?_ ?_<;>intro hb|refine fd ?_|fail))
  all_goals first
   |exact kQ _ _ _ ⟨rfl,rfl,by simp[up,h2],by simp[up,h4],0,by simp[up,h5'],by simp[cI,aK,hr0]⟩
   |(exfalso;simp only[cY]at h0;rw[decide_eq_true_eq]at hb;omega)
 ·rintro n _ t h J Q' kJ kQ ⟨hn,rfl,h1,h2,h4,h5⟩
  obtain⟨x,hx⟩:∃x,c.rates[n+1]?=some x:=⟨c.rates[n+1],abB hn⟩
  have hw:IntKind.i64.wrap (((n+1:Nat):Int)-1)=(n:Int):=by unfold maxLen at hl;rw[Aj (by omega) (by omega)];omega
  (have hb:=trivial;with_reducible repeat' (first|simp only[hb,Va.down,seval,aaU.down,h1,h2,h4,h5,hz,hx,Bh.cells,hw]|refine Af ?_ ?_<;>intro hb|refine fd ?_|fail))
  ·exact Ah (kJ _ _ () ⟨by omega,rfl,by simp[up,h1],by simp[up,h2],by simp[up,h4],by simp[up]⟩ (by rw[decide_eq_true_eq]at hb;simp only[cI,aK,hx,afM];rw[if_pos (by exact hb)]))
  ·exact kQ _ _ _ ⟨rfl,rfl,by simp[up,h2],by simp[up,h4],n+1,by simp[up,h5],by rw[decide_eq_false_iff_not]at hb;simp only[cI,aK,hx,afM];rw[if_neg (by exact hb)]⟩
 ·exact⟨by omega,rfl,by simp[up,Bw],by simp[up],by simp[up],by simp[up]⟩
 ·obtain⟨rfl,rfl,h2,h4,k,h5,hx⟩:=hk
  (have hb:=trivial;with_reducible repeat' (first|simp only[hb,Va.down,seval,aaU.down,h2,h4,h5,hx,Bh.cells]|refine Af ?_ ?_<;>intro hb|refine fd ?_|fail))
  all_goals rfl
theorem kX(q:Int):∀(l:List Bh) (r o:Bh),Ul q (l++[r]) o=if r.fill≤q then r else Ul q l o
 | [],r,o=>rfl
 |x::l,r,o=>by simp only[aa0,Ul];exact kX q l r _
theorem aa8(q:Int)(l:List Bh)(r0:Bh)(hr0:l[0]?=some r0):∀n,n<l.length→Ul q (l.take (n+1)) r0=cI q l n
 |0,h=>by
  have:l.take 1=[r0]:=by rw[af4,hr0];rfl
  rw[this]
  simp[Ul,cI,aK,hr0]
 |n+1,h=>by
  obtain⟨x,hx⟩:∃x,l[n+1]?=some x:=⟨l[n+1],abB h⟩
  rw[af4,hx]
  simp only[Option.toList_some]
  rw[kX,aa8 q l r0 hr0 n (by omega)]
  simp only[cI,aK,hx,afM]
  by_cases hq:x.fill≤q
  ·rw[if_pos hq,if_neg (by omega)]
  ·rw[if_neg hq,if_pos (by omega)]
theorem adB(q:Int)(l:List Bh)(r0:Bh)(hr0:l[0]?=some r0):Ul q l r0=cI q l (l.length-1):=by
 have hpos:0<l.length:=(abY.1 hr0).1
 have:=aa8 q l r0 hr0 (l.length-1) (by omega)
 rwa[show l.length-1+1=l.length by omega,List.take_length]at this
theorem wH{vs:List AV}{b:Nat}{h:Ab}{ps:List Nat}{asg body:Code}{tm:List AV}{st:Ta}{Q:Eo→Ab→Prop}(hb:h[b]?=some (.lp ps asg body tm st))(hl:ps.length=vs.length)
 (he:RnE b Q (akR Bi Tryz.prog b body (Ed Bi Tryz.prog 5000 asg [] ⟨Ud tm ps vs,h⟩))):RnQ Bi (vs++[.yl b]) h Q:=RnQ.start (pr:=pr) hb hl he
theorem Pg{g:Ab}(h:Bv g=true):Bv (fG g)=true:=by
 simp only[Bv,fG,List.all_eq_true,List.mem_map]at h ⊢
 rintro c ⟨c',hc',rfl⟩
 have:=h c' hc'
 cases c'<;>simp_all[CB.quiet,CB.clean,CB.same]
def Kr{σ:Type}(st:Nat→Ag→σ→σ):List Ag→Nat→σ→σ
 | [],_,a=>a
 |c::rest,i,a=>Kr st rest (i+1) (st i c a)
theorem Sm{s:Ac}{d:Ap}{hr:Int}{y:AV}{σ:Type}(st:Nat→Ag→σ→σ)(Vt:Nat→σ→Ab→Prop)(hl:s.cons.length≤maxLen)
 (hI:∀i a h,Vt i a h→∃fl w gv own fuel lv ov wv av fv rv,h[0]?=some (.live 19 fl w [(rc s d hr gv own fuel lv ov wv av fv rv)]))
 (hA:∀i a h fl w (rows:List (List AV)),Vt i a h→Vt i a (h++[.live 11 fl w rows]))
 (hR:∀(i:Nat) (c:Ag) a h,s.cons[i]?=some c→Hw hr c.lo c.hi=true→Vt i a h→∃es,cl Bi h (some y) (some [.int .i64 i,.agg [.bool c.firm,.int .i64 c.space,.int .i64 c.lo,.int .i64 c.hi,Ao 3 true c.nn (c.rates.map Bh.cells),.int .i64 c.gas,.int .i64 c.fixed,.int .i64 c.inn,.int .i64 c.out,.int .i64 c.cut,.int .i64 c.lack]])=some (.ret (.bool true),es)∧Vt (i+1) (st i c a) (Ba h es))
 (hN:∀(i:Nat) (c:Ag) a h,s.cons[i]?=some c→Hw hr c.lo c.hi=false→Vt i a h→Vt (i+1) (st i c a) h)
 (a0:σ) {h0:Ab} (h0I:Vt 0 a0 h0):
 ShQ Bi 131 [.ptr 0 0 0,y] h0 fun o h'=>o=.ret (.tup [])∧Vt s.cons.length (Kr st s.cons 0 a0) h':=by
 obtain⟨fl,w,gv,own,fuel,lv,ov,wv,av,fv,rv,hB⟩:=hI _ _ _ h0I
 refine axW rfl Tryz.func131 rfl rfl ?_
 simp only[Tryz.f131]
 (have hb:=trivial;with_reducible repeat' (first|simp only[hb,Vc.down,seval,pE.down,hB,aaS]|refine Af ?_ ?_<;>intro hb|refine fd ?_|fail))
 refine Cd (Np 32 s.cons (fun i (zz:σ × Nat) t h=>t 0=.ptr 0 0 0∧t 1=y∧t 10=Ao 11 false s.nn (s.cons.map Ag.cells)∧t 11=.int .i64 s.cons.length∧t 12=.int .i64 i∧(Vt i zz.1 h∧i=zz.2)) (fun rest zz=>Kr st rest zz.2 zz.1) (fun r e t h=>e=.exit 0∧Vt s.cons.length r h) ?_ ?_ (a0,0) _ _ ?_) (fun e t h hk=>?_)
 ·rintro⟨a,k⟩ t h Q' kQ ⟨h0,h1,h10,h11,h12,⟨hv,rfl⟩⟩
  try dsimp only at *
  (have hb:=trivial;with_reducible repeat' (first|simp only[hb,Vc.down,seval,pE.down,h0,h1,h10,h11,h12,abO,decide_false]|refine Af ?_ ?_<;>intro hb|refine fd ?_|fail))
  exact kQ _ _ _ ⟨rfl,hv⟩
 ·rintro x rest i ⟨a,k⟩ t h J Q' kJ kQ hx hi ⟨h0,h1,h10,h11,h12,⟨hv,rfl⟩⟩
  have hd:decide ((i:Int)<(s.cons.length:Int))=true:=decide_eq_true (by omega)
  have hw:=Ai hi hl
  try dsimp only at *
  obtain⟨fl,w,gv,own,fuel,lv,ov,wv,av,fv,rv,hB⟩:=hI _ _ _ hv
  have hB1:=Av hB
  have hii:((i:Int)<(s.cons.length:Int))=True:=eq_true (by omega)
  have hv1:=hA _ _ _ false true [[.bool x.firm,.int .i64 x.space,.int .i64 x.lo,.int .i64 x.hi,Ao 3 true x.nn (x.rates.map Bh.cells),.int .i64 x.gas,.int .i64 x.fixed,.int .i64 x.inn,.int .i64 x.out,.int .i64 x.cut,.int .i64 x.lack]] hv
  have hac:=vT x x.firm hr
  cases hact:Hw hr x.lo x.hi with
  |false=>
   rw[hact]at hac
   (have hb:=trivial;with_reducible repeat' (first|simp only[hb,Vc.down,seval,pE.down,h0,h1,h10,h11,h12,hd,hx,hw,hii,hB1,Ag.cells,hac]|refine Af ?_ ?_<;>intro hb|refine fd ?_|fail))
   (refine Ah (kJ _ _ (st i x a,i+1) ⟨?_,?_,?_,?_,?_,⟨hN _ _ _ _ hx hact hv1,rfl⟩⟩ ?_);(simp[up,h0]);(simp[up,h1]);(simp[up,h10]);(simp[up,h11]);(simp[up]);(simp[Kr]))
  |true=>
   rw[hact]at hac
   obtain⟨es,hes,hv2⟩:=hR _ _ _ _ hx hact hv1
   (have hb:=trivial;with_reducible repeat' (first|simp only[hb,Vc.down,seval,pE.down,h0,h1,h10,h11,h12,hd,hx,hw,hii,hB1,Ag.cells,hac,hes]|refine Af ?_ ?_<;>intro hb|refine fd ?_|fail))
   (refine Ah (kJ _ _ (st i x a,i+1) ⟨?_,?_,?_,?_,?_,⟨hv2,rfl⟩⟩ ?_);(simp[up,h0]);(simp[up,h1]);(simp[up,h10]);(simp[up,h11]);(simp[up]);(simp[Kr]))
 ·exact⟨by simp[up,Bw],by simp[up,Bw],by simp[up,Bw],by simp[up,Bw],by simp[up],⟨h0I,rfl⟩⟩
 ·obtain⟨rfl,hv⟩:=hk
  (have hb:=trivial;with_reducible repeat' (first|simp only[hb,Vc.down,seval,pE.down]|refine Af ?_ ?_<;>intro hb|refine fd ?_|fail))
  exact hv
def Ox(c:Ag):Bh:=(c.rates[0]?).getD ⟨0,0,0⟩
def Wg(c:Ag)(g:Int):Bh:=Ul (cY c g) c.rates (Ox c)
def Xb(l:List Gj)(k:Int):Int:=((l[k.toNat]?).map Gj.amount).getD 0
def mn(a b:Int):Int:=if b<a then b else a
def mx0(x:Int):Int:=if 0>x then 0 else x
def mE(c:Ag)(n g:Int):Int:=IntKind.i64.wrap (mx0 (mn (mn n (Wg c g).inn) (IntKind.i64.wrap (c.space-g)))-mx0 (mn (mn (IntKind.i64.wrap (0-n)) (Wg c g).out) g))
def Dk(s:Ac)(d:Ap)(hr:Int)(G:List Int)(i:Nat)(c:Ag)(a:List Int):List Int:=
 if Hw hr c.lo c.hi=true then
  if Kz s.lead d.noms i hr d.noms (0,-1)<0 then a
  else sI a i (mE c (Xb d.noms (Kz s.lead d.noms i hr d.noms (0,-1))) (gI G i))
 else a
theorem ahO(lead:Int)(l:List Gj)(c h:Int):∀(rest:List Gj) (i:Nat) (o:Int),(o= -1∨0≤o∧o<i)→(Kz lead l c h rest (i,o)= -1∨0≤Kz lead l c h rest (i,o)∧Kz lead l c h rest (i,o)<i+rest.length)
 | [],i,o,ho=>by simpa [Kz]using ho
 |n::rest,i,o,ho=>by
  have:=ahO lead l c h rest (i+1) (Zv lead l c h n i o) (by unfold Zv;split<;>omega)
  simp only[Kz,ab9]at this ⊢
  omega
theorem nV{lead:Int}{l:List Gj}{c h:Int}(hn:¬Kz lead l c h l (0,-1)<0):0≤Kz lead l c h l (0,-1)∧∃n,l[(Kz lead l c h l (0,-1)).toNat]?=some n:=by
 have:=ahO lead l c h l 0 (-1) (.inl rfl)
 have h0:0≤Kz lead l c h l (0,-1):=by omega
 exact⟨h0,_,abB (by omega)⟩
def yA(c:Ag):Prop:=c.space≠0∧c.rates≠[]∧c.rates.length≤maxLen
theorem ajA{s:Ac}{d:Ap}{w w1 w2 w3 w5:Bool}{hr own fuel:Int}{G L R:List Int}{O:List Aa}(hG:G.length=s.cons.length)(hl:s.cons.length≤1000)(hn:d.noms.length≤1000)(hc:∀c∈s.cons,yA c):
 Ql Bi 106 [.ptr 0 0 0] [.live 19 false w [(rc s d hr (.slr 1 1 0 G.length) own fuel (.slr 1 2 0 L.length) .nils .nils .nils .nils .nils)],.live 1 true w1 (G.map iv),.live 1 true w2 (L.map iv)]
  fun o h'=>o=.ret (.tup [])∧∃ww,h'=[.live 19 false true [(rc s d hr (.slr 1 1 0 G.length) own fuel (.slr 1 2 0 L.length) .nils (.slr 1 3 0 s.cons.length) .nils .nils .nils)],.live 1 true w1 (G.map iv),.live 1 true w2 (L.map iv),.live 1 true ww ((Kr (Dk s d hr G) s.cons 0 (aaW s.cons.length 0)).map iv)]:=by
 have hl':s.cons.length≤maxLen:=by unfold maxLen;omega
 have h40:((s.cons.length:Int)≤1099511627776)=True:=eq_true (by omega)
 refine Je rfl Tryz.func106 rfl rfl ?_
 simp only[Tryz.f106]
 (have hb:=trivial;with_reducible repeat' (first|simp only[hb,Vc.down,seval,Nv.down,aaS,h40,abT,aeH]|refine Af ?_ ?_<;>intro hb|refine fd ?_|fail))
 generalize hL:CB.lp _ _ _ _ _=LP
 refine aQ (Sm (s:=s) (d:=d) (hr:=hr) (y:=.yl 5) (Dk s d hr G) (fun i a h=>(∃ww g,h=.live 19 false false [(rc s d hr (.slr 1 1 0 G.length) own fuel (.slr 1 2 0 L.length) .nils (.slr 1 4 0 s.cons.length) .nils .nils .nils)]::.live 1 true false (G.map iv)::.live 1 true false (L.map iv)::   .live 1 false false [[.ptr 0 0 0]]::.live 1 true ww (a.map iv)::LP::g∧Bv g=true∧a.length=s.cons.length∧(ww=false→a=aaW s.cons.length 0))) hl' ?_ ?_ ?_ ?_ (aaW s.cons.length 0) ?_) ?_
 ·rintro i a h ⟨ww,g,rfl,_,_,_⟩
  exact⟨_,_,_,_,_,_,_,_,_,_,_,rfl⟩
 ·rintro i a h fl w rows ⟨ww,g,rfl,hqg,hal,hwr⟩
  exact⟨ww,g++[.live 11 fl w rows],rfl,by rw[Ep,hqg];rfl,hal,hwr⟩
 ·rintro i c a h hx hact ⟨ww,g,rfl,hqg,hal,hwr⟩
  obtain⟨hz,hr0,hrl⟩:=hc c (aeM hx)
  have hil:i<s.cons.length:=(abY.1 hx).1
  have hct:=fB s d.noms d.nn i hr (by unfold maxLen;omega)
  have hii:((i:Int)<(s.cons.length:Int))=True:=eq_true (by omega)
  have hiG:((i:Int)<(G.length:Int))=True:=eq_true (by omega)
  have aG:G[i]?=some (gI G i):=by have:=Ff (l:=G) (i:=(i:Int)) (by simp;omega);simpa using this
  have aA:a[i]?=some (gI a i):=by have:=Ff (l:=a) (i:=(i:Int)) (by simp;omega);simpa using this
  have aW:∀v,(a.map iv).set i [.int .i64 v]=(sI a i v).map iv:=fun v=>by have:=Dt a (i:Int) v;simpa using this
  have hrt:=fun g=>qX c g (Ox c) (by unfold Ox;rw[abB (aeP.2 hr0)];rfl) hrl hz
  have hroom:∀(tl:Ab),Bi.call (.sh 130) [.ptr 0 0 0,.int .i64 i] (.live 19 false false [(rc s d hr (.slr 1 1 0 G.length) own fuel (.slr 1 2 0 L.length) .nils (.slr 1 4 0 s.cons.length) .nils .nils .nils)]::.live 1 true false (G.map iv)::tl)=some (.ret (.int .i64 (IntKind.i64.wrap (c.space-gI G i))),.live 19 false false [(rc s d hr (.slr 1 1 0 G.length) own fuel (.slr 1 2 0 L.length) .nils (.slr 1 4 0 s.cons.length) .nils .nils .nils)]::.live 1 true false (G.map iv)::tl):=fun tl=>
   dG (b:=0) (bg:=1) (n:=G.length) rfl rfl rfl ⟨by omega,by omega⟩ (by simpa using hx)
  have round:∀g0:Ab,Bv g0=true→RnQ Bi ([.int .i64 i,.agg [.bool c.firm,.int .i64 c.space,.int .i64 c.lo,.int .i64 c.hi,Ao 3 true c.nn (c.rates.map Bh.cells),.int .i64 c.gas,.int .i64 c.fixed,.int .i64 c.inn,.int .i64 c.out,.int .i64 c.cut,.int .i64 c.lack]]++[.yl 5]) (.live 19 false false [(rc s d hr (.slr 1 1 0 G.length) own fuel (.slr 1 2 0 L.length) .nils (.slr 1 4 0 s.cons.length) .nils .nils .nils)]::.live 1 true false (G.map iv)::.live 1 true false (L.map iv)::   .live 1 false false [[.ptr 0 0 0]]::.live 1 true false (a.map iv)::LP::g0)
   fun o h'=>o=.ret (.bool true)∧∃ww g',h'=.live 19 false false [(rc s d hr (.slr 1 1 0 G.length) own fuel (.slr 1 2 0 L.length) .nils (.slr 1 4 0 s.cons.length) .nils .nils .nils)]::.live 1 true false (G.map iv)::.live 1 true false (L.map iv)::   .live 1 false false [[.ptr 0 0 0]]::.live 1 true ww ((Dk s d hr G i c a).map iv)::LP::(g0++g')∧Bv g'=true∧(ww=false→Dk s d hr G i c a=a):=by
   subst hL
   intro g0 hq0
   have hse:=fun i l l'=>aH hq0 i l l'
   refine wH rfl rfl ?_
   cases hk:decide (Kz s.lead d.noms i hr d.noms (0,-1)<0)with
   |true=>
    (have hb:=trivial;with_reducible repeat' (first|simp only[hb,Vc.down,seval,Nv.down,hct,hk,hx,Ag.cells]|refine Af ?_ ?_<;>intro hb|refine fd ?_|fail))
    have hwa:Dk s d hr G i c a=a:=by simp[Dk,hact,of_decide_eq_true hk]
    exact⟨_,_,rfl,rfl,false,[_],by rw[hwa],rfl,fun _=>hwa⟩
   |false=>
    have hkn:=of_decide_eq_false hk
    obtain⟨hk0,nk,hnk⟩:=nV hkn
    have hk0':(0≤Kz s.lead d.noms i hr d.noms (0,-1))=True:=eq_true hk0
    (have hb:=trivial;with_reducible repeat' (first|simp only[hb,Vc.down,seval,Nv.down,hct,hk,hx,Ag.cells,Gj.cells,Bh.cells,hk0',hnk,hrt,hroom,hii,hiG,aG,aA,aW,hse,iv,aaS]|refine Af ?_ ?_<;>intro hb|((refine Dh (g0.length) 6 ?_ ?_);(simp (discharger:=decide) only[Dc,Bq,aeW,aeZ,Bf,Db,Dj,Df,Di,Bd,Bo,Br,ab9,ae6];kernel_rfl);intro _)|refine Wz ?_|fail))
    exact⟨_,_,rfl,rfl,true,[_,_],by rw[show Dk s d hr G i c a=sI a i (mE c nk.amount (gI G i)) by simp[Dk,hact,hkn,Xb,hnk]];rfl,rfl,fun h=>by cases h⟩
  obtain⟨o,h',e,rfl,ww',g',rfl,hq',hwa⟩:=round (fG g) (Pg hqg)
  have hst:=fun i l=>Iq hqg i l
  have hLc:LP.clean=LP:=by rw[←hL];rfl
  have hLq:LP.quiet LP=true:=by rw[←hL];rfl
  simp only[aa0,aa6]at e
  have hal':(Dk s d hr G i c a).length=s.cons.length:=by unfold Dk;split<;>(try split)<;>simp[Bg,hal]
  have hgg:Bv (g++g')=true:=by rw[Ep,hqg,hq'];rfl
  cases ww' with
  |false=>
   refine⟨_,by simp only[Vc.down,seval,hLc,e,hLq,hst];exact rfl,ww,g++g',?_,hgg,hal',fun h=>by rw[hwa rfl];exact hwr h⟩
   rw[hwa rfl,Cc]
   rfl
  |true=>
   refine⟨_,by simp only[Vc.down,seval,hLc,e,hLq,hst];exact rfl,true,g++g',?_,hgg,hal',fun h=>by cases h⟩
   simp only[Ba,Cc,Du,ae7,ae8]
   rfl
 ·rintro i c a h hx hact ⟨ww,g,rfl,hqg,hal,hwr⟩
  exact⟨ww,g,by simp[Dk,hact],hqg,by simpa [Dk,hact]using hal,by simpa [Dk,hact]using hwr⟩
 ·exact⟨false,[],by simp[iv],rfl,by simp,fun _=>rfl⟩
 ·rintro o h' ⟨rfl,ww,g,rfl,hqg,hal,hwr⟩
  have hst:=fun i l=>Iq hqg i l
  subst hL
  have hrep:aaW s.cons.length [AV.int .i64 0]=(aaW s.cons.length 0).map iv:=by simp[iv]
  cases ww with
  |false=>
   rw[hwr rfl]
   (have hb:=trivial;with_reducible repeat' (first|simp only[hb,Vc.down,seval,Nv.down,hst,Cc,aa0,hrep]|refine Af ?_ ?_<;>intro hb|refine fd ?_|fail))
   exact⟨_,rfl⟩
  |true=>
   (have hb:=trivial;with_reducible repeat' (first|simp only[hb,Vc.down,seval,Nv.down,hst,Cc,aa0]|refine Af ?_ ?_<;>intro hb|refine fd ?_|fail))
   exact⟨_,rfl⟩
theorem ahW{s:Ac}{d:Ap}{w w1 w2 w3 w5:Bool}{hr own fuel:Int}{G L R:List Int}{O:List Aa}(hG:G.length=s.cons.length)(hl:s.cons.length≤1000)(hn:d.noms.length≤1000)(hc:∀c∈s.cons,yA c):
 Ql Bi 106 [.ptr 0 0 0] [.live 19 false w [(rc s d hr (.slr 1 1 0 G.length) own fuel (.slr 1 2 0 L.length) (.slr 5 3 0 O.length) .nils .nils .nils .nils)],.live 1 true w1 (G.map iv),.live 1 true w2 (L.map iv),.live 5 true w3 (O.map Aa.cells)]
  fun o h'=>o=.ret (.tup [])∧∃ww,h'=[.live 19 false true [(rc s d hr (.slr 1 1 0 G.length) own fuel (.slr 1 2 0 L.length) (.slr 5 3 0 O.length) (.slr 1 4 0 s.cons.length) .nils .nils .nils)],.live 1 true w1 (G.map iv),.live 1 true w2 (L.map iv),.live 5 true w3 (O.map Aa.cells),.live 1 true ww ((Kr (Dk s d hr G) s.cons 0 (aaW s.cons.length 0)).map iv)]:=by
 have hl':s.cons.length≤maxLen:=by unfold maxLen;omega
 have h40:((s.cons.length:Int)≤1099511627776)=True:=eq_true (by omega)
 refine Je rfl Tryz.func106 rfl rfl ?_
 simp only[Tryz.f106]
 (have hb:=trivial;with_reducible repeat' (first|simp only[hb,Vc.down,seval,Nv.down,aaS,h40,abT,aeH]|refine Af ?_ ?_<;>intro hb|refine fd ?_|fail))
 generalize hL:CB.lp _ _ _ _ _=LP
 refine aQ (Sm (s:=s) (d:=d) (hr:=hr) (y:=.yl 6) (Dk s d hr G) (fun i a h=>(∃ww g,h=.live 19 false false [(rc s d hr (.slr 1 1 0 G.length) own fuel (.slr 1 2 0 L.length) (.slr 5 3 0 O.length) (.slr 1 5 0 s.cons.length) .nils .nils .nils)]::.live 1 true false (G.map iv)::.live 1 true false (L.map iv)::.live 5 true false (O.map Aa.cells)::  .live 1 false false [[.ptr 0 0 0]]::.live 1 true ww (a.map iv)::LP::g∧Bv g=true∧a.length=s.cons.length∧(ww=false→a=aaW s.cons.length 0))) hl' ?_ ?_ ?_ ?_ (aaW s.cons.length 0) ?_) ?_
 ·rintro i a h ⟨ww,g,rfl,_,_,_⟩
  exact⟨_,_,_,_,_,_,_,_,_,_,_,rfl⟩
 ·rintro i a h fl w rows ⟨ww,g,rfl,hqg,hal,hwr⟩
  exact⟨ww,g++[.live 11 fl w rows],rfl,by rw[Ep,hqg];rfl,hal,hwr⟩
 ·rintro i c a h hx hact ⟨ww,g,rfl,hqg,hal,hwr⟩
  obtain⟨hz,hr0,hrl⟩:=hc c (aeM hx)
  have hil:i<s.cons.length:=(abY.1 hx).1
  have hct:=fB s d.noms d.nn i hr (by unfold maxLen;omega)
  have hii:((i:Int)<(s.cons.length:Int))=True:=eq_true (by omega)
  have hiG:((i:Int)<(G.length:Int))=True:=eq_true (by omega)
  have aG:G[i]?=some (gI G i):=by have:=Ff (l:=G) (i:=(i:Int)) (by simp;omega);simpa using this
  have aA:a[i]?=some (gI a i):=by have:=Ff (l:=a) (i:=(i:Int)) (by simp;omega);simpa using this
  have aW:∀v,(a.map iv).set i [.int .i64 v]=(sI a i v).map iv:=fun v=>by have:=Dt a (i:Int) v;simpa using this
  have hrt:=fun g=>qX c g (Ox c) (by unfold Ox;rw[abB (aeP.2 hr0)];rfl) hrl hz
  have hroom:∀(tl:Ab),Bi.call (.sh 130) [.ptr 0 0 0,.int .i64 i] (.live 19 false false [(rc s d hr (.slr 1 1 0 G.length) own fuel (.slr 1 2 0 L.length) (.slr 5 3 0 O.length) (.slr 1 5 0 s.cons.length) .nils .nils .nils)]::.live 1 true false (G.map iv)::tl)=some (.ret (.int .i64 (IntKind.i64.wrap (c.space-gI G i))),.live 19 false false [(rc s d hr (.slr 1 1 0 G.length) own fuel (.slr 1 2 0 L.length) (.slr 5 3 0 O.length) (.slr 1 5 0 s.cons.length) .nils .nils .nils)]::.live 1 true false (G.map iv)::tl):=fun tl=>
   dG (b:=0) (bg:=1) (n:=G.length) rfl rfl rfl ⟨by omega,by omega⟩ (by simpa using hx)
  have round:∀g0:Ab,Bv g0=true→RnQ Bi ([.int .i64 i,.agg [.bool c.firm,.int .i64 c.space,.int .i64 c.lo,.int .i64 c.hi,Ao 3 true c.nn (c.rates.map Bh.cells),.int .i64 c.gas,.int .i64 c.fixed,.int .i64 c.inn,.int .i64 c.out,.int .i64 c.cut,.int .i64 c.lack]]++[.yl 6]) (.live 19 false false [(rc s d hr (.slr 1 1 0 G.length) own fuel (.slr 1 2 0 L.length) (.slr 5 3 0 O.length) (.slr 1 5 0 s.cons.length) .nils .nils .nils)]::.live 1 true false (G.map iv)::.live 1 true false (L.map iv)::.live 5 true false (O.map Aa.cells)::  .live 1 false false [[.ptr 0 0 0]]::.live 1 true false (a.map iv)::LP::g0)
   fun o h'=>o=.ret (.bool true)∧∃ww g',h'=.live 19 false false [(rc s d hr (.slr 1 1 0 G.length) own fuel (.slr 1 2 0 L.length) (.slr 5 3 0 O.length) (.slr 1 5 0 s.cons.length) .nils .nils .nils)]::.live 1 true false (G.map iv)::.live 1 true false (L.map iv)::.live 5 true false (O.map Aa.cells)::  .live 1 false false [[.ptr 0 0 0]]::.live 1 true ww ((Dk s d hr G i c a).map iv)::LP::(g0++g')∧Bv g'=true∧(ww=false→Dk s d hr G i c a=a):=by
   subst hL
   intro g0 hq0
   have hse:=fun i l l'=>aH hq0 i l l'
   refine wH rfl rfl ?_
   cases hk:decide (Kz s.lead d.noms i hr d.noms (0,-1)<0)with
   |true=>
    (have hb:=trivial;with_reducible repeat' (first|simp only[hb,Vc.down,seval,Nv.down,hct,hk,hx,Ag.cells]|refine Af ?_ ?_<;>intro hb|refine fd ?_|fail))
    have hwa:Dk s d hr G i c a=a:=by simp[Dk,hact,of_decide_eq_true hk]
    exact⟨_,_,rfl,rfl,false,[_],by rw[hwa],rfl,fun _=>hwa⟩
   |false=>
    have hkn:=of_decide_eq_false hk
    obtain⟨hk0,nk,hnk⟩:=nV hkn
    have hk0':(0≤Kz s.lead d.noms i hr d.noms (0,-1))=True:=eq_true hk0
    (have hb:=trivial;with_reducible repeat' (first|simp only[hb,Vc.down,seval,Nv.down,hct,hk,hx,Ag.cells,Gj.cells,Bh.cells,hk0',hnk,hrt,hroom,hii,hiG,aG,aA,aW,hse,iv,aaS]|refine Af ?_ ?_<;>intro hb|((refine Dh (g0.length) 6 ?_ ?_);(simp (discharger:=decide) only[Dc,Bq,aeW,aeZ,Bf,Db,Dj,Df,Di,Bd,Bo,Br,ab9,ae6];kernel_rfl);intro _)|refine Wz ?_|fail))
    exact⟨_,_,rfl,rfl,true,[_,_],by rw[show Dk s d hr G i c a=sI a i (mE c nk.amount (gI G i)) by simp[Dk,hact,hkn,Xb,hnk]];rfl,rfl,fun h=>by cases h⟩
  obtain⟨o,h',e,rfl,ww',g',rfl,hq',hwa⟩:=round (fG g) (Pg hqg)
  have hst:=fun i l=>Iq hqg i l
  have hLc:LP.clean=LP:=by rw[←hL];rfl
  have hLq:LP.quiet LP=true:=by rw[←hL];rfl
  simp only[aa0,aa6]at e
  have hal':(Dk s d hr G i c a).length=s.cons.length:=by unfold Dk;split<;>(try split)<;>simp[Bg,hal]
  have hgg:Bv (g++g')=true:=by rw[Ep,hqg,hq'];rfl
  cases ww' with
  |false=>
   refine⟨_,by simp only[Vc.down,seval,hLc,e,hLq,hst];exact rfl,ww,g++g',?_,hgg,hal',fun h=>by rw[hwa rfl];exact hwr h⟩
   rw[hwa rfl,Cc]
   rfl
  |true=>
   refine⟨_,by simp only[Vc.down,seval,hLc,e,hLq,hst];exact rfl,true,g++g',?_,hgg,hal',fun h=>by cases h⟩
   simp only[Ba,Cc,Du,ae7,ae8]
   rfl
 ·rintro i c a h hx hact ⟨ww,g,rfl,hqg,hal,hwr⟩
  exact⟨ww,g,by simp[Dk,hact],hqg,by simpa [Dk,hact]using hal,by simpa [Dk,hact]using hwr⟩
 ·exact⟨false,[],by simp[iv],rfl,by simp,fun _=>rfl⟩
 ·rintro o h' ⟨rfl,ww,g,rfl,hqg,hal,hwr⟩
  have hst:=fun i l=>Iq hqg i l
  subst hL
  have hrep:aaW s.cons.length [AV.int .i64 0]=(aaW s.cons.length 0).map iv:=by simp[iv]
  cases ww with
  |false=>
   rw[hwr rfl]
   (have hb:=trivial;with_reducible repeat' (first|simp only[hb,Vc.down,seval,Nv.down,hst,Cc,aa0,hrep]|refine Af ?_ ?_<;>intro hb|refine fd ?_|fail))
   exact⟨_,rfl⟩
  |true=>
   (have hb:=trivial;with_reducible repeat' (first|simp only[hb,Vc.down,seval,Nv.down,hst,Cc,aa0]|refine Af ?_ ?_<;>intro hb|refine fd ?_|fail))
   exact⟨_,rfl⟩
theorem afG{s:Ac}{d:Ap}{w w1 w2 w3 w5:Bool}{hr own fuel:Int}{G L R:List Int}{O:List Aa}(hG:G.length=s.cons.length)(hl:s.cons.length≤1000)(hn:d.noms.length≤1000)(hc:∀c∈s.cons,yA c):
 Ql Bi 106 [.ptr 0 0 0] [.live 19 false w [(rc s d hr (.slr 1 1 0 G.length) own fuel (.slr 1 2 0 L.length) .nils .nils .nils .nils (.slr 1 3 0 R.length))],.live 1 true w1 (G.map iv),.live 1 true w2 (L.map iv),.live 1 true w5 (R.map iv)]
  fun o h'=>o=.ret (.tup [])∧∃ww,h'=[.live 19 false true [(rc s d hr (.slr 1 1 0 G.length) own fuel (.slr 1 2 0 L.length) .nils (.slr 1 4 0 s.cons.length) .nils .nils (.slr 1 3 0 R.length))],.live 1 true w1 (G.map iv),.live 1 true w2 (L.map iv),.live 1 true w5 (R.map iv),.live 1 true ww ((Kr (Dk s d hr G) s.cons 0 (aaW s.cons.length 0)).map iv)]:=by
 have hl':s.cons.length≤maxLen:=by unfold maxLen;omega
 have h40:((s.cons.length:Int)≤1099511627776)=True:=eq_true (by omega)
 refine Je rfl Tryz.func106 rfl rfl ?_
 simp only[Tryz.f106]
 (have hb:=trivial;with_reducible repeat' (first|simp only[hb,Vc.down,seval,Nv.down,aaS,h40,abT,aeH]|refine Af ?_ ?_<;>intro hb|refine fd ?_|fail))
 generalize hL:CB.lp _ _ _ _ _=LP
 refine aQ (Sm (s:=s) (d:=d) (hr:=hr) (y:=.yl 6) (Dk s d hr G) (fun i a h=>(∃ww g,h=.live 19 false false [(rc s d hr (.slr 1 1 0 G.length) own fuel (.slr 1 2 0 L.length) .nils (.slr 1 5 0 s.cons.length) .nils .nils (.slr 1 3 0 R.length))]::.live 1 true false (G.map iv)::.live 1 true false (L.map iv)::  .live 1 true false (R.map iv)::.live 1 false false [[.ptr 0 0 0]]::.live 1 true ww (a.map iv)::LP::g∧Bv g=true∧a.length=s.cons.length∧(ww=false→a=aaW s.cons.length 0))) hl' ?_ ?_ ?_ ?_ (aaW s.cons.length 0) ?_) ?_
 ·rintro i a h ⟨ww,g,rfl,_,_,_⟩
  exact⟨_,_,_,_,_,_,_,_,_,_,_,rfl⟩
 ·rintro i a h fl w rows ⟨ww,g,rfl,hqg,hal,hwr⟩
  exact⟨ww,g++[.live 11 fl w rows],rfl,by rw[Ep,hqg];rfl,hal,hwr⟩
 ·rintro i c a h hx hact ⟨ww,g,rfl,hqg,hal,hwr⟩
  obtain⟨hz,hr0,hrl⟩:=hc c (aeM hx)
  have hil:i<s.cons.length:=(abY.1 hx).1
  have hct:=fB s d.noms d.nn i hr (by unfold maxLen;omega)
  have hii:((i:Int)<(s.cons.length:Int))=True:=eq_true (by omega)
  have hiG:((i:Int)<(G.length:Int))=True:=eq_true (by omega)
  have aG:G[i]?=some (gI G i):=by have:=Ff (l:=G) (i:=(i:Int)) (by simp;omega);simpa using this
  have aA:a[i]?=some (gI a i):=by have:=Ff (l:=a) (i:=(i:Int)) (by simp;omega);simpa using this
  have aW:∀v,(a.map iv).set i [.int .i64 v]=(sI a i v).map iv:=fun v=>by have:=Dt a (i:Int) v;simpa using this
  have hrt:=fun g=>qX c g (Ox c) (by unfold Ox;rw[abB (aeP.2 hr0)];rfl) hrl hz
  have hroom:∀(tl:Ab),Bi.call (.sh 130) [.ptr 0 0 0,.int .i64 i] (.live 19 false false [(rc s d hr (.slr 1 1 0 G.length) own fuel (.slr 1 2 0 L.length) .nils (.slr 1 5 0 s.cons.length) .nils .nils (.slr 1 3 0 R.length))]::.live 1 true false (G.map iv)::tl)=some (.ret (.int .i64 (IntKind.i64.wrap (c.space-gI G i))),.live 19 false false [(rc s d hr (.slr 1 1 0 G.length) own fuel (.slr 1 2 0 L.length) .nils (.slr 1 5 0 s.cons.length) .nils .nils (.slr 1 3 0 R.length))]::.live 1 true false (G.map iv)::tl):=fun tl=>
   dG (b:=0) (bg:=1) (n:=G.length) rfl rfl rfl ⟨by omega,by omega⟩ (by simpa using hx)
  have round:∀g0:Ab,Bv g0=true→RnQ Bi ([.int .i64 i,.agg [.bool c.firm,.int .i64 c.space,.int .i64 c.lo,.int .i64 c.hi,Ao 3 true c.nn (c.rates.map Bh.cells),.int .i64 c.gas,.int .i64 c.fixed,.int .i64 c.inn,.int .i64 c.out,.int .i64 c.cut,.int .i64 c.lack]]++[.yl 6]) (.live 19 false false [(rc s d hr (.slr 1 1 0 G.length) own fuel (.slr 1 2 0 L.length) .nils (.slr 1 5 0 s.cons.length) .nils .nils (.slr 1 3 0 R.length))]::.live 1 true false (G.map iv)::.live 1 true false (L.map iv)::  .live 1 true false (R.map iv)::.live 1 false false [[.ptr 0 0 0]]::.live 1 true false (a.map iv)::LP::g0)
   fun o h'=>o=.ret (.bool true)∧∃ww g',h'=.live 19 false false [(rc s d hr (.slr 1 1 0 G.length) own fuel (.slr 1 2 0 L.length) .nils (.slr 1 5 0 s.cons.length) .nils .nils (.slr 1 3 0 R.length))]::.live 1 true false (G.map iv)::.live 1 true false (L.map iv)::  .live 1 true false (R.map iv)::.live 1 false false [[.ptr 0 0 0]]::.live 1 true ww ((Dk s d hr G i c a).map iv)::LP::(g0++g')∧Bv g'=true∧(ww=false→Dk s d hr G i c a=a):=by
   subst hL
   intro g0 hq0
   have hse:=fun i l l'=>aH hq0 i l l'
   refine wH rfl rfl ?_
   cases hk:decide (Kz s.lead d.noms i hr d.noms (0,-1)<0)with
   |true=>
    (have hb:=trivial;with_reducible repeat' (first|simp only[hb,Vc.down,seval,Nv.down,hct,hk,hx,Ag.cells]|refine Af ?_ ?_<;>intro hb|refine fd ?_|fail))
    have hwa:Dk s d hr G i c a=a:=by simp[Dk,hact,of_decide_eq_true hk]
    exact⟨_,_,rfl,rfl,false,[_],by rw[hwa],rfl,fun _=>hwa⟩
   |false=>
    have hkn:=of_decide_eq_false hk
    obtain⟨hk0,nk,hnk⟩:=nV hkn
    have hk0':(0≤Kz s.lead d.noms i hr d.noms (0,-1))=True:=eq_true hk0
    (have hb:=trivial;with_reducible repeat' (first|simp only[hb,Vc.down,seval,Nv.down,hct,hk,hx,Ag.cells,Gj.cells,Bh.cells,hk0',hnk,hrt,hroom,hii,hiG,aG,aA,aW,hse,iv,aaS]|refine Af ?_ ?_<;>intro hb|((refine Dh (g0.length) 6 ?_ ?_);(simp (discharger:=decide) only[Dc,Bq,aeW,aeZ,Bf,Db,Dj,Df,Di,Bd,Bo,Br,ab9,ae6];kernel_rfl);intro _)|refine Wz ?_|fail))
    exact⟨_,_,rfl,rfl,true,[_,_],by rw[show Dk s d hr G i c a=sI a i (mE c nk.amount (gI G i)) by simp[Dk,hact,hkn,Xb,hnk]];rfl,rfl,fun h=>by cases h⟩
  obtain⟨o,h',e,rfl,ww',g',rfl,hq',hwa⟩:=round (fG g) (Pg hqg)
  have hst:=fun i l=>Iq hqg i l
  have hLc:LP.clean=LP:=by rw[←hL];rfl
  have hLq:LP.quiet LP=true:=by rw[←hL];rfl
  simp only[aa0,aa6]at e
  have hal':(Dk s d hr G i c a).length=s.cons.length:=by unfold Dk;split<;>(try split)<;>simp[Bg,hal]
  have hgg:Bv (g++g')=true:=by rw[Ep,hqg,hq'];rfl
  cases ww' with
  |false=>
   refine⟨_,by simp only[Vc.down,seval,hLc,e,hLq,hst];exact rfl,ww,g++g',?_,hgg,hal',fun h=>by rw[hwa rfl];exact hwr h⟩
   rw[hwa rfl,Cc]
   rfl
  |true=>
   refine⟨_,by simp only[Vc.down,seval,hLc,e,hLq,hst];exact rfl,true,g++g',?_,hgg,hal',fun h=>by cases h⟩
   simp only[Ba,Cc,Du,ae7,ae8]
   rfl
 ·rintro i c a h hx hact ⟨ww,g,rfl,hqg,hal,hwr⟩
  exact⟨ww,g,by simp[Dk,hact],hqg,by simpa [Dk,hact]using hal,by simpa [Dk,hact]using hwr⟩
 ·exact⟨false,[],by simp[iv],rfl,by simp,fun _=>rfl⟩
 ·rintro o h' ⟨rfl,ww,g,rfl,hqg,hal,hwr⟩
  have hst:=fun i l=>Iq hqg i l
  subst hL
  have hrep:aaW s.cons.length [AV.int .i64 0]=(aaW s.cons.length 0).map iv:=by simp[iv]
  cases ww with
  |false=>
   rw[hwr rfl]
   (have hb:=trivial;with_reducible repeat' (first|simp only[hb,Vc.down,seval,Nv.down,hst,Cc,aa0,hrep]|refine Af ?_ ?_<;>intro hb|refine fd ?_|fail))
   exact⟨_,rfl⟩
  |true=>
   (have hb:=trivial;with_reducible repeat' (first|simp only[hb,Vc.down,seval,Nv.down,hst,Cc,aa0]|refine Af ?_ ?_<;>intro hb|refine fd ?_|fail))
   exact⟨_,rfl⟩
theorem akH{s:Ac}{d:Ap}{w w1 w2 w3 w5:Bool}{hr own fuel:Int}{G L R:List Int}{O:List Aa}(hG:G.length=s.cons.length)(hl:s.cons.length≤1000)(hn:d.noms.length≤1000)(hc:∀c∈s.cons,yA c):
 Ql Bi 106 [.ptr 0 0 0] [.live 19 false w [(rc s d hr (.slr 1 1 0 G.length) own fuel (.slr 1 2 0 L.length) (.slr 5 3 0 O.length) .nils .nils .nils (.slr 1 4 0 R.length))],.live 1 true w1 (G.map iv),.live 1 true w2 (L.map iv),.live 5 true w3 (O.map Aa.cells),.live 1 true w5 (R.map iv)]
  fun o h'=>o=.ret (.tup [])∧∃ww,h'=[.live 19 false true [(rc s d hr (.slr 1 1 0 G.length) own fuel (.slr 1 2 0 L.length) (.slr 5 3 0 O.length) (.slr 1 5 0 s.cons.length) .nils .nils (.slr 1 4 0 R.length))],.live 1 true w1 (G.map iv),.live 1 true w2 (L.map iv),.live 5 true w3 (O.map Aa.cells),.live 1 true w5 (R.map iv),.live 1 true ww ((Kr (Dk s d hr G) s.cons 0 (aaW s.cons.length 0)).map iv)]:=by
 have hl':s.cons.length≤maxLen:=by unfold maxLen;omega
 have h40:((s.cons.length:Int)≤1099511627776)=True:=eq_true (by omega)
 refine Je rfl Tryz.func106 rfl rfl ?_
 simp only[Tryz.f106]
 (have hb:=trivial;with_reducible repeat' (first|simp only[hb,Vc.down,seval,Nv.down,aaS,h40,abT,aeH]|refine Af ?_ ?_<;>intro hb|refine fd ?_|fail))
 generalize hL:CB.lp _ _ _ _ _=LP
 refine aQ (Sm (s:=s) (d:=d) (hr:=hr) (y:=.yl 7) (Dk s d hr G) (fun i a h=>(∃ww g,h=.live 19 false false [(rc s d hr (.slr 1 1 0 G.length) own fuel (.slr 1 2 0 L.length) (.slr 5 3 0 O.length) (.slr 1 6 0 s.cons.length) .nils .nils (.slr 1 4 0 R.length))]::.live 1 true false (G.map iv)::.live 1 true false (L.map iv)::.live 5 true false (O.map Aa.cells)::.live 1 true false (R.map iv)::.live 1 false false [[.ptr 0 0 0]]::.live 1 true ww (a.map iv)::LP::g∧Bv g=true∧a.length=s.cons.length∧(ww=false→a=aaW s.cons.length 0))) hl' ?_ ?_ ?_ ?_ (aaW s.cons.length 0) ?_) ?_
 ·rintro i a h ⟨ww,g,rfl,_,_,_⟩
  exact⟨_,_,_,_,_,_,_,_,_,_,_,rfl⟩
 ·rintro i a h fl w rows ⟨ww,g,rfl,hqg,hal,hwr⟩
  exact⟨ww,g++[.live 11 fl w rows],rfl,by rw[Ep,hqg];rfl,hal,hwr⟩
 ·rintro i c a h hx hact ⟨ww,g,rfl,hqg,hal,hwr⟩
  obtain⟨hz,hr0,hrl⟩:=hc c (aeM hx)
  have hil:i<s.cons.length:=(abY.1 hx).1
  have hct:=fB s d.noms d.nn i hr (by unfold maxLen;omega)
  have hii:((i:Int)<(s.cons.length:Int))=True:=eq_true (by omega)
  have hiG:((i:Int)<(G.length:Int))=True:=eq_true (by omega)
  have aG:G[i]?=some (gI G i):=by have:=Ff (l:=G) (i:=(i:Int)) (by simp;omega);simpa using this
  have aA:a[i]?=some (gI a i):=by have:=Ff (l:=a) (i:=(i:Int)) (by simp;omega);simpa using this
  have aW:∀v,(a.map iv).set i [.int .i64 v]=(sI a i v).map iv:=fun v=>by have:=Dt a (i:Int) v;simpa using this
  have hrt:=fun g=>qX c g (Ox c) (by unfold Ox;rw[abB (aeP.2 hr0)];rfl) hrl hz
  have hroom:∀(tl:Ab),Bi.call (.sh 130) [.ptr 0 0 0,.int .i64 i] (.live 19 false false [(rc s d hr (.slr 1 1 0 G.length) own fuel (.slr 1 2 0 L.length) (.slr 5 3 0 O.length) (.slr 1 6 0 s.cons.length) .nils .nils (.slr 1 4 0 R.length))]::.live 1 true false (G.map iv)::tl)=some (.ret (.int .i64 (IntKind.i64.wrap (c.space-gI G i))),.live 19 false false [(rc s d hr (.slr 1 1 0 G.length) own fuel (.slr 1 2 0 L.length) (.slr 5 3 0 O.length) (.slr 1 6 0 s.cons.length) .nils .nils (.slr 1 4 0 R.length))]::.live 1 true false (G.map iv)::tl):=fun tl=>
   dG (b:=0) (bg:=1) (n:=G.length) rfl rfl rfl ⟨by omega,by omega⟩ (by simpa using hx)
  have round:∀g0:Ab,Bv g0=true→RnQ Bi ([.int .i64 i,.agg [.bool c.firm,.int .i64 c.space,.int .i64 c.lo,.int .i64 c.hi,Ao 3 true c.nn (c.rates.map Bh.cells),.int .i64 c.gas,.int .i64 c.fixed,.int .i64 c.inn,.int .i64 c.out,.int .i64 c.cut,.int .i64 c.lack]]++[.yl 7]) (.live 19 false false [(rc s d hr (.slr 1 1 0 G.length) own fuel (.slr 1 2 0 L.length) (.slr 5 3 0 O.length) (.slr 1 6 0 s.cons.length) .nils .nils (.slr 1 4 0 R.length))]::.live 1 true false (G.map iv)::.live 1 true false (L.map iv)::.live 5 true false (O.map Aa.cells)::.live 1 true false (R.map iv)::.live 1 false false [[.ptr 0 0 0]]::.live 1 true false (a.map iv)::LP::g0)
   fun o h'=>o=.ret (.bool true)∧∃ww g',h'=.live 19 false false [(rc s d hr (.slr 1 1 0 G.length) own fuel (.slr 1 2 0 L.length) (.slr 5 3 0 O.length) (.slr 1 6 0 s.cons.length) .nils .nils (.slr 1 4 0 R.length))]::.live 1 true false (G.map iv)::.live 1 true false (L.map iv)::.live 5 true false (O.map Aa.cells)::.live 1 true false (R.map iv)::.live 1 false false [[.ptr 0 0 0]]::.live 1 true ww ((Dk s d hr G i c a).map iv)::LP::(g0++g')∧Bv g'=true∧(ww=false→Dk s d hr G i c a=a):=by
   subst hL
   intro g0 hq0
   have hse:=fun i l l'=>aH hq0 i l l'
   refine wH rfl rfl ?_
   cases hk:decide (Kz s.lead d.noms i hr d.noms (0,-1)<0)with
   |true=>
    (have hb:=trivial;with_reducible repeat' (first|simp only[hb,Vc.down,seval,Nv.down,hct,hk,hx,Ag.cells]|refine Af ?_ ?_<;>intro hb|refine fd ?_|fail))
    have hwa:Dk s d hr G i c a=a:=by simp[Dk,hact,of_decide_eq_true hk]
    exact⟨_,_,rfl,rfl,false,[_],by rw[hwa],rfl,fun _=>hwa⟩
   |false=>
    have hkn:=of_decide_eq_false hk
    obtain⟨hk0,nk,hnk⟩:=nV hkn
    have hk0':(0≤Kz s.lead d.noms i hr d.noms (0,-1))=True:=eq_true hk0
    (have hb:=trivial;with_reducible repeat' (first|simp only[hb,Vc.down,seval,Nv.down,hct,hk,hx,Ag.cells,Gj.cells,Bh.cells,hk0',hnk,hrt,hroom,hii,hiG,aG,aA,aW,hse,iv,aaS]|refine Af ?_ ?_<;>intro hb|((refine Dh (g0.length) 6 ?_ ?_);(simp (discharger:=decide) only[Dc,Bq,aeW,aeZ,Bf,Db,Dj,Df,Di,Bd,Bo,Br,ab9,ae6];kernel_rfl);intro _)|refine Wz ?_|fail))
    exact⟨_,_,rfl,rfl,true,[_,_],by rw[show Dk s d hr G i c a=sI a i (mE c nk.amount (gI G i)) by simp[Dk,hact,hkn,Xb,hnk]];rfl,rfl,fun h=>by cases h⟩
  obtain⟨o,h',e,rfl,ww',g',rfl,hq',hwa⟩:=round (fG g) (Pg hqg)
  have hst:=fun i l=>Iq hqg i l
  have hLc:LP.clean=LP:=by rw[←hL];rfl
  have hLq:LP.quiet LP=true:=by rw[←hL];rfl
  simp only[aa0,aa6]at e
  have hal':(Dk s d hr G i c a).length=s.cons.length:=by unfold Dk;split<;>(try split)<;>simp[Bg,hal]
  have hgg:Bv (g++g')=true:=by rw[Ep,hqg,hq'];rfl
  cases ww' with
  |false=>
   refine⟨_,by simp only[Vc.down,seval,hLc,e,hLq,hst];exact rfl,ww,g++g',?_,hgg,hal',fun h=>by rw[hwa rfl];exact hwr h⟩
   rw[hwa rfl,Cc]
   rfl
  |true=>
   refine⟨_,by simp only[Vc.down,seval,hLc,e,hLq,hst];exact rfl,true,g++g',?_,hgg,hal',fun h=>by cases h⟩
   simp only[Ba,Cc,Du,ae7,ae8]
   rfl
 ·rintro i c a h hx hact ⟨ww,g,rfl,hqg,hal,hwr⟩
  exact⟨ww,g,by simp[Dk,hact],hqg,by simpa [Dk,hact]using hal,by simpa [Dk,hact]using hwr⟩
 ·exact⟨false,[],by simp[iv],rfl,by simp,fun _=>rfl⟩
 ·rintro o h' ⟨rfl,ww,g,rfl,hqg,hal,hwr⟩
  have hst:=fun i l=>Iq hqg i l
  subst hL
  have hrep:aaW s.cons.length [AV.int .i64 0]=(aaW s.cons.length 0).map iv:=by simp[iv]
  cases ww with
  |false=>
   rw[hwr rfl]
   (have hb:=trivial;with_reducible repeat' (first|simp only[hb,Vc.down,seval,Nv.down,hst,Cc,aa0,hrep]|refine Af ?_ ?_<;>intro hb|refine fd ?_|fail))
   exact⟨_,rfl⟩
  |true=>
   (have hb:=trivial;with_reducible repeat' (first|simp only[hb,Vc.down,seval,Nv.down,hst,Cc,aa0]|refine Af ?_ ?_<;>intro hb|refine fd ?_|fail))
   exact⟨_,rfl⟩
end Go.Proofs.YtdbiogihimdpcaaGreatDoor
