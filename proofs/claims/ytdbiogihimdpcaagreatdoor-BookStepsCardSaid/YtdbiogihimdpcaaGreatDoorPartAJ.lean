/- The functions of the layer, walked. -/
import Derived.Test.YtdbiogihimdpcaaGreatDoorPartAI
import Derived.Test.YtdbiogihimdpcaaGreatDoorPartAH
set_option linter.unusedSimpArgs false
set_option linter.unusedVariables false
/- Layer 6: the specification's hour, walked. -/
namespace Go.Proofs.YtdbiogihimdpcaaGreatDoor
open Go.Ev Go
set_option maxRecDepth 100000
set_option maxHeartbeats 16000000
theorem r_Step{s:BStore}{d:BDay}{hr own fuel:Int}{z:BHour}{nG nL nO v1 v2 u1 u2 u3 u4:Bool}{G L G1 L1 G2 W A R:List Int}{O O1 O2:List BTrade}{n0 j1 y:Nat}{o1v o1i ov ovp o2i rv rvp:AV}{ob1 ob2 rb:Heap}(hlen:s.cons.length≤1000)(hne:s.cons≠[])(h0:0≤hr)(hz:d.hours[hr.toNat]?=some z)
 (e1:om'.call (.fn 75) [.agg s.cells,.agg [.int .i64 hr,slv 1 true nG (G.map iv),.int .i64 own,.int .i64 fuel,slv 1 true nL (L.map iv),slv 5 true nO (O.map BTrade.cells)]] []=some (.ret (.agg [.int .i64 hr,.slr 1 0 0 s.cons.length,.int .i64 own,.int .i64 fuel,.slr 1 1 0 s.cons.length,o1v]),.live 1 true v1 (G1.map iv)::.live 1 true v2 (L1.map iv)::ob1))
 (e2:om'.call (.fn 74) [.agg s.cells,.agg [.int .i64 hr,.imm 1 true (G1.map iv),.int .i64 own,.int .i64 fuel,.imm 1 true (L1.map iv),o1i],.agg d.cells] []=some (.ret (.tup [.agg [.int .i64 hr,.slr 1 0 0 s.cons.length,.int .i64 own,.int .i64 fuel,.slr 1 1 0 s.cons.length,ovp],rvp]),.live 1 true u1 (G2.map iv)::.live 1 true u2 (L1.map iv)::(ob2++rb)))
 (e3:om'.call (.fn 76) [.agg s.cells,.agg [.int .i64 hr,.imm 1 true (G2.map iv),.int .i64 own,.int .i64 fuel,.imm 1 true (L1.map iv),o2i],.agg d.cells] []=some (.ret (.slr 1 0 0 s.cons.length),[.live 1 true false (W.map iv)]))
 (e4:om'.call (.fn 21) [.agg s.cells,.imm 1 true (W.map iv),.int .i64 z.inn,.int .i64 z.out] []=some (.ret (.slr 1 0 0 s.cons.length),[.live 1 true false (A.map iv)]))
 (hv1:(n0=7∧o1v=.nils∧o1i=.nils∧ob1=[])∨(n0=8∧o1v=.slr 5 2 0 O1.length∧o1i=.imm 5 true (O1.map BTrade.cells)∧ob1=[.live 5 true false (O1.map BTrade.cells)]))
 (hv2:(O2=[]∧ov=.nils∧ovp=.nils∧o2i=.nils∧ob2=[]∧j1=2)∨(ov=.slr 5 (n0+2) 0 O2.length∧ovp=.slr 5 2 0 O2.length∧o2i=.imm 5 true (O2.map BTrade.cells)∧ob2=[.live 5 true u3 (O2.map BTrade.cells)]∧j1=3))
 (hv3:(R=[]∧rv=.nils∧rvp=.nils∧rb=[]∧y=n0+j1)∨(R≠[]∧rv=.slr 1 (n0+j1) 0 R.length∧rvp=.slr 1 j1 0 R.length∧rb=[.live 1 true u4 (R.map iv)]∧y=n0+(j1+1)))
 (hG1:G1.length=s.cons.length) (hG2:G2.length=s.cons.length) (hL1:L1.length=s.cons.length) (hW:W.length=s.cons.length) (hA:A.length=s.cons.length):
 ClQ om' 42 [.agg s.cells,.agg [.int .i64 hr,slv 1 true nG (G.map iv),.int .i64 own,.int .i64 fuel,slv 1 true nL (L.map iv),slv 5 true nO (O.map BTrade.cells)],.agg d.cells] []
  (StepQ s.cons.length (IntKind.i64.wrap (hr+1)) (ROwn z A own) (endF s hr W A (RF z A) 0 (G2,fuel,L1)).2.1 (endF s hr W A (RF z A) 0 (G2,fuel,L1)).1 (endF s hr W A (RF z A) 0 (G2,fuel,L1)).2.2 O2 R W A (RF z A)):=by
 have hAn:A≠[]:=fun e=>hne (List.length_eq_zero_iff.1 (by rw[←hA,e];rfl))
 have g3:=r_In1 (l:=A) true (by omega) hAn
 have g4:=r_Out1 (l:=A) true (by omega) hAn
 have g5:=r_Sum (l:=A.map posI) (nn:=true) (by simp[maxLen];omega)
 have g6:=r_Sum (l:=A.map negI) (nn:=true) (by simp[maxLen];omega)
 have g7:=r_Share' (mn z.flowIn (sumF (A.map posI) 0)) (A.map posI) true (by simp;omega) _ _ (fun e=>absurd e (map_ne hAn)) (fun _=>rfl)
 have g8:=r_Share' (mn z.flowOut (sumF (A.map negI) 0)) (A.map negI) true (by simp;omega) _ _ (fun e=>absurd e (map_ne hAn)) (fun _=>rfl)
 have k2:(shareL (mn z.flowIn (sumF (A.map posI) 0)) (A.map posI)).length=s.cons.length:=by unfold shareL;rw[shareF_len];simp[hA]
 have k3:(shareL (mn z.flowOut (sumF (A.map negI) 0)) (A.map negI)).length=s.cons.length:=by unfold shareL;rw[shareF_len];simp[hA]
 have k1:shareL (mn z.flowIn (sumF (A.map posI) 0)) (A.map posI)≠[]:=fun e=>hne (List.length_eq_zero_iff.1 (by rw[←k2,e];rfl))
 have g9:=r_both' (shareL (mn z.flowIn (sumF (A.map posI) 0)) (A.map posI)) (shareL (mn z.flowOut (sumF (A.map negI) 0)) (A.map negI)) true true (by omega) (by omega) _ _ (fun e=>(k1 e).elim) (fun _=>rfl)
 have hF:(RF z A).length=s.cons.length:=by simp[RF,k2,k3]
 rw[slv_true,hA]at g3 g4
 rw[slv_true]at g5 g6
 rw[slv_true,List.length_map,hA]at g7 g8
 rw[slv_true,slv_true,k2]at g9
 have htk:∀l:List Int,l.length=s.cons.length→(l.map iv).take s.cons.length=l.map iv:=fun l h=>List.take_of_length_le (by simp[h])
 have t1:=htk G1 hG1
 have t2:=htk L1 hL1
 have t3:=htk G2 hG2
 have t4:=htk W hW
 have t5:=htk A hA
 have t6:=htk (A.map posI) (by simp[hA])
 have t7:=htk (A.map negI) (by simp[hA])
 have t8:=htk _ k2
 have t9:=htk _ k3
 have t10:(O1.map BTrade.cells).take O1.length=O1.map BTrade.cells:=List.take_of_length_le (by simp)
 have t11:(O2.map BTrade.cells).take O2.length=O2.map BTrade.cells:=List.take_of_length_le (by simp)
 unfold shareL at g9 k2 k3 t8 t9
 have m1:∀a b:Int,(if b<a then b else a)=mn a b:=fun _ _=>rfl
 have h0':(0≤hr)=True:=eq_true h0
 rcases hv1 with⟨hn0,ho1v,ho1i,hob1⟩|⟨hn0,ho1v,ho1i,hob1⟩<;>rcases hv2 with⟨hO2,hov,hovp,ho2i,hob2,hj1⟩|⟨hov,hovp,ho2i,hob2,hj1⟩<;>rcases hv3 with⟨hR,hrv,hrvp,hrb,hy⟩|⟨hR,hrv,hrvp,hrb,hy⟩
 all_goals
  simp only[hn0,hj1,hy,ho1v,ho1i,hob1,hov,hovp,ho2i,hob2,hrv,hrvp,hrb,List.cons_append,List.nil_append,List.append_nil]at e1 e2 e3
  refine stOf rfl Tryz.func42 rfl rfl ?_
  simp only[Tryz.f42]
  (have hb:=trivial;with_reducible repeat' (first|simp only[hb,Vc.down,seval,TY42.down,BDay.cells,BHour.cells,e1,e2,e3,e4,g3,g4,g5,g6,g7,g8,g9,h0',hz,List.length_map,hn0,hj1,hy,ho1v,ho1i,hob1,hov,hovp,ho2i,hob2,hrv,hrvp,hrb,List.cons_append,List.nil_append,List.append_nil,m1,hA,hW,hG1,hG2,hL1,k2,k3,hF,t1,t2,t3,t4,t5,t6,t7,t8,t9,t10,t11]|refine fsp ?_ ?_<;>intro hb|refine fdl ?_|fail))
  refine fw_ot (lst 204 (RF z A) (fun i (zz:List Int × Int × List Int × Nat) t h=>t 3=.ptr 0 0 0∧t 4=.ptr 1 0 0∧t 6=.ptr 3 0 0∧t 7=.ptr 4 0 0∧t 8=.ptr y 0 0∧t 9=rv∧t 11=.slr 1 (y+2) 0 s.cons.length∧t 12=.slr 1 (y+3) 0 s.cons.length∧t 15=.slr 1 (y+10) 0 s.cons.length∧t 16=.int .i64 i∧(∃wG wL g,h=.live 6 false false [s.cells]::.live 6 false false [[.int .i64 hr,slv 1 true nG (G.map iv),.int .i64 own,.int .i64 fuel,slv 1 true nL (L.map iv),slv 5 true nO (O.map BTrade.cells)]]::.live 3 false false [d.cells]::.live 6 false false [[.int .i64 0,.nils,.int .i64 0,.int .i64 0,.nils,.nils]]::.live 4 false false [[.nils,.nils,.nils,.nils]]::.live 1 true v1 (G1.map iv)::.live 1 true v2 (L1.map iv)::(ob1++.live 1 true wG (zz.1.map iv)::.live 1 true wL (zz.2.2.1.map iv)::(ob2++(rb++.live 6 false true [[.int .i64 hr,.slr 1 n0 0 s.cons.length,.int .i64 (ROwn z A own),.int .i64 zz.2.1,.slr 1 (n0+1) 0 s.cons.length,ov]]::.live 4 true true [z.cells]::.live 1 true false (W.map iv)::.live 1 true false (A.map iv)::.live 1 true false ((A.map posI).map iv)::.live 1 true false ((A.map negI).map iv)::.live 1 true false ((A.map posI).map iv)::.live 1 true false ((shareL (mn z.flowIn (sumF (A.map posI) 0)) (A.map posI)).map iv)::.live 1 true false ((A.map negI).map iv)::.live 1 true false ((shareL (mn z.flowOut (sumF (A.map negI) 0)) (A.map negI)).map iv)::.live 1 true false ((RF z A).map iv)::g)))∧zz.1.length=s.cons.length∧zz.2.2.1.length=s.cons.length∧i=zz.2.2.2)) (fun rest zz=>endF s hr W A rest zz.2.2.2 (zz.1,zz.2.1,zz.2.2.1)) (fun r e t h=>e=.exit 0∧t 6=.ptr 3 0 0∧t 7=.ptr 4 0 0∧t 8=.ptr y 0 0∧t 9=rv∧t 11=.slr 1 (y+2) 0 s.cons.length∧t 12=.slr 1 (y+3) 0 s.cons.length∧t 15=.slr 1 (y+10) 0 s.cons.length∧(∃wG wL g,h=.live 6 false false [s.cells]::.live 6 false false [[.int .i64 hr,slv 1 true nG (G.map iv),.int .i64 own,.int .i64 fuel,slv 1 true nL (L.map iv),slv 5 true nO (O.map BTrade.cells)]]::.live 3 false false [d.cells]::.live 6 false false [[.int .i64 0,.nils,.int .i64 0,.int .i64 0,.nils,.nils]]::.live 4 false false [[.nils,.nils,.nils,.nils]]::.live 1 true v1 (G1.map iv)::.live 1 true v2 (L1.map iv)::(ob1++.live 1 true wG (r.1.map iv)::.live 1 true wL (r.2.2.map iv)::(ob2++(rb++.live 6 false true [[.int .i64 hr,.slr 1 n0 0 s.cons.length,.int .i64 (ROwn z A own),.int .i64 r.2.1,.slr 1 (n0+1) 0 s.cons.length,ov]]::.live 4 true true [z.cells]::.live 1 true false (W.map iv)::.live 1 true false (A.map iv)::.live 1 true false ((A.map posI).map iv)::.live 1 true false ((A.map negI).map iv)::.live 1 true false ((A.map posI).map iv)::.live 1 true false ((shareL (mn z.flowIn (sumF (A.map posI) 0)) (A.map posI)).map iv)::.live 1 true false ((A.map negI).map iv)::.live 1 true false ((shareL (mn z.flowOut (sumF (A.map negI) 0)) (A.map negI)).map iv)::.live 1 true false ((RF z A).map iv)::g))))) ?_ ?_ (G2,fuel,L1,0) _ _ ?_) (fun e t h hk=>?_)
  ·rintro⟨G',fu,L',k⟩ t h Q' kQ ⟨h3,h4,h6,h7,h8,h9,h11,h12,h15,h16,⟨wG,wL,g,rfl,hG',hL',rfl⟩⟩
   try dsimp only at *
   (have hb:=trivial;with_reducible repeat' (first|simp only[hb,Vc.down,seval,TY42.down,h3,h4,h6,h7,h8,h9,h11,h12,h15,h16,Int.lt_irrefl,decide_false,hF]|refine fsp ?_ ?_<;>intro hb|refine fd ?_|fail))
   exact kQ _ _ _ ⟨rfl,by simp[up,h6],by simp[up,h7],by simp[up,h8],by simp[up,h9],by simp[up,h11],by simp[up,h12],by simp[up,h15],wG,wL,g,rfl⟩
  ·rintro x rest i ⟨G',fu,L',k⟩ t h J Q' kJ kQ hx hi ⟨h3,h4,h6,h7,h8,h9,h11,h12,h15,h16,⟨wG,wL,g,rfl,hG',hL',rfl⟩⟩
   have hd:decide ((i:Int)<((RF z A).length:Int))=true:=decide_eq_true (by omega)
   have hw:=wrap_next hi (by unfold maxLen;omega)
   try dsimp only at *
   rw[hF]at hd hi
   have hii:((i:Int)<(s.cons.length:Int))=True:=eq_true (by omega)
   obtain⟨c,hc⟩:∃c,s.cons[i]?=some c:=⟨_,List.getElem?_eq_getElem hi⟩
   have hcD:conD s.cons i=c:=by simp[conD,hc]
   have hac:=r_Active c c.firm hr
   have at_:∀l:List Int,l.length=s.cons.length→l[i]?=some (gI l i):=fun l hl=>by have:=gI_at (l:=l) (i:=(i:Int)) (by simp;omega);simpa using this
   have hxx:gI (RF z A) i=x:=by simp only[gI,Int.toNat_natCast,hx];rfl
   have aG:=at_ G' hG'
   have aL:=at_ L' hL'
   have aL2:∀v,(sI L' i v)[i]?=some (gI (sI L' i v) i):=fun v=>at_ _ (by rw[sI_length];exact hL')
   have aW:=at_ W hW
   have aA:=at_ A hA
   have aS:∀(a:List Int) v,(a.map iv).set i [.int .i64 v]=(sI a i v).map iv:=fun a v=>by have:=sI_map a (i:Int) v;simpa using this
   have gLi:∀v,gI (sI L' i v) i=v:=fun v=>by simp only[gI,sI,Int.toNat_natCast];rw[List.getElem?_set_self (by omega)];rfl
   have sLi:∀v w,sI (sI L' i v) i w=sI L' i w:=fun v w=>by simp only[sI,Int.toNat_natCast,List.set_set]
   have sL0:sI L' i (gI L' i)=L':=by
    simp only[gI,sI,Int.toNat_natCast]
    refine List.ext_getElem? fun j=>?_
    by_cases hj:i=j
    ·subst hj;rw[List.getElem?_set_self (by omega),aL];simp only[gI,Int.toNat_natCast,Option.getD]
    ·rw[List.getElem?_set_ne hj]
   cases hact:inB hr c.lo c.hi<;>cases hfirm:c.firm<;>rw[hact]at hac<;>simp only[hfirm]at hac<;>(
    (have hb:=trivial;with_reducible repeat' (first|simp only[hb,Vc.down,seval,TY42.down,hn0,hj1,hy,ho1v,ho1i,hob1,hov,hovp,ho2i,hob2,hrv,hrvp,hrb,List.cons_append,List.nil_append,List.append_nil,h3,h4,h8,h9,h11,h12,h15,h16,hd,hx,hw,hc,hac,hii,aG,aL,aL2,aW,aA,aS,iv,BCon.cells,hfirm,hF,List.length_map,gLi,sLi,Int.reduceEq]|refine fsp ?_ ?_<;>intro hb|refine fd ?_|fail))
    (refine rnd_go (kJ _ _ (sI G' i (gasR s x (gI G' i)),IntKind.i64.wrap (fu+fuelR s x),sI L' i (billR (conD s.cons i) hr x (gI W i) (gI A i) (gI L' i)),i+1) ⟨?_,?_,?_,?_,?_,?_,?_,?_,?_,?_,⟨true,_,_,by simp only[hcD,billR,hact,hfirm,Bool.false_eq_true,if_true,if_false,sL0,hn0,hj1,hy,ho1v,ho1i,hob1,hov,hovp,ho2i,hob2,hrv,hrvp,hrb,List.cons_append,List.nil_append,List.append_nil];rfl,by rw[sI_length];exact hG',by rw[sI_length];exact hL',rfl⟩⟩ ?_);(simp[up,h3]);(simp[up,h4]);(simp[up,h6]);(simp[up,h7]);(simp[up,h8]);(simp[up,h9]);(simp[up,h11]);(simp[up,h12]);(simp[up,h15]);(simp[up]);(simp[endF])))
  ·exact⟨by simp[up,ent,hn0,hj1,hy,ho1v,ho1i,hob1,hov,hovp,ho2i,hob2,hrv,hrvp,hrb],by simp[up,ent,hn0,hj1,hy,ho1v,ho1i,hob1,hov,hovp,ho2i,hob2,hrv,hrvp,hrb],by simp[up,ent,hn0,hj1,hy,ho1v,ho1i,hob1,hov,hovp,ho2i,hob2,hrv,hrvp,hrb],by simp[up,ent,hn0,hj1,hy,ho1v,ho1i,hob1,hov,hovp,ho2i,hob2,hrv,hrvp,hrb],by simp[up,ent,hn0,hj1,hy,ho1v,ho1i,hob1,hov,hovp,ho2i,hob2,hrv,hrvp,hrb],by simp[up,ent,hn0,hj1,hy,ho1v,ho1i,hob1,hov,hovp,ho2i,hob2,hrv,hrvp,hrb],by simp[up,ent,hn0,hj1,hy,ho1v,ho1i,hob1,hov,hovp,ho2i,hob2,hrv,hrvp,hrb],by simp[up,ent,hn0,hj1,hy,ho1v,ho1i,hob1,hov,hovp,ho2i,hob2,hrv,hrvp,hrb],by simp[up,ent,hn0,hj1,hy,ho1v,ho1i,hob1,hov,hovp,ho2i,hob2,hrv,hrvp,hrb],by simp[up],⟨_,_,[],by simp only[hn0,hj1,hy,ho1v,ho1i,hob1,hov,hovp,ho2i,hob2,hrv,hrvp,hrb,List.cons_append,List.nil_append,List.append_nil];exact rfl,hG2,hL1,rfl⟩⟩
  obtain⟨rfl,h6,h7,h8,h9,h11,h12,h15,wG,wL,g,rfl⟩:=hk
  generalize hr0:endF s hr W A (RF z A) 0 (G2,fuel,L1)=r at *
  obtain⟨G',fu,L'⟩:=r
  dsimp only at *
  (have hb:=trivial;with_reducible repeat' (first|simp only[hb,Vc.down,seval,TY42.down,h6,h7,h8,h9,h11,h12,h15,hn0,hj1,hy,ho1v,ho1i,hob1,hov,hovp,ho2i,hob2,hrv,hrvp,hrb,List.cons_append,List.nil_append,List.append_nil]|refine fsp ?_ ?_<;>intro hb|refine fd ?_|fail))
  first
  |exact⟨wG,wL,false,false,false,false,false,.inl ⟨hO2,hR,rfl,rfl⟩⟩
  |exact⟨wG,wL,false,false,false,false,u4,.inr (.inr (.inl ⟨hO2,hR,rfl,rfl⟩))⟩
  |exact⟨wG,wL,false,false,false,u3,false,.inr (.inl ⟨hR,rfl,rfl⟩)⟩
  |exact⟨wG,wL,false,false,false,u3,u4,.inr (.inr (.inr ⟨hR,rfl,rfl⟩))⟩
/-- Amounts of one direction. -/
def Amts(l:List Int):Prop:=∀w∈l,0≤w∧w≤100000000
theorem Amts.tail{x:Int}{l:List Int}(h:Amts (x::l)):Amts l:=fun w hw=>h w (List.mem_cons_of_mem _ hw)
theorem Amts.head{x:Int}{l:List Int}(h:Amts (x::l)):0≤x∧x≤100000000:=h x (List.mem_cons_self ..)
theorem Amts.sum:∀{l:List Int},Amts l→0≤l.sum∧l.sum≤100000000*l.length
 | [],_=>by simp
 |x::l,h=>by
  have:=Amts.sum h.tail
  have:=h.head
  simp only[List.sum_cons,List.length_cons]
  omega
theorem sumF_sum{l:List Int}{a:Int}(h:Amts l)(hl:l.length≤1000)(h0:0≤a)(h1:a≤1000000000000-100000000*l.length):sumF l a=a+l.sum:=by
 induction l generalizing a with
 |nil=>simp[sumF]
 |cons x l ih=>
  have:=h.head
  simp only[List.length_cons]at hl h1
  rw[sumF,wrap_of (by omega) (by omega),ih h.tail (by omega) (by omega) (by omega),List.sum_cons]
  omega
theorem sumF_0{l:List Int}(h:Amts l)(hl:l.length≤1000):sumF l 0=l.sum:=by
 rw[sumF_sum h hl (by omega) (by omega)];omega
def shareX(amount whole:Int):List Int→Int→List Int
 | [],_=>[]
 |w::rest,so=>(amount*(so+w) / whole-amount*so / whole)::shareX amount whole rest (so+w)
theorem mul_le{a b c d:Int}(h0:0≤a)(h1:a≤c)(h2:0≤b)(h3:b≤d):0≤a*b∧a*b≤c*d:=
 ⟨Int.mul_nonneg h0 h2,Int.mul_le_mul h1 h3 h2 (by omega)⟩
theorem div_in{x y:Int}(h0:0≤x)(hy:0<y):0≤x / y∧x / y≤x:=⟨Int.ediv_nonneg h0 (by omega),Int.ediv_le_self _ h0⟩
theorem shareF_X{amount whole:Int}(ha:0≤amount)(ha':amount≤1000000000)(hw:0<whole){l:List Int}{so:Int}(h:Amts l)(hl:l.length≤8)(h0:0≤so)(h1:so≤1000000000-100000000*l.length):shareF amount whole l so (amount*so / whole)=shareX amount whole l so:=by
 induction l generalizing so with
 |nil=>rfl
 |cons w l ih=>
  have hh:=h.head
  simp only[List.length_cons]at hl h1
  have e1:IntKind.i64.wrap (so+w)=so+w:=wrap_of (by omega) (by omega)
  have m1:=mul_le ha ha' (b:=so+w) (d:=1000000000) (by omega) (by omega)
  have m2:=mul_le ha ha' (b:=so) (d:=1000000000) (by omega) (by omega)
  have d1:=div_in m1.1 hw
  have d2:=div_in m2.1 hw
  have e2:IntKind.i64.wrap (amount*(so+w))=amount*(so+w):=wrap_of (by omega) (by omega)
  have e3:(amount*(so+w)).tdiv whole=amount*(so+w) / whole:=Int.tdiv_eq_ediv_of_nonneg m1.1
  have e4:IntKind.i64.wrap (amount*(so+w) / whole)=amount*(so+w) / whole:=wrap_of (by omega) (by omega)
  have e5:IntKind.i64.wrap (amount*(so+w) / whole-amount*so / whole)=amount*(so+w) / whole-amount*so / whole:=wrap_of (by omega) (by omega)
  have e6:amount*so / whole+(amount*(so+w) / whole-amount*so / whole)=amount*(so+w) / whole:=by omega
  simp only[shareF,shareX,part1,hw,if_true,e1,e2,e3,e4,e5,e6]
  rw[ih h.tail (by omega) (by omega) (by omega)]
theorem shareF_0{amount whole:Int}(ha:0≤amount)(ha':amount≤1000000000)(hw:0<whole){l:List Int}(h:Amts l)(hl:l.length≤8):shareF amount whole l 0 0=shareX amount whole l 0:=by
 have:=shareF_X ha ha' hw h hl (Int.le_refl 0) (by omega)
 simpa using this
theorem shareF_zero{amount whole:Int}(hw:¬0<whole):∀(l:List Int) (so:Int),shareF amount whole l so 0=List.replicate l.length 0
 | [],_=>rfl
 |w::l,so=>by
  simp only[shareF,part1,hw,if_false,List.length_cons,List.replicate_succ]
  rw[show IntKind.i64.wrap (0+0)=0 from by decide,shareF_zero hw l]
/-- Each one has its part, to less than one. -/
theorem part_near{amount whole so w:Int}(hw:0<whole):(amount*(so+w) / whole-amount*so / whole)*whole-amount*w<whole∧ -whole<(amount*(so+w) / whole-amount*so / whole)*whole-amount*w:=by
 have a1:=Int.emod_add_mul_ediv (amount*(so+w)) whole
 have a2:=Int.emod_add_mul_ediv (amount*so) whole
 have b1:=Int.emod_nonneg (amount*(so+w)) (by omega:whole≠0)
 have b2:=Int.emod_nonneg (amount*so) (by omega:whole≠0)
 have c1:=Int.emod_lt_of_pos (amount*(so+w)) hw
 have c2:=Int.emod_lt_of_pos (amount*so) hw
 have e:amount*(so+w)=amount*so+amount*w:=Int.mul_add ..
 rw[Int.sub_mul,Int.mul_comm (amount*(so+w) / whole),Int.mul_comm (amount*so / whole)]
 constructor<;>omega
theorem part_in{amount whole so w:Int}(ha:0≤amount)(haw:amount≤whole)(hw:0<whole)(hw0:0≤w):0≤amount*(so+w) / whole-amount*so / whole∧amount*(so+w) / whole-amount*so / whole≤w:=by
 have e:amount*(so+w)=amount*so+amount*w:=Int.mul_add ..
 have p:0≤amount*w:=Int.mul_nonneg ha hw0
 have q:amount*w≤whole*w:=Int.mul_le_mul_of_nonneg_right haw hw0
 have m1:amount*so / whole≤amount*(so+w) / whole:=Int.ediv_le_ediv hw (by omega)
 have m2:amount*(so+w) / whole≤(amount*so+w*whole) / whole:=Int.ediv_le_ediv hw (by rw[Int.mul_comm w];omega)
 rw[Int.add_mul_ediv_right _ _ (by omega)]at m2
 omega
theorem shareX_get{amount whole:Int}(ha:0≤amount)(haw:amount≤whole)(hw:0<whole):∀{l:List Int} {so:Int},Amts l→∀{i:Nat} {x w:Int},(shareX amount whole l so)[i]?=some x→l[i]?=some w→0≤x∧x≤w∧x*whole-amount*w<whole∧ -whole<x*whole-amount*w
 | [],_,_,i,x,w,hx,_=>by simp[shareX]at hx
 |y::l,so,h,0,x,w,hx,hw'=>by
  simp only[shareX,List.getElem?_cons_zero,Option.some.injEq]at hx hw'
  subst hx hw'
  have:=part_in (so:=so) ha haw hw h.head.1
  have:=part_near (amount:=amount) (so:=so) (w:=y) hw
  exact⟨by omega,by omega,by omega,by omega⟩
 |y::l,so,h,i+1,x,w,hx,hw'=>by
  simp only[shareX,List.getElem?_cons_succ]at hx hw'
  exact shareX_get ha haw hw h.tail hx hw'
theorem shareX_length(amount whole:Int):∀(l:List Int) (so:Int),(shareX amount whole l so).length=l.length
 | [],_=>rfl
 |x::l,so=>by simp[shareX,shareX_length amount whole l]
theorem shareX_sum(amount whole:Int):∀(l:List Int) (so:Int),(shareX amount whole l so).sum=amount*(so+l.sum) / whole-amount*so / whole
 | [],so=>by simp[shareX]
 |w::l,so=>by
  rw[shareX,List.sum_cons,shareX_sum,List.sum_cons,Int.add_assoc so]
  omega
theorem shareX_all{amount:Int}{l:List Int}(hw:0<l.sum):(shareX amount l.sum l 0).sum=amount:=by
 rw[shareX_sum];simp[Int.mul_ediv_cancel _ (by omega:l.sum≠0)]
theorem Amts.fz:∀{cs:List BCon} {l:List Int},Amts l→Amts (fzL cs l)
 | [],_,_=>fun w hw=>by simp[fzL]at hw
 |_::_,[],_=>fun w hw=>by simp[fzL]at hw
 |c::cs,x::l,h=>fun w hw=>by
  simp only[fzL,List.zipWith_cons_cons,List.mem_cons]at hw
  rcases hw with rfl|hw
  ·have:=h.head;unfold firmW;split<;>omega
  ·exact Amts.fz h.tail w hw
theorem Amts.oz:∀{cs:List BCon} {l:List Int},Amts l→Amts (ozR cs l)
 | [],_,_=>fun w hw=>by simp[ozR]at hw
 |_::_,[],_=>fun w hw=>by simp[ozR]at hw
 |c::cs,x::l,h=>fun w hw=>by
  simp only[ozR,List.zipWith_cons_cons,List.mem_cons]at hw
  rcases hw with rfl|hw
  ·have:=h.head;unfold othR;split<;>omega
  ·exact Amts.oz h.tail w hw
theorem fo_sum:∀{cs:List BCon} {l:List Int},l.length=cs.length→(fzL cs l).sum+(ozR cs l).sum=l.sum
 | [],[],_=>rfl
 |c::cs,x::l,h=>by
  have ih:=fo_sum (cs:=cs) (l:=l) (by simpa using h)
  simp only[fzL,ozR,List.zipWith_cons_cons,List.sum_cons,firmW,othR]at ih ⊢
  split<;>omega
/-- What is granted to contracts, in numbers. -/
structure Cuts(cs:List BCon)(l A:List Int)(m:Int):Prop where
 len:A.length=l.length
 ins:∀{i:Nat} {x w:Int},A[i]?=some x→l[i]?=some w→0≤x∧x≤w
 all:A.sum=min l.sum m
 firm:(fzL cs A).sum<(fzL cs l).sum→(ozR cs A).sum=0
 near:∀{i:Nat} {c:BCon} {x w:Int},cs[i]?=some c→A[i]?=some x→l[i]?=some w→
  (c.firm=true→x*(fzL cs l).sum-min m (fzL cs l).sum*w<max 1 (fzL cs l).sum∧ -(max 1 (fzL cs l).sum)<x*(fzL cs l).sum-min m (fzL cs l).sum*w)∧
  (c.firm=false→x*(ozR cs l).sum-min (max 0 (m-(fzL cs l).sum)) (ozR cs l).sum*w<max 1 (ozR cs l).sum∧ -(max 1 (ozR cs l).sum)<x*(ozR cs l).sum-min (max 0 (m-(fzL cs l).sum)) (ozR cs l).sum*w)
theorem fz_fz:∀{cs:List BCon} {l A:List Int},(∀{i:Nat} {c:BCon} {x w:Int},cs[i]?=some c→A[i]?=some x→l[i]?=some w→c.firm=true→x=w)→l.length=cs.length→A.length=l.length→fzL cs A=fzL cs l
 | [],_,_,_,_,_=>rfl
 |c::cs,w::l,x::A,h,h1,h2=>by
  have ih:=fz_fz (cs:=cs) (l:=l) (A:=A) (fun {i c x w} hc hx hw=>h (i:=i+1) (by simpa using hc) (by simpa using hx) (by simpa using hw)) (by simpa using h1) (by simpa using h2)
  simp only[fzL,List.zipWith_cons_cons]at ih ⊢
  rw[ih]
  congr 1
  unfold firmW
  split
  ·rename_i hf;exact h (i:=0) rfl rfl rfl hf
  ·rfl
 |c::cs,[],_,_,h1,_=>by simp at h1
 |c::cs,_::_,[],_,_,h2=>by simp at h2
theorem oz_none:∀{cs:List BCon} {A:List Int},(∀{i:Nat} {c:BCon} {x:Int},cs[i]?=some c→A[i]?=some x→c.firm=false→x=0)→(ozR cs A).sum=0
 | [],_,_=>rfl
 |_::_,[],_=>rfl
 |c::cs,x::A,h=>by
  have ih:=oz_none (cs:=cs) (A:=A) (fun {i c x} hc hx=>h (i:=i+1) (by simpa using hc) (by simpa using hx))
  simp only[ozR,List.zipWith_cons_cons,List.sum_cons]at ih ⊢
  rw[ih]
  unfold othR
  split
  ·rfl
  ·rename_i hf;rw[h (i:=0) rfl rfl (by simpa using hf)];rfl
theorem zip3{cs:List BCon}{l:List Int}{f:BCon→Int→Int}{i:Nat}{c:BCon}{w:Int}(hc:cs[i]?=some c)(hw:l[i]?=some w):(List.zipWith f cs l)[i]?=some (f c w):=by simp[List.getElem?_zipWith,hc,hw]
theorem cuts{cs:List BCon}{l:List Int}{m:Int}(hl:l.length=cs.length)(h8:l.length≤8)(ha:Amts l)(hm:0≤m)(hm':m≤800000000):Cuts cs l (grantR cs l m) m:=by
 have hf:=ha.fz (cs:=cs)
 have ho:=ha.oz (cs:=cs)
 have lf:(fzL cs l).length=l.length:=by simp[fzL,hl]
 have lo:(ozR cs l).length=l.length:=by simp[ozR,hl]
 have s1:=sumF_0 ha (by omega)
 have s2:=sumF_0 hf (by omega)
 have s3:=sumF_0 ho (by omega)
 have bf:=hf.sum
 have bo:=ho.sum
 have bl:=ha.sum
 have hfo:=fo_sum hl
 unfold grantR
 rw[s1,s2,s3]
 split
 ·rename_i h1
  refine⟨rfl,fun hx hw=>?_,by omega,fun h=>by omega,fun {i c x w} hc hx hw=>?_⟩
  ·rw[hx]at hw;cases hw
   exact⟨(ha _ (List.mem_of_getElem? hx)).1,Int.le_refl _⟩
  ·rw[hx]at hw;cases hw
   have e1:min m (fzL cs l).sum=(fzL cs l).sum:=by omega
   have e2:min (max 0 (m-(fzL cs l).sum)) (ozR cs l).sum=(ozR cs l).sum:=by omega
   rw[e1,e2,Int.mul_comm x,Int.mul_comm x]
   exact⟨fun _=>by omega,fun _=>by omega⟩
 ·rename_i h1
  split
  ·rename_i h2
   rw[shareF_0 hm (by omega) (by omega) hf (by omega)]
   have hg:=fun {i:Nat} {x w:Int} hx hw=>shareX_get (l:=fzL cs l) (so:=0) hm (by omega:m≤(fzL cs l).sum) (by omega) hf (i:=i) (x:=x) (w:=w) hx hw
   have hz:∀{i:Nat} {c:BCon} {x:Int},cs[i]?=some c→(shareX m (fzL cs l).sum (fzL cs l) 0)[i]?=some x→c.firm=false→x=0:=fun {i c x} hc hx hfm=>by
    have hi:i<l.length:=by
     have:=(List.getElem?_eq_some_iff.1 hx).1
     rw[shareX_length,lf]at this;exact this
    obtain⟨w,hw⟩:∃w,l[i]?=some w:=⟨_,List.getElem?_eq_getElem hi⟩
    have:=hg hx (zip3 (f:=firmW) hc hw)
    simp only[firmW,hfm,Bool.false_eq_true,if_false]at this
    omega
   refine⟨by rw[shareX_length,lf],fun {i x w} hx hw=>?_,?_,fun _=>oz_none hz,fun {i c x w} hc hx hw=>?_⟩
   ·have hi:i<cs.length:=by
     have:=(List.getElem?_eq_some_iff.1 hw).1;omega
    obtain⟨c,hc⟩:∃c,cs[i]?=some c:=⟨_,List.getElem?_eq_getElem hi⟩
    have:=hg hx (zip3 (f:=firmW) hc hw)
    have hw0:=ha _ (List.mem_of_getElem? hw)
    unfold firmW at this
    split at this<;>omega
   ·rw[shareX_all (by omega)];omega
   ·have:=hg hx (zip3 (f:=firmW) hc hw)
    constructor
    ·intro hfm
     simp only[firmW,hfm,if_true]at this
     rw[Int.min_eq_left (by omega)]
     exact⟨by omega,by omega⟩
    ·intro hfm
     rw[hz hc hx hfm,show min (max 0 (m-(fzL cs l).sum)) (ozR cs l).sum=0 by omega]
     omega
  ·rename_i h2
   have e0:IntKind.i64.wrap (m-(fzL cs l).sum)=m-(fzL cs l).sum:=wrap_of (by omega) (by omega)
   rw[e0,shareF_0 (by omega) (by omega) (by omega) ho (by omega)]
   have hg:=fun {i:Nat} {x w:Int} hx hw=>shareX_get (l:=ozR cs l) (so:=0) (by omega:0≤m-(fzL cs l).sum) (by omega:m-(fzL cs l).sum≤(ozR cs l).sum) (by omega) ho (i:=i) (x:=x) (w:=w) hx hw
   have hA:∀{i:Nat} {c:BCon} {x w:Int},cs[i]?=some c→l[i]?=some w→(List.zipWith addW (shareX (m-(fzL cs l).sum) (ozR cs l).sum (ozR cs l) 0) (fzL cs l))[i]?=some x→(c.firm=true→x=w)∧(c.firm=false→0≤x∧x≤w∧x*(ozR cs l).sum-(m-(fzL cs l).sum)*w<(ozR cs l).sum∧ -(ozR cs l).sum<x*(ozR cs l).sum-(m-(fzL cs l).sum)*w):=fun {i c x w} hc hw hx=>by
    rw[List.getElem?_zipWith,zip3 (f:=firmW) hc hw (cs:=cs) (l:=l) |> (fun h=>(show(fzL cs l)[i]?=some (firmW c w)from h))]at hx
    cases hy:(shareX (m-(fzL cs l).sum) (ozR cs l).sum (ozR cs l) 0)[i]? with
    |none=>rw[hy]at hx;simp at hx
    |some y=>
     rw[hy]at hx
     simp only[Option.some.injEq]at hx
     have:=hg hy (zip3 (f:=othR) hc hw)
     have hw0:=ha _ (List.mem_of_getElem? hw)
     subst hx
     constructor
     ·intro hfm
      simp only[othR,hfm,if_true]at this
      simp only[addW,firmW,hfm,if_true]
      rw[wrap_of (by omega) (by omega)];omega
     ·intro hfm
      simp only[othR,hfm,Bool.false_eq_true,if_false]at this
      simp only[addW,firmW,hfm,Bool.false_eq_true,if_false]
      rw[wrap_of (by omega) (by omega),Int.add_zero]
      exact this
   have hlen:(List.zipWith addW (shareX (m-(fzL cs l).sum) (ozR cs l).sum (ozR cs l) 0) (fzL cs l)).length=l.length:=by simp[shareX_length,lf,lo]
   have hfz:=fz_fz (cs:=cs) (l:=l) (A:=List.zipWith addW (shareX (m-(fzL cs l).sum) (ozR cs l).sum (ozR cs l) 0) (fzL cs l)) (fun {i c x w} hc hx hw hfm=>(hA hc hw hx).1 hfm) hl hlen
   have hoz:ozR cs (List.zipWith addW (shareX (m-(fzL cs l).sum) (ozR cs l).sum (ozR cs l) 0) (fzL cs l))=shareX (m-(fzL cs l).sum) (ozR cs l).sum (ozR cs l) 0:=by
    refine List.ext_getElem? fun i=>?_
    by_cases hi:i<l.length
    ·obtain⟨w,hw⟩:∃w,l[i]?=some w:=⟨_,List.getElem?_eq_getElem hi⟩
     obtain⟨c,hc⟩:∃c,cs[i]?=some c:=⟨_,List.getElem?_eq_getElem (by omega)⟩
     obtain⟨y,hy⟩:∃y,(shareX (m-(fzL cs l).sum) (ozR cs l).sum (ozR cs l) 0)[i]?=some y:=⟨_,List.getElem?_eq_getElem (by rw[shareX_length,lo];exact hi)⟩
     have:=hg hy (zip3 (f:=othR) hc hw)
     have hw0:=ha _ (List.mem_of_getElem? hw)
     have hz:(List.zipWith addW (shareX (m-(fzL cs l).sum) (ozR cs l).sum (ozR cs l) 0) (fzL cs l))[i]?=some (addW y (firmW c w)):=by
      rw[List.getElem?_zipWith,hy,show(fzL cs l)[i]?=some (firmW c w)from zip3 hc hw]
     rw[hy,show(ozR cs _)[i]?=some (othR c (addW y (firmW c w)))from zip3 hc hz]
     unfold othR at this ⊢
     split at this
     ·rename_i hfm;rw[if_pos hfm];congr 1;omega
     ·rename_i hfm
      rw[if_neg hfm]
      simp only[addW,firmW,hfm,Bool.false_eq_true,if_false]
      rw[wrap_of (by omega) (by omega),Int.add_zero]
    ·rw[List.getElem?_eq_none (by simp[ozR,shareX_length,lo,lf];omega),List.getElem?_eq_none (by rw[shareX_length,lo];omega)]
   have hs:=fo_sum (cs:=cs) (l:=List.zipWith addW (shareX (m-(fzL cs l).sum) (ozR cs l).sum (ozR cs l) 0) (fzL cs l)) (by omega)
   rw[hfz,hoz,shareX_all (by omega)]at hs
   refine⟨hlen,fun {i x w} hx hw=>?_,by omega,fun h=>by rw[hfz]at h;omega,fun {i c x w} hc hx hw=>?_⟩
   ·have hi:i<cs.length:=by
     have:=(List.getElem?_eq_some_iff.1 hw).1;omega
    obtain⟨c,hc⟩:∃c,cs[i]?=some c:=⟨_,List.getElem?_eq_getElem hi⟩
    have hq:=hA hc hw hx
    have hw0:=ha _ (List.mem_of_getElem? hw)
    cases hfm:c.firm with
    |true=>have:=hq.1 hfm;omega
    |false=>have:=hq.2 hfm;omega
   ·have hq:=hA hc hw hx
    constructor
    ·intro hfm
     rw[hq.1 hfm,Int.min_eq_right (by omega),Int.mul_comm w]
     omega
    ·intro hfm
     have:=hq.2 hfm
     rw[show min (max 0 (m-(fzL cs l).sum)) (ozR cs l).sum=m-(fzL cs l).sum by omega]
     exact⟨by omega,by omega⟩
theorem gI_sI(l:List Int)(i v j:Int):gI (sI l i v) j=if i.toNat=j.toNat∧i.toNat<l.length then v else gI l j:=by
 unfold gI sI
 by_cases h:i.toNat=j.toNat
 ·rw[←h]
  by_cases hl:i.toNat<l.length
  ·rw[if_pos ⟨rfl,hl⟩,List.getElem?_set_self hl];rfl
  ·rw[if_neg (fun q=>hl q.2),List.set_eq_of_length_le (by omega)]
 ·rw[if_neg (fun q=>h q.1),List.getElem?_set_ne h]
/-- Gas within the space of each contract. -/
structure GOK(cs:List BCon)(G:List Int):Prop where
 len:G.length=cs.length
 inn:∀(i:Nat) c,cs[i]?=some c→0≤gI G i∧gI G i≤c.space
/-- Bills that are not far from 0. -/
def LOK(B:Int)(L:List Int):Prop:=∀i:Int,-B≤gI L i∧gI L i≤B
theorem GOK.at{cs:List BCon}{G:List Int}(h:GOK cs G){i:Int}(hi:inL cs.length i):∃c,cs[i.toNat]?=some c∧0≤gI G i∧gI G i≤c.space:=by
 obtain⟨c,hc⟩:∃c,cs[i.toNat]?=some c:=⟨_,List.getElem?_eq_getElem hi.toNat⟩
 have:=h.inn i.toNat c hc
 have e:((i.toNat:Nat):Int)=i:=by have:=hi.1;omega
 rw[e]at this
 exact⟨c,hc,this⟩
theorem gI_nat(l:List Int)(i:Int):gI l (i.toNat:Int)=gI l i:=by unfold gI;rw[Int.toNat_natCast]
/-- Gas moves from one contract to another one. -/
theorem GOK.move{cs:List BCon}{G:List Int}(h:GOK cs G){a b:Int}(ha:inL cs.length a)(hb:inL cs.length b)(hab:a≠b){n:Int}(hn:0≤n)(h1:n≤gI G a)(h2:∀c,cs[b.toNat]?=some c→gI G b+n≤c.space):
 GOK cs (sI (sI G a (gI G a-n)) b (gI G b+n)):=by
 refine⟨by rw[sI_length,sI_length];exact h.len,fun i c hc=>?_⟩
 have hi:i<cs.length:=(List.getElem?_eq_some_iff.1 hc).1
 have hh:=h.inn i c hc
 have hla:=ha.toNat
 have hlb:=hb.toNat
 rw[gI_sI,gI_sI]
 simp only[Int.toNat_natCast,sI_length]
 have a0:=ha.1
 have b0:=hb.1
 split
 ·rename_i q
  have q1:=q.1
  subst q1
  have:=h2 c hc
  have h3:=h.at hb
  obtain⟨c',hc',p1,p2⟩:=h3
  exact⟨by omega,this⟩
 ·split
  ·rename_i q
   have q1:=q.1
   subst q1
   rw[gI_nat]at hh
   omega
  ·exact hh
theorem lack_in{c:BCon}(h:conB c=true):(0≤c.lack∧c.lack≤10000)∧(0≤c.cut∧c.cut≤10000)∧(0≤c.inn∧c.inn≤10000)∧(0≤c.out∧c.out≤10000)∧(0≤c.fixed∧c.fixed≤10000):=by
 simp only[conB,Bool.and_eq_true,inB,decide_eq_true_eq,List.all_cons,List.all_nil,and_true]at h
 obtain⟨_,h1,h2,h3,h4,h5⟩:=h
 exact⟨h5,h4,h2,h3,h1⟩
/-- A trade as it is defined, between contracts that are there. -/
structure TOK(n:Nat)(t:BTrade):Prop where
 ok:t.ok n
 ne:t.frm≠t.to
 amt:1≤t.amount∧t.amount≤100000000
 back:t.back= -1∨0≤t.back
theorem tok{n:Nat}(hn:n≤1000){t:BTrade}(h:tradeB n t=true):TOK n t:=by
 obtain⟨a,b,c,d,e⟩:=trade_ok hn h
 exact⟨a,b,⟨c,d⟩,e⟩
/-- What a loan moves, and what it costs. -/
def lnN(cs:List BCon)(t:BTrade)(G:List Int):Int:=mn (mn t.amount (gI G t.to)) (spaceOf cs t.frm-gI G t.frm)
def lnP(cs:List BCon)(t:BTrade)(G:List Int):Int:=(t.amount-mn t.amount (gI G t.to))*lackOf cs t.to
theorem sI_same{l:List Int}{i:Int}(hi:inL l.length i):sI l i (gI l i)=l:=by
 unfold sI gI
 have:=hi.toNat
 refine List.ext_getElem? fun j=>?_
 by_cases h:i.toNat=j
 ·subst h;rw[List.getElem?_set_self this,List.getElem?_eq_getElem this];rfl
 ·rw[List.getElem?_set_ne h]
theorem loan_eq{cs:List BCon}(hcs:∀c∈cs,conB c=true){t:BTrade}(T:TOK cs.length t){G L:List Int}(hG:GOK cs G){B:Int}(hB:0≤B∧B≤4000000000000000000)(hLl:L.length=cs.length)(hL:LOK B L):
 loanG cs t G=sI (sI G t.to (gI G t.to-lnN cs t G)) t.frm (gI G t.frm+lnN cs t G)∧retG cs t G=loanG cs t G∧
 loanL cs t G L=sI (sI L t.to (gI L t.to+lnP cs t G)) t.frm (gI L t.frm-lnP cs t G)∧retL cs t G L=loanL cs t G L∧
 GOK cs (loanG cs t G)∧LOK (B+1000000000000) (loanL cs t G L)∧(0≤lnN cs t G)∧(0≤lnP cs t G∧lnP cs t G≤1000000000000):=by
 obtain⟨ct,hct,gt0,gt1⟩:=hG.at T.ok.2
 obtain⟨cf,hcf,gf0,gf1⟩:=hG.at T.ok.1
 have Ct:=conOK (hcs ct (List.mem_of_getElem? hct))
 have Cf:=conOK (hcs cf (List.mem_of_getElem? hcf))
 have Lt:=(lack_in (hcs ct (List.mem_of_getElem? hct))).1
 have hA:=T.amt
 have sp1:=Ct.space
 have sp2:=Cf.space
 have eS:spaceOf cs t.frm=cf.space:=by simp[spaceOf,hcf]
 have eK:lackOf cs t.to=ct.lack:=by simp[lackOf,hct]
 have hne:=T.ne
 have i0:=T.ok.1.1
 have j0:=T.ok.2.1
 have wS:IntKind.i64.wrap (cf.space-gI G t.frm)=cf.space-gI G t.frm:=wrap_of (by omega) (by omega)
 have wA:IntKind.i64.wrap (t.amount-gI G t.to)=t.amount-gI G t.to:=wrap_of (by omega) (by omega)
 have n0:0≤lnN cs t G∧lnN cs t G≤gI G t.to∧lnN cs t G≤cf.space-gI G t.frm:=by
  unfold lnN mn;rw[eS];split<;>split<;>omega
 have eN:loanN cs t G=lnN cs t G:=by
  unfold loanN lnN;rw[eS,wS];rfl
 have eR:givesR cs t G=lnN cs t G:=by
  unfold givesR lnN;rw[eS,wS]
 have m0:0≤t.amount-mn t.amount (gI G t.to)∧t.amount-mn t.amount (gI G t.to)≤100000000:=by
  unfold mn;split<;>omega
 have p0:0≤lnP cs t G∧lnP cs t G≤1000000000000:=by
  unfold lnP;rw[eK]
  have:=mul_le m0.1 m0.2 Lt.1 Lt.2
  omega
 have eP:paysR cs t G=lnP cs t G:=by
  have w1:IntKind.i64.wrap (t.amount-mn t.amount (gI G t.to))=t.amount-mn t.amount (gI G t.to):=wrap_of (by omega) (by omega)
  have p1:=p0
  unfold lnP at p1
  unfold paysR lnP
  rw[w1]
  exact wrap_of (by omega) (by omega)
 have wt:=hL t.to
 have wf:=hL t.frm
 have ne1:∀(l:List Int) v,gI (sI l t.to v) t.frm=gI l t.frm:=fun l v=>gI_ne j0 i0 (Ne.symm hne) v
 have r1:loanG cs t G=sI (sI G t.to (gI G t.to-lnN cs t G)) t.frm (gI G t.frm+lnN cs t G):=by
  unfold loanG
  rw[eN,ne1,wrap_of (by omega) (by omega),wrap_of (by omega) (by omega)]
 have r2:retG cs t G=loanG cs t G:=by
  rw[r1];unfold retG
  rw[eR,wrap_of (by omega) (by omega),wrap_of (by omega) (by omega)]
 have r4:retL cs t G L=sI (sI L t.to (gI L t.to+lnP cs t G)) t.frm (gI L t.frm-lnP cs t G):=by
  unfold retL
  rw[eP,wrap_of (by omega) (by omega),wrap_of (by omega) (by omega)]
 have r3:loanL cs t G L=sI (sI L t.to (gI L t.to+lnP cs t G)) t.frm (gI L t.frm-lnP cs t G):=by
  unfold loanL
  rw[wA]
  split
  ·rename_i hlt
   have eW:paysW cs t G=lnP cs t G:=by
    rw[←eP];unfold paysW paysR
    rw[show mn t.amount (gI G t.to)=gI G t.to by unfold mn;rw[if_pos (by omega)]]
   rw[eW,ne1,wrap_of (by omega) (by omega),wrap_of (by omega) (by omega)]
  ·rename_i hlt
   have z:lnP cs t G=0:=by
    unfold lnP
    rw[show mn t.amount (gI G t.to)=t.amount by unfold mn;rw[if_neg (by omega)]]
    simp
   have h1:=T.ok.1
   have h2:=T.ok.2
   rw[←hLl]at h1 h2
   rw[z,Int.add_zero,Int.sub_zero,sI_same h2,sI_same h1]
 refine⟨r1,r2,r3,by rw[r4,r3],?_,?_,n0.1,p0⟩
 ·rw[r1]
  exact hG.move T.ok.2 T.ok.1 (Ne.symm hne) n0.1 n0.2.1 (fun c hc=>by rw[hcf]at hc;cases hc;omega)
 ·rw[r3]
  intro i
  have:=hL i
  rw[gI_sI]
  split
  ·omega
  ·rw[gI_sI];split<;>omega
/-- Loans that are given back: both ways of reckoning. -/
theorem loans_eq{cs:List BCon}(hcs:∀c∈cs,conB c=true)(hr:Int):∀{O:List BTrade},(∀t∈O,TOK cs.length t)→∀{G L:List Int} (p:List BTrade) {B:Int},GOK cs G→0≤B→B+1000000000000*O.length≤4000000000000000000→L.length=cs.length→LOK B L→
 retF cs hr O (G,L,p)=loansF cs hr O (G,L,p)∧GOK cs (loansF cs hr O (G,L,p)).1∧(loansF cs hr O (G,L,p)).2.1.length=cs.length∧LOK (B+1000000000000*O.length) (loansF cs hr O (G,L,p)).2.1
 | [],_,G,L,p,B,hG,h0,hB,hLl,hL=>⟨rfl,hG,hLl,by simpa [loansF]using hL⟩
 |t::O,hO,G,L,p,B,hG,h0,hB,hLl,hL=>by
  have T:=hO t (List.mem_cons_self ..)
  have hO':∀t∈O,TOK cs.length t:=fun t ht=>hO t (List.mem_cons_of_mem _ ht)
  simp only[List.length_cons]at hB
  by_cases hb:t.back=hr
  ·obtain⟨_,r2,_,r4,g,l,_⟩:=loan_eq hcs T hG (B:=B) ⟨h0,by omega⟩ hLl hL
   have hb':(t.back==hr)=true:=by simpa using hb
   simp only[retF,loansF,hb,hb',if_true]
   rw[r2,r4]
   obtain⟨a,b,c,d⟩:=loans_eq hcs hr hO' p g (by omega) (by omega) (by rw[loanL_length];exact hLl) l
   refine⟨by simpa using a,b,c,fun i=>?_⟩
   have:=d i
   simp only[List.length_cons]
   omega
  ·have hb':(t.back==hr)=false:=by simpa using hb
   simp only[retF,loansF,hb,hb',if_false,Bool.false_eq_true]
   obtain⟨a,b,c,d⟩:=loans_eq hcs hr hO' (p++[t]) hG h0 (by omega) hLl hL
   refine⟨a,b,c,fun i=>?_⟩
   have:=d i
   simp only[List.length_cons]
   omega
theorem trades_ok{cs:List BCon}(hcs:∀c∈cs,conB c=true)(hr:Int):∀{T:List BTrade},(∀t∈T,TOK cs.length t)→∀{G:List Int} (i:Nat) (O:List BTrade) (R:List Int),GOK cs G→GOK cs (tradesF cs hr T i (G,O,R)).1
 | [],_,G,i,O,R,hG=>hG
 |t::T,hT,G,i,O,R,hG=>by
  have hT':∀t∈T,TOK cs.length t:=fun t ht=>hT t (List.mem_cons_of_mem _ ht)
  have K:=hT t (List.mem_cons_self ..)
  simp only[tradesF]
  split
  ·split
   ·exact trades_ok hcs hr hT' _ _ _ hG
   ·rename_i hno
    refine trades_ok hcs hr hT' _ _ _ ?_
    obtain⟨ct,hct,gt0,gt1⟩:=hG.at K.ok.2
    obtain⟨cf,hcf,gf0,gf1⟩:=hG.at K.ok.1
    have sp1:=(conOK (hcs ct (List.mem_of_getElem? hct))).space
    have sp2:=(conOK (hcs cf (List.mem_of_getElem? hcf))).space
    have hA:=K.amt
    have e:spaceOf cs t.to=ct.space:=by simp[spaceOf,hct]
    simp only[tradeNo,Bool.or_eq_true,decide_eq_true_eq,not_or,e]at hno
    obtain⟨⟨n1,n2⟩,_⟩:=hno
    rw[wrap_of (by omega) (by omega)]at n2
    rw[tradeG_flat K.ok K.ne,wrap_of (by omega) (by omega),wrap_of (by omega) (by omega)]
    exact hG.move K.ok.1 K.ok.2 K.ne (by omega) (by omega) (fun c hc=>by rw[hct]at hc;cases hc;omega)
  ·exact trades_ok hcs hr hT' _ _ _ hG
theorem rateF_mem(q:Int):∀(l:List BRate) (o:BRate),rateF q l o=o∨rateF q l o∈l
 | [],o=>.inl rfl
 |r::l,o=>by
  simp only[rateF]
  rcases rateF_mem q l (if r.fill≤q then r else o)with h|h
  ·rw[h];split
   ·exact .inr (List.mem_cons_self ..)
   ·exact .inl rfl
  ·exact .inr (List.mem_cons_of_mem _ h)
theorem rateG_in{c:BCon}(h:conB c=true)(g:Int):(0≤(rateG c g).inn∧(rateG c g).inn≤100000000)∧(0≤(rateG c g).out∧(rateG c g).out≤100000000)∧(rate0 c).fill=0:=by
 have C:=conOK h
 simp only[conB,Bool.and_eq_true]at h
 have hr:=h.1.1.1.1.1
 have r0:rate0 c∈c.rates:=by
  unfold rate0
  rw[List.getElem?_eq_getElem (List.length_pos_iff.2 C.rates.1)]
  exact List.getElem_mem _
 have m:rateG c g∈c.rates:=by
  unfold rateG
  rcases rateF_mem (quoW c g) c.rates (rate0 c)with e|e
  ·rw[e];exact r0
  ·exact e
 have:=ratesB_mem hr m
 refine⟨⟨this.1,this.2.1⟩,⟨this.2.2.1,this.2.2.2⟩,?_⟩
 unfold rate0
 cases hc:c.rates with
 |nil=>exact(C.rates.1 hc).elim
 |cons r l=>
  rw[hc]at hr
  simp only[ratesB,rateB,Bool.and_eq_true,decide_eq_true_eq]at hr
  exact hr.1.2
theorem quo_nn{c:BCon}(h:conB c=true){g:Int}(h0:0≤g)(h1:g≤c.space):0≤quoW c g:=by
 have C:=(conOK h).space
 unfold quoW
 rw[wrap_of (n:=1000*g) (by omega) (by omega)]
 have a:0≤(1000*g).tdiv c.space:=Int.tdiv_nonneg (by omega) (by omega)
 have b:(1000*g).tdiv c.space≤1000*g:=by
  rw[Int.tdiv_eq_ediv_of_nonneg (by omega)];exact Int.ediv_le_self _ (by omega)
 rw[wrap_of (by omega) (by omega)];exact a
/-- What a contract wants, both ways. -/
theorem want_eq{c:BCon}(h:conB c=true){n g:Int}(hn: -100000000≤n∧n≤100000000)(h0:0≤g)(h1:g≤c.space):
 wantP c n g=wantR c n g∧ -g≤wantR c n g∧wantR c n g≤c.space-g:=by
 have C:=(conOK h).space
 obtain⟨⟨r1,r2⟩,⟨r3,r4⟩,_⟩:=rateG_in h g
 have w1:IntKind.i64.wrap (c.space-g)=c.space-g:=wrap_of (by omega) (by omega)
 have w2:IntKind.i64.wrap (0-n)=0-n:=wrap_of (by omega) (by omega)
 have w3:IntKind.i64.wrap (0-(rateG c g).out)=0-(rateG c g).out:=wrap_of (by omega) (by omega)
 have w4:IntKind.i64.wrap (0-g)=0-g:=wrap_of (by omega) (by omega)
 unfold wantP wantR
 rw[w1,w2,w3,w4]
 generalize(rateG c g).inn=a at *
 generalize(rateG c g).out=b at *
 have e1:0≤mx0 (mn (mn n a) (c.space-g))∧mx0 (mn (mn n a) (c.space-g))≤100000000:=by
  unfold mx0 mn;split<;>split<;>split<;>omega
 have e2:0≤mx0 (mn (mn (0-n) b) g)∧mx0 (mn (mn (0-n) b) g)≤100000000:=by
  unfold mx0 mn;split<;>split<;>split<;>omega
 rw[wrap_of (by omega) (by omega)]
 by_cases hp:0≤n
 ·have z:mx0 (mn (mn (0-n) b) g)=0:=by unfold mx0 mn;split<;>split<;>split<;>omega
  rw[z]
  unfold mx0 mn mxx
  refine⟨?_,?_,?_⟩<;>(repeat' split)<;>omega
 ·have z:mx0 (mn (mn n a) (c.space-g))=0:=by unfold mx0 mn;split<;>split<;>split<;>omega
  rw[z]
  unfold mx0 mn mxx
  refine⟨?_,?_,?_⟩<;>(repeat' split)<;>omega
theorem nomAmt_in{l:List BNom}{k:Int}(h:l.all (nomB k)=true)(j:Int): -100000000≤nomAmt l j∧nomAmt l j≤100000000:=by
 unfold nomAmt
 cases e:l[j.toNat]? with
 |none=>simp
 |some n=>
  have:=List.all_eq_true.1 h n (List.mem_of_getElem? e)
  simp only[nomB,inB,Bool.and_eq_true,decide_eq_true_eq]at this
  simp only[Option.map_some,Option.getD_some]
  omega
theorem wants_list{s:BStore}{d:BDay}{hr:Int}{G:List Int}(hn:d.noms.all (nomB s.cons.length)=true):∀(l:List BCon) (i:Nat) (p:List Int),p.length=i→(∀c∈l,conB c=true)→(∀(j:Nat) c,l[j]?=some c→0≤gI G ((i+j:Nat):Int)∧gI G ((i+j:Nat):Int)≤c.space)→
 actF (wantS s d hr G) l i (p++List.replicate l.length 0)=p++wantsRF s d hr G l i
 | [],i,p,hp,_,_=>by simp[actF,wantsRF]
 |c::l,i,p,hp,hc,hG=>by
  have h0:=hG 0 c rfl
  rw[Nat.add_zero]at h0
  have ih:=wants_list (hr:=hr) hn l (i+1) (p++[wantRS s d hr G i c]) (by simp[hp]) (fun c hc'=>hc c (List.mem_cons_of_mem _ hc')) (fun j c' hj=>by
   have:=hG (j+1) c' (by simpa using hj)
   rwa[show i+(j+1)=i+1+j by omega]at this)
  have e:=want_eq (hc c (List.mem_cons_self ..)) (nomAmt_in hn (cntF s.lead d.noms i hr d.noms (0,-1))) h0.1 h0.2
  have key:wantS s d hr G i c (p++0::List.replicate l.length 0)=p++wantRS s d hr G i c::List.replicate l.length 0:=by
   unfold wantS wantRS
   cases ha:inB hr c.lo c.hi with
   |false=>simp
   |true=>
    by_cases hk:cntF s.lead d.noms i hr d.noms (0,-1)<0
    ·have hk':¬0≤cntF s.lead d.noms i hr d.noms (0,-1):=by omega
     simp[hk,hk']
    ·have hk':0≤cntF s.lead d.noms i hr d.noms (0,-1):=by omega
     simp only[hk,hk',if_true,if_false,decide_true,Bool.and_self]
     rw[e.1]
     unfold sI
     rw[Int.toNat_natCast,List.set_append_right _ _ (by omega),hp,Nat.sub_self]
     rfl
  simp only[actF,wantsRF,List.length_cons,List.replicate_succ]
  rw[key]
  rw[List.append_assoc]at ih
  rw[List.append_assoc]at ih
  exact ih
/-- Shares of what is there. -/
theorem share_in{l:List Int}(ha:Amts l)(h8:l.length≤8){m:Int}(h0:0≤m)(h1:m≤l.sum){i:Nat}{x w:Int}(hx:(shareL m l)[i]?=some x)(hw:l[i]?=some w):0≤x∧x≤w:=by
 unfold shareL at hx
 rw[sumF_0 ha (by omega)]at hx
 have hs:=ha.sum
 by_cases hp:0<l.sum
 ·rw[shareF_0 h0 (by omega) hp ha h8]at hx
  have:=shareX_get h0 h1 hp ha hx hw
  exact⟨this.1,this.2.1⟩
 ·rw[shareF_zero hp]at hx
  have:x=0:=by
   rw[List.getElem?_replicate]at hx
   split at hx
   ·cases hx;rfl
   ·cases hx
  have:=ha w (List.mem_of_getElem? hw)
  omega
theorem posI_of{w:Int}:posI w=if 0<w then w else 0:=by unfold posI;rfl
theorem negI_of{w:Int}(h: -100000000≤w∧w≤100000000):negI w=if w<0 then -w else 0:=by
 unfold negI posI
 rw[wrap_of (by omega) (by omega)]
 split<;>split<;>omega
/-- Between nothing and a want. -/
def Btw(w f:Int):Prop:=(0≤w→0≤f∧f≤w)∧(w≤0→w≤f∧f≤0)
theorem sub_in{l P N:List Int}(hP:P.length=l.length)(hN:N.length=l.length)(hl:∀w∈l,-100000000≤w∧w≤100000000)
 (h1:∀{i:Nat} {x w:Int},P[i]?=some x→l[i]?=some w→0≤x∧x≤posI w) (h2:∀{i:Nat} {x w:Int},N[i]?=some x→l[i]?=some w→0≤x∧x≤negI w) (i:Nat):
 Btw (gI l i) (gI (List.zipWith subW P N) i):=by
 unfold gI
 rw[Int.toNat_natCast,List.getElem?_zipWith]
 by_cases hi:i<l.length
 ·obtain⟨w,hw⟩:∃w,l[i]?=some w:=⟨_,List.getElem?_eq_getElem hi⟩
  obtain⟨x,hx⟩:∃x,P[i]?=some x:=⟨_,List.getElem?_eq_getElem (by omega)⟩
  obtain⟨y,hy⟩:∃y,N[i]?=some y:=⟨_,List.getElem?_eq_getElem (by omega)⟩
  have a:=h1 hx hw
  have b:=h2 hy hw
  have c:=hl w (List.mem_of_getElem? hw)
  rw[posI_of]at a
  rw[negI_of c]at b
  simp only[hw,hx,hy,Option.getD_some]
  unfold subW Btw
  rw[wrap_of (by split at a<;>split at b<;>omega) (by split at a<;>split at b<;>omega)]
  split at a<;>split at b<;>omega
 ·rw[List.getElem?_eq_none (by omega),List.getElem?_eq_none (by omega)]
  simp[Btw]
theorem amt_pos{l:List Int}(hl:∀w∈l,-100000000≤w∧w≤100000000):Amts (l.map posI):=fun w hw=>by
 obtain⟨x,hx,rfl⟩:=List.mem_map.1 hw
 have:=hl x hx
 rw[posI_of];split<;>omega
theorem amt_neg{l:List Int}(hl:∀w∈l,-100000000≤w∧w≤100000000):Amts (l.map negI):=fun w hw=>by
 obtain⟨x,hx,rfl⟩:=List.mem_map.1 hw
 have:=hl x hx
 rw[negI_of this];split<;>omega
theorem get_map{f:Int→Int}{l:List Int}{i:Nat}{y w:Int}(h:(l.map f)[i]?=some y)(hw:l[i]?=some w):y=f w:=by
 rw[List.getElem?_map,hw]at h;simpa using h.symm
/-- What is granted of a want. -/
theorem grant_in{cs:List BCon}{l:List Int}(hl:∀w∈l,-100000000≤w∧w≤100000000)(hc:l.length=cs.length)(h8:l.length≤8){a b:Int}(ha:0≤a∧a≤800000000)(hb:0≤b∧b≤800000000)(i:Nat):
 Btw (gI l i) (gI (grantAll grantR cs l a b) i):=by
 have c1:=cuts (cs:=cs) (l:=l.map posI) (m:=a) (by simpa using hc) (by simpa using h8) (amt_pos hl) ha.1 ha.2
 have c2:=cuts (cs:=cs) (l:=l.map negI) (m:=b) (by simpa using hc) (by simpa using h8) (amt_neg hl) hb.1 hb.2
 refine sub_in (by rw[c1.len];simp) (by rw[c2.len];simp) hl (fun hx hw=>?_) (fun hx hw=>?_) i
 ·obtain⟨y,hy⟩:∃y,(l.map posI)[_]?=some y:=⟨_,by rw[List.getElem?_map,hw];rfl⟩
  have:=c1.ins hx hy
  rwa[get_map hy hw]at this
 ·obtain⟨y,hy⟩:∃y,(l.map negI)[_]?=some y:=⟨_,by rw[List.getElem?_map,hw];rfl⟩
  have:=c2.ins hx hy
  rwa[get_map hy hw]at this
/-- What flows of what is granted. -/
theorem flow_in{A:List Int}(hl:∀w∈A,-100000000≤w∧w≤100000000)(h8:A.length≤8){z:BHour}(h1:0≤z.flowIn)(h2:0≤z.flowOut)(i:Nat):Btw (gI A i) (gI (RF z A) i):=by
 have p:=amt_pos hl
 have q:=amt_neg hl
 have sp:=sumF_0 p (by simp;omega)
 have sq:=sumF_0 q (by simp;omega)
 have bp:=p.sum
 have bq:=q.sum
 refine sub_in (by unfold shareL;rw[shareF_len];simp) (by unfold shareL;rw[shareF_len];simp) hl (fun hx hw=>?_) (fun hx hw=>?_) i
 ·obtain⟨y,hy⟩:∃y,(A.map posI)[_]?=some y:=⟨_,by rw[List.getElem?_map,hw];rfl⟩
  have:=share_in p (by simpa using h8) (by unfold mn;split<;>omega) (by unfold mn;split<;>omega) hx hy
  rwa[get_map hy hw]at this
 ·obtain⟨y,hy⟩:∃y,(A.map negI)[_]?=some y:=⟨_,by rw[List.getElem?_map,hw];rfl⟩
  have:=share_in q (by simpa using h8) (by unfold mn;split<;>omega) (by unfold mn;split<;>omega) hx hy
  rwa[get_map hy hw]at this
theorem own_eq{A:List Int}(hl:∀w∈A,-100000000≤w∧w≤100000000)(h8:A.length≤8){z:BHour}(h1:0≤z.flowIn∧z.flowIn≤800000000)(h2:0≤z.flowOut∧z.flowOut≤800000000){own:Int}(ho: -4000000000000000000≤own∧own≤4000000000000000000):
 ownL A z own=ROwn z A own∧ROwn z A own=own+(z.flowIn-mn z.flowIn (A.map posI).sum)-(z.flowOut-mn z.flowOut (A.map negI).sum)∧(0≤mn z.flowIn (A.map posI).sum∧mn z.flowIn (A.map posI).sum≤z.flowIn)∧(0≤mn z.flowOut (A.map negI).sum∧mn z.flowOut (A.map negI).sum≤z.flowOut):=by
 have p:=amt_pos hl
 have q:=amt_neg hl
 have sp:=sumF_0 p (by simp;omega)
 have sq:=sumF_0 q (by simp;omega)
 have bp:=p.sum
 have bq:=q.sum
 have m1:0≤mn z.flowIn (A.map posI).sum∧mn z.flowIn (A.map posI).sum≤z.flowIn:=by unfold mn;split<;>omega
 have m2:0≤mn z.flowOut (A.map negI).sum∧mn z.flowOut (A.map negI).sum≤z.flowOut:=by unfold mn;split<;>omega
 have e:ROwn z A own=own+(z.flowIn-mn z.flowIn (A.map posI).sum)-(z.flowOut-mn z.flowOut (A.map negI).sum):=by
  unfold ROwn
  rw[sp,sq]
  rw[wrap_of (n:=own+z.flowIn) (by omega) (by omega),wrap_of (n:=own+z.flowIn-_) (by omega) (by omega),wrap_of (n:=own+z.flowIn-_-z.flowOut) (by omega) (by omega),wrap_of (by omega) (by omega)]
  omega
 refine⟨?_,e,m1,m2⟩
 rw[e]
 unfold ownL flowI flowO
 rw[show min2=mn from rfl,sp,sq]
 rw[wrap_of (n:=z.flowIn-_) (by omega) (by omega),wrap_of (n:=z.flowOut-_) (by omega) (by omega),wrap_of (n:=z.flowIn-_-_) (by omega) (by omega),wrap_of (by omega) (by omega)]
 omega
/-- Fuel of a flow. -/
theorem fuel_in{s:BStore}(hf:0≤s.fuel∧s.fuel≤1000){f:Int}(h: -100000000≤f∧f≤100000000):fuelR s f=fuelOf s.fuel f∧0≤fuelR s f∧fuelR s f≤comeR f∧(0≤comeR f∧comeR f≤100000000∧0≤goneR f∧goneR f≤100000000∧comeR f-goneR f=f):=by
 have g:goneR f=mxx 0 (0-f):=by unfold goneR;rw[wrap_of (by omega) (by omega)]
 have c0:0≤comeR f∧comeR f≤100000000∧0≤goneR f∧goneR f≤100000000∧comeR f-goneR f=f:=by
  rw[g];unfold comeR mxx;split<;>split<;>omega
 have m:=mul_le c0.1 c0.2.1 hf.1 hf.2
 have e:fuelR s f=comeR f*s.fuel / 1000:=by
  unfold fuelR
  rw[wrap_of (n:=comeR f*s.fuel) (by omega) (by omega),Int.tdiv_eq_ediv_of_nonneg m.1,wrap_of (by omega) (by omega)]
 refine⟨rfl,by rw[e];omega,?_,c0⟩
 rw[e]
 have:comeR f*s.fuel≤comeR f*1000:=Int.mul_le_mul_of_nonneg_left hf.2 c0.1
 omega
theorem gas1_eq{s:BStore}(hf:0≤s.fuel∧s.fuel≤1000){f g:Int}(h: -100000000≤f∧f≤100000000)(hg:0≤g∧g≤100000000):IntKind.i64.wrap (g+IntKind.i64.wrap (f-fuelOf s.fuel f))=gasR s f g∧gasR s f g=g+f-fuelR s f:=by
 obtain⟨e,a,b,c⟩:=fuel_in hf h
 rw[←e]
 have r:gasR s f g=g+f-fuelR s f:=by
  unfold gasR
  rw[wrap_of (n:=g+comeR f) (by omega) (by omega),wrap_of (n:=g+comeR f-_) (by omega) (by omega),wrap_of (by omega) (by omega)]
  omega
 rw[r,wrap_of (n:=f-fuelR s f) (by omega) (by omega),wrap_of (by omega) (by omega)]
 exact⟨by omega,rfl⟩
theorem gas_eq{s:BStore}(hf:0≤s.fuel∧s.fuel≤1000)(hr:Int)(W A:List Int):∀(F:List Int) (i:Nat) (G:List Int) (fu:Int) (L:List Int),(∀x∈F,-100000000≤x∧x≤100000000)→(∀j:Nat,i≤j→j<i+F.length→0≤gI G j∧gI G j≤100000000)→
 (endF s hr W A F i (G,fu,L)).1=(gasF s.fuel F i (G,fu)).1∧(endF s hr W A F i (G,fu,L)).2.1=(gasF s.fuel F i (G,fu)).2
 | [],_,_,_,_,_,_=>⟨rfl,rfl⟩
 |f::F,i,G,fu,L,hF,hG=>by
  have e:=(gas1_eq hf (hF f (List.mem_cons_self ..)) (hG i (Nat.le_refl _) (by simp))).1
  simp only[endF,gasF]
  rw[e]
  refine gas_eq hf hr W A F (i+1) _ _ _ (fun x hx=>hF x (List.mem_cons_of_mem _ hx)) (fun j h1 h2=>?_)
  rw[gI_sI]
  rw[if_neg (by simp only[Int.toNat_natCast];omega)]
  exact hG j (by omega) (by simp only[List.length_cons];omega)
def absI(k:Int):Int:=mxx k (0-k)
theorem bill1_eq{c:BCon}(h:conB c=true){f w a b:Int}(hf: -100000000≤f∧f≤100000000)(hw: -100000000≤w∧w≤100000000)(ha: -100000000≤a∧a≤100000000)(hb: -4000000000000000000≤b∧b≤4000000000000000000):
 IntKind.i64.wrap (b+chgW c f)=chgR c f b∧chgR c f b=b+(c.fixed+c.inn*comeR f+c.out*goneR f)∧cutW c (IntKind.i64.wrap (w-a))=c.cut*absI (w-a)∧(∀v,-4000000000000000000≤v→v≤4000000000010000000+4000000000000→cutR c w a v=v-c.cut*absI (w-a))∧(0≤c.cut*absI (w-a)∧c.cut*absI (w-a)≤2000000000000)∧(0≤c.fixed+c.inn*comeR f+c.out*goneR f∧c.fixed+c.inn*comeR f+c.out*goneR f≤2000000010000):=by
 obtain⟨_,h1,h2,h3,h4⟩:=lack_in h
 have g:goneR f=mxx 0 (0-f):=by unfold goneR;rw[wrap_of (by omega) (by omega)]
 have c0:0≤comeR f∧comeR f≤100000000∧0≤goneR f∧goneR f≤100000000:=by
  rw[g];unfold comeR mxx;split<;>split<;>omega
 have m1:=mul_le h2.1 h2.2 c0.1 c0.2.1
 have m2:=mul_le h3.1 h3.2 c0.2.2.1 c0.2.2.2
 have k0:0≤absI (w-a)∧absI (w-a)≤200000000:=by unfold absI mxx;split<;>omega
 have m3:=mul_le h1.1 h1.2 k0.1 k0.2
 have e1:chgR c f b=b+(c.fixed+c.inn*comeR f+c.out*goneR f):=by
  unfold chgR
  rw[wrap_of (n:=c.inn*comeR f) (by omega) (by omega),wrap_of (n:=c.out*goneR f) (by omega) (by omega),wrap_of (n:=b+c.fixed) (by omega) (by omega),wrap_of (n:=b+c.fixed+_) (by omega) (by omega),wrap_of (by omega) (by omega)]
  omega
 have e2:chgW c f=c.fixed+c.inn*comeR f+c.out*goneR f:=by
  unfold chgW
  rw[show mxx 0 f=comeR f from rfl,show mxx 0 (IntKind.i64.wrap (0-f))=goneR f from rfl]
  rw[wrap_of (n:=c.inn*comeR f) (by omega) (by omega),wrap_of (n:=c.out*goneR f) (by omega) (by omega),wrap_of (n:=c.fixed+_) (by omega) (by omega),wrap_of (by omega) (by omega)]
 have wa:IntKind.i64.wrap (w-a)=w-a:=wrap_of (by omega) (by omega)
 have aw:IntKind.i64.wrap (a-w)=a-w:=wrap_of (by omega) (by omega)
 refine⟨by rw[e2,e1,wrap_of (by omega) (by omega)],e1,?_,?_,by omega,by omega⟩
 ·unfold cutW
  rw[wa,wrap_of (n:=0-(w-a)) (by omega) (by omega),show mxx (w-a) (0-(w-a))=absI (w-a)from rfl,wrap_of (by omega) (by omega)]
 ·intro v v1 v2
  unfold cutR
  rw[wa,aw,show mxx (w-a) (a-w)=absI (w-a) by unfold absI;rw[show 0-(w-a)=a-w by omega],wrap_of (n:=c.cut*absI (w-a)) (by omega) (by omega),wrap_of (by omega) (by omega)]
theorem sI_sI(l:List Int)(i:Int)(v w:Int):sI (sI l i v) i w=sI l i w:=by unfold sI;rw[List.set_set]
/-- A contract's bill behind an hour. -/
def bill1(c:BCon)(hr f w a b:Int):Int:=b+(if inB hr c.lo c.hi=true then c.fixed+c.inn*comeR f+c.out*goneR f else 0)-(if c.firm=true then c.cut*absI (w-a)else 0)
theorem billS_eq{c:BCon}(h:conB c=true){hr:Int}{F W A L:List Int}{i:Nat}(hi:i<L.length)(hf: -100000000≤gI F i∧gI F i≤100000000)(hw: -100000000≤gI W i∧gI W i≤100000000)(ha: -100000000≤gI A i∧gI A i≤100000000)(hb: -3000000000000000000≤gI L i∧gI L i≤3000000000000000000)
 (h0:inB hr c.lo c.hi=false→gI W i=0∧gI A i=0):billS hr F W A i c L=sI L i (bill1 c hr (gI F i) (gI W i) (gI A i) (gI L i))∧billR c hr (gI F i) (gI W i) (gI A i) (gI L i)=bill1 c hr (gI F i) (gI W i) (gI A i) (gI L i):=by
 obtain⟨e1,e2,e3,e4,m1,m2⟩:=bill1_eq h hf hw ha (b:=gI L i) ⟨by omega,by omega⟩
 unfold billS billR bill1
 have gi:∀v,gI (sI L i v) i=v:=fun v=>by rw[gI_sI,if_pos ⟨rfl,by simpa using hi⟩]
 cases hact:inB hr c.lo c.hi with
 |true=>
  cases hfirm:c.firm with
  |true=>
   simp only[if_true]
   rw[gi,e1,e2,sI_sI,e3,e4 _ (by omega) (by omega),wrap_of (by omega) (by omega)]
   exact⟨rfl,rfl⟩
  |false=>
   simp only[if_true,Bool.false_eq_true,if_false]
   rw[e1,e2,Int.sub_zero]
   exact⟨rfl,rfl⟩
 |false=>
  obtain⟨z1,z2⟩:=h0 hact
  have z3:c.cut*absI (gI W i-gI A i)=0:=by rw[z1,z2];simp[absI,mxx]
  have s0:sI L i (gI L i)=L:=sI_same ⟨by omega,by omega⟩
  cases hfirm:c.firm with
  |true=>
   simp only[if_true,Bool.false_eq_true,if_false]
   rw[z3,e4 _ (by omega) (by omega),z3,Int.add_zero,Int.sub_zero,s0]
   exact⟨rfl,rfl⟩
  |false=>
   simp only[Bool.false_eq_true,if_false]
   rw[Int.add_zero,Int.sub_zero,s0]
   exact⟨rfl,rfl⟩
theorem drop_cons{α:Type}{l rest:List α}{x:α}{i:Nat}(h:l.drop i=x::rest):l[i]?=some x∧l.drop (i+1)=rest:=by
 have h1:=congrArg (·[0]?) h
 have h2:=congrArg List.tail h
 simp only[List.getElem?_drop,Nat.add_zero,List.getElem?_cons_zero,List.tail_drop,List.tail_cons]at h1 h2
 exact⟨h1,h2⟩
theorem bills_eq{s:BStore}(hcs:∀c∈s.cons,conB c=true){hr:Int}{F W A:List Int}(hF:F.length=s.cons.length)(hf:∀i:Nat,-100000000≤gI F i∧gI F i≤100000000)(hw:∀i:Nat,-100000000≤gI W i∧gI W i≤100000000)(ha:∀i:Nat,-100000000≤gI A i∧gI A i≤100000000)
 (h0:∀(i:Nat) c,s.cons[i]?=some c→inB hr c.lo c.hi=false→gI W i=0∧gI A i=0):∀(rest:List Int) (l:List BCon) (i:Nat) (G:List Int) (fu:Int) (L:List Int),F.drop i=rest→s.cons.drop i=l→L.length=s.cons.length→(∀j:Nat,i≤j→ -3000000000000000000≤gI L j∧gI L j≤3000000000000000000)→
 (endF s hr W A rest i (G,fu,L)).2.2=actF (billS hr F W A) l i L
 | [],l,i,G,fu,L,h1,h2,_,_=>by
   have:l=[]:=by
    have:=congrArg List.length h1
    have:=congrArg List.length h2
    simp at *
    exact List.length_eq_zero_iff.1 (by omega)
   subst this
   rfl
 |f::rest,l,i,G,fu,L,h1,h2,hL,hb=>by
  obtain⟨a1,a2⟩:=drop_cons h1
  have hi:i<s.cons.length:=by have:=(List.getElem?_eq_some_iff.1 a1).1;omega
  cases l with
  |nil=>simp at h2;omega
  |cons c l=>
   obtain⟨b1,b2⟩:=drop_cons h2
   have ef:gI F i=f:=by unfold gI;rw[Int.toNat_natCast,a1];rfl
   have ec:conD s.cons i=c:=by unfold conD;rw[b1];rfl
   obtain⟨q1,q2⟩:=billS_eq (hcs c (List.mem_of_getElem? b1)) (hr:=hr) (F:=F) (W:=W) (A:=A) (L:=L) (i:=i) (by omega) (hf i) (hw i) (ha i) (hb i (Nat.le_refl _)) (h0 i c b1)
   simp only[endF,actF]
   rw[ec,←ef,q2,q1]
   refine bills_eq hcs hF hf hw ha h0 rest l (i+1) _ _ _ a2 b2 (by rw[sI_length];exact hL) (fun j hj=>?_)
   rw[gI_sI,if_neg (by simp only[Int.toNat_natCast];omega)]
   exact hb j (by omega)
/-- A state of a store, not far from its beginning. -/
structure StI(s:BStore)(own:Int)(G L:List Int)(O:List BTrade)(B:Int):Prop where
 g:GOK s.cons G
 l:L.length=s.cons.length
 lok:LOK B L
 own: -B≤own∧own≤B
 owed:∀t∈O,TOK s.cons.length t
 olen:O.length≤50
theorem stI{s:BStore}(h1:storeB s=true){y:BState}(h2:stateB s y=true):StI s y.own y.gas y.bills y.owed 1000000000000000:=by
 have S:=storeOK h1
 have hl:=S.len
 simp only[stateB,preB,inB,Bool.and_eq_true,decide_eq_true_eq,List.all_eq_true]at h2
 obtain⟨⟨⟨⟨⟨⟨⟨p1,p2⟩,p3⟩,p4⟩,p5⟩,p6⟩,p8⟩,p7⟩:=h2
 have rng:∀(l:List BCon) (i:Nat),rngF y.gas y.bills l i=true→∀(j:Nat) c,l[j]?=some c→(0≤gI y.gas ((i+j:Nat):Int)∧gI y.gas ((i+j:Nat):Int)≤c.space)∧(-1000000000000000≤gI y.bills ((i+j:Nat):Int)∧gI y.bills ((i+j:Nat):Int)≤1000000000000000):=by
  intro l
  induction l with
  |nil=>intro i _ j c hj;simp at hj
  |cons c l ih=>
   intro i h j c' hj
   simp only[rngF,inB,Bool.and_eq_true,decide_eq_true_eq]at h
   cases j with
   |zero=>simp at hj;subst hj;exact⟨h.1.1,h.1.2⟩
   |succ j=>
    have:=ih (i+1) h.2 j c' (by simpa using hj)
    rwa[show i+1+j=i+(j+1) by omega]at this
 refine⟨⟨p1,fun i c hc=>?_⟩,p2,fun i=>?_,by omega,fun t ht=>?_,p6⟩
 ·have:=rng _ 0 p8 i c hc
  rw[Nat.zero_add]at this
  exact this.1
 ·by_cases hi:i.toNat<s.cons.length
  ·obtain⟨c,hc⟩:∃c,s.cons[i.toNat]?=some c:=⟨_,List.getElem?_eq_getElem hi⟩
   have:=rng _ 0 p8 i.toNat c hc
   rw[Nat.zero_add,gI_nat,gI_nat]at this
   exact this.2
  ·unfold gI
   rw[List.getElem?_eq_none (by omega)]
   simp
 ·have:=p7 t ht
  simp only[owedB,Bool.and_eq_true]at this
  exact tok (by omega) this.1.1
structure HourEq(s:BStore)(d:BDay)(hr own fuel:Int)(z:BHour)(G L:List Int)(O:List BTrade)(B:Int):Prop where
 rg:RG s hr G L O=(G1 s hr G L O,L1 s hr G L O,O1 s hr G L O)
 g1:GOK s.cons (G1 s hr G L O)
 l1:(L1 s hr G L O).length=s.cons.length∧LOK (B+50000000000000) (L1 s hr G L O)
 rt:RT s d hr G L O=T2 s d hr G L O
 g2:GOK s.cons (T2 s d hr G L O).1
 rw:RW s d hr G L O=W3 s d hr G L O
 w3:∀(i:Nat) c,s.cons[i]?=some c→ -(gI (T2 s d hr G L O).1 i)≤gI (W3 s d hr G L O) i∧gI (W3 s d hr G L O) i≤c.space-gI (T2 s d hr G L O).1 i
 w0:∀(i:Nat) c,s.cons[i]?=some c→inB hr c.lo c.hi=false→gI (W3 s d hr G L O) i=0
 ra:RA s d hr z G L O=A4 s d hr z G L O
 a4:∀i:Nat,Btw (gI (W3 s d hr G L O) i) (gI (A4 s d hr z G L O) i)
 f5:∀i:Nat,Btw (gI (A4 s d hr z G L O) i) (gI (F5 s d hr z G L O) i)
 own:ROwn z (A4 s d hr z G L O) own=own5 s d hr z G L O own
 fin:endF s hr (W3 s d hr G L O) (A4 s d hr z G L O) (F5 s d hr z G L O) 0 ((T2 s d hr G L O).1,fuel,L1 s hr G L O)=((G6 s d hr z G L O fuel).1,(G6 s d hr z G L O fuel).2,L7 s d hr z G L O)
theorem gI_mem{l:List Int}{P:Int→Prop}(h0:P 0)(h:∀i:Nat,P (gI l i)):∀w∈l,P w:=fun w hw=>by
 obtain⟨i,hi,rfl⟩:=List.getElem_of_mem hw
 have:=h i
 unfold gI at this
 rw[Int.toNat_natCast,List.getElem?_eq_getElem hi]at this
 exact this
theorem gI_out{l:List Int}{i:Nat}(h:l.length≤i):gI l i=0:=by unfold gI;rw[Int.toNat_natCast,List.getElem?_eq_none h];rfl
theorem wantsRF_get{s:BStore}{d:BDay}{hr:Int}{G:List Int}:∀(l:List BCon) (i j:Nat) c,l[j]?=some c→(wantsRF s d hr G l i)[j]?=some (wantRS s d hr G (i+j) c)
 | [],_,j,c,h=>by simp at h
 |x::l,i,0,c,h=>by simp at h;subst h;rfl
 |x::l,i,j+1,c,h=>by
  have:=wantsRF_get (s:=s) (d:=d) (hr:=hr) (G:=G) l (i+1) j c (by simpa using h)
  simp only[wantsRF,List.getElem?_cons_succ]
  rw[this,show i+1+j=i+(j+1) by omega]
theorem hourEq{s:BStore}(h1:storeB s=true){d:BDay}(h3:dayB s.cons.length d=true){hr own fuel:Int}{z:BHour}{G L:List Int}{O:List BTrade}{B:Int}(hB:0≤B∧B≤2000000000000000000)(I:StI s own G L O B)(hz:d.hours[hr.toNat]?=some z):HourEq s d hr own fuel z G L O B:=by
 have S:=storeOK h1
 have hcs:∀c∈s.cons,conB c=true:=List.all_eq_true.1 (storeB_con h1)
 have hl:=S.len
 simp only[dayB,Bool.and_eq_true,decide_eq_true_eq]at h3
 obtain⟨⟨⟨⟨⟨d1,d2⟩,d3⟩,d4⟩,d5⟩,d6⟩:=h3
 have hT:∀t∈d.trades,TOK s.cons.length t:=fun t ht=>tok (by omega) (List.all_eq_true.1 d6 t ht)
 have hzb:=List.all_eq_true.1 d4 z (List.mem_of_getElem? hz)
 simp only[hourB,inB,Bool.and_eq_true,decide_eq_true_eq]at hzb
 obtain⟨⟨⟨z1,z2⟩,z3⟩,z4⟩:=hzb
 have ol:=I.olen
 obtain⟨q1,q2,q3,q4⟩:=loans_eq hcs hr I.owed [] I.g (B:=B) hB.1 (by omega) I.l I.lok
 have rg:RG s hr G L O=(G1 s hr G L O,L1 s hr G L O,O1 s hr G L O):=q1
 have rt:RT s d hr G L O=T2 s d hr G L O:=by
  unfold RT T2;rw[rg]
 have g2:GOK s.cons (T2 s d hr G L O).1:=trades_ok hcs hr hT 0 _ _ q2
 have hW:=wants_list (s:=s) (hr:=hr) d5 s.cons 0 [] rfl hcs (fun j c hj=>by rw[Nat.zero_add];exact g2.inn j c hj)
 rw[List.nil_append,List.nil_append]at hW
 have rw_:RW s d hr G L O=W3 s d hr G L O:=by
  unfold RW W3;rw[rt];exact hW.symm
 have wl:(W3 s d hr G L O).length=s.cons.length:=by rw[←rw_];unfold RW;rw[wantsRF_length]
 have wget:∀(i:Nat) c,s.cons[i]?=some c→gI (W3 s d hr G L O) i=wantRS s d hr (T2 s d hr G L O).1 i c:=fun i c hc=>by
  have:=wantsRF_get (s:=s) (d:=d) (hr:=hr) (G:=(T2 s d hr G L O).1) s.cons 0 i c hc
  rw[←rw_];unfold RW gI
  rw[rt,Int.toNat_natCast,this,Nat.zero_add];rfl
 have w3:∀(i:Nat) c,s.cons[i]?=some c→ -(gI (T2 s d hr G L O).1 i)≤gI (W3 s d hr G L O) i∧gI (W3 s d hr G L O) i≤c.space-gI (T2 s d hr G L O).1 i:=fun i c hc=>by
  have gi:=g2.inn i c hc
  rw[wget i c hc]
  unfold wantRS
  split
  ·exact(want_eq (hcs c (List.mem_of_getElem? hc)) (nomAmt_in d5 _) gi.1 gi.2).2
  ·omega
 have w0:∀(i:Nat) c,s.cons[i]?=some c→inB hr c.lo c.hi=false→gI (W3 s d hr G L O) i=0:=fun i c hc ha=>by
  rw[wget i c hc];unfold wantRS;rw[ha];simp
 have wb:∀i:Nat,-100000000≤gI (W3 s d hr G L O) i∧gI (W3 s d hr G L O) i≤100000000:=fun i=>by
  by_cases hi:i<s.cons.length
  ·have hc:s.cons[i]?=some s.cons[i]:=List.getElem?_eq_getElem hi
   have a:=w3 i _ hc
   have b:=g2.inn i _ hc
   have c:=(conOK (hcs _ (List.mem_of_getElem? hc))).space
   omega
  ·rw[gI_out (by omega)];omega
 have wm:∀w∈W3 s d hr G L O,-100000000≤w∧w≤100000000:=gI_mem (P:=fun w=> -100000000≤w∧w≤100000000) (by omega) wb
 have ra:RA s d hr z G L O=A4 s d hr z G L O:=by
  unfold RA A4
  rw[rw_]
  refine(grantAll_eq ?_ _ _).symm
  simp only[wantsB,List.all_eq_true,inB,Bool.and_eq_true,decide_eq_true_eq]
  exact wm
 have a4:∀i:Nat,Btw (gI (W3 s d hr G L O) i) (gI (A4 s d hr z G L O) i):=fun i=>by
  rw[←ra];unfold RA;rw[rw_]
  exact grant_in wm wl (by omega) z1 z2 i
 have al:(A4 s d hr z G L O).length=s.cons.length:=by
  rw[←ra];unfold RA;rw[rw_];simp[grantAll,grantR_length,wl]
 have ab:∀i:Nat,-100000000≤gI (A4 s d hr z G L O) i∧gI (A4 s d hr z G L O) i≤100000000:=fun i=>by
  have a:=a4 i
  have b:=wb i
  unfold Btw at a
  by_cases hp:0≤gI (W3 s d hr G L O) i
  ·have:=a.1 hp;omega
  ·have:=a.2 (by omega);omega
 have am:=gI_mem (P:=fun w=> -100000000≤w∧w≤100000000) (by omega) ab
 have f5:∀i:Nat,Btw (gI (A4 s d hr z G L O) i) (gI (F5 s d hr z G L O) i):=fun i=>flow_in am (by omega) z3.1 z4.1 i
 have fb:∀i:Nat,-100000000≤gI (F5 s d hr z G L O) i∧gI (F5 s d hr z G L O) i≤100000000:=fun i=>by
  have a:=f5 i
  have b:=ab i
  unfold Btw at a
  by_cases hp:0≤gI (A4 s d hr z G L O) i
  ·have:=a.1 hp;omega
  ·have:=a.2 (by omega);omega
 have fm:=gI_mem (P:=fun w=> -100000000≤w∧w≤100000000) (by omega) fb
 have fl:(F5 s d hr z G L O).length=s.cons.length:=by
  show(RF z (A4 s d hr z G L O)).length=_
  simp[RF,shareL,shareF_len,al]
 have a0:∀(i:Nat) c,s.cons[i]?=some c→inB hr c.lo c.hi=false→gI (W3 s d hr G L O) i=0∧gI (A4 s d hr z G L O) i=0:=fun i c hc ha=>by
  have w:=w0 i c hc ha
  have a:=a4 i
  rw[w]at a
  have:=a.1 (by omega)
  exact⟨w,by omega⟩
 have own:=(own_eq am (by omega) z3 z4 (own:=own) (by have:=I.own;omega)).1
 have l1:LOK (B+50000000000000) (L1 s hr G L O):=fun i=>by
  have:=q4 i
  have e:(L1 s hr G L O)=(loansF s.cons hr O (G,L,[])).2.1:=rfl
  rw[←e]at this
  omega
 have fin1:=gas_eq (s:=s) S.fuel hr (W3 s d hr G L O) (A4 s d hr z G L O) (F5 s d hr z G L O) 0 (T2 s d hr G L O).1 fuel (L1 s hr G L O) fm (fun j _ hj=>by
  rw[Nat.zero_add,fl]at hj
  have hc:s.cons[j]?=some s.cons[j]:=List.getElem?_eq_getElem hj
  have b:=g2.inn j _ hc
  have c:=(conOK (hcs _ (List.mem_of_getElem? hc))).space
  omega)
 have fin2:=bills_eq (s:=s) hcs (hr:=hr) fl fb wb ab a0 (F5 s d hr z G L O) s.cons 0 (T2 s d hr G L O).1 fuel (L1 s hr G L O) rfl rfl q3 (fun j _=>by have:=l1 j;omega)
 refine⟨rg,q2,⟨q3,l1⟩,rt,g2,rw_,w3,w0,ra,a4,f5,own.symm,?_⟩
 exact Prod.ext fin1.1 (Prod.ext fin1.2 fin2)
theorem tradesF_ne(cs:List BCon)(hr:Int):∀(T:List BTrade) (i:Nat) (G:List Int) (O:List BTrade) (R:List Int),O≠[]→(tradesF cs hr T i (G,O,R)).2.1≠[]
 | [],_,_,_,_,h=>h
 |t::T,i,G,O,R,h=>by
  simp only[tradesF]
  split
  ·split
   ·exact tradesF_ne cs hr T _ _ _ _ h
   ·refine tradesF_ne cs hr T _ _ _ _ ?_
    split
    ·exact h
    ·simp
  ·exact tradesF_ne cs hr T _ _ _ _ h
theorem r_StepV{s:BStore}(h1:storeB s=true){d:BDay}(h3:dayB s.cons.length d=true){hr own fuel:Int}{z:BHour}{nG nL nO:Bool}{G L:List Int}{O:List BTrade}{B:Int}(hB:0≤B∧B≤2000000000000000000)(I:StI s own G L O B)(K:HourOK s d hr z O):
 ClQ om' 42 [.agg s.cells,.agg [.int .i64 hr,slv 1 true nG (G.map iv),.int .i64 own,.int .i64 fuel,slv 1 true nL (L.map iv),slv 5 true nO (O.map BTrade.cells)],.agg d.cells] []
  (StepQ s.cons.length (IntKind.i64.wrap (hr+1)) (own5 s d hr z G L O own) (G6 s d hr z G L O fuel).2 (G6 s d hr z G L O fuel).1 (L7 s d hr z G L O) (T2 s d hr G L O).2.1 (T2 s d hr G L O).2.2 (W3 s d hr G L O) (A4 s d hr z G L O) (F5 s d hr z G L O)):=by
 have E:=hourEq (fuel:=fuel) h1 h3 hB I K.hx
 have hcs:∀c∈s.cons,conB c=true:=List.all_eq_true.1 (storeB_con h1)
 have hlen:=K.len
 have hne:=K.ne
 have hl8:=(storeOK h1).len
 have hT:∀t∈d.trades,t.ok s.cons.length∧t.frm≠t.to∧(t.back= -1∨0≤t.back):=fun t ht=>by
  simp only[dayB,Bool.and_eq_true]at h3
  have T:=tok (by omega) (List.all_eq_true.1 h3.2 t ht)
  exact⟨T.ok,T.ne,T.back⟩
 have q1:(G1 s hr G L O).length=s.cons.length:=E.g1.len
 have q2:(L1 s hr G L O).length=s.cons.length:=E.l1.1
 have q3:(T2 s d hr G L O).1.length=s.cons.length:=E.g2.len
 have q4:(W3 s d hr G L O).length=s.cons.length:=by rw[←E.rw];unfold RW;rw[wantsRF_length]
 have n4:W3 s d hr G L O≠[]:=fun e=>hne (List.length_eq_zero_iff.1 (by rw[←q4,e];rfl))
 have q5:(A4 s d hr z G L O).length=s.cons.length:=by rw[←E.ra];unfold RA;rw[E.rw];simp[grantAll,grantR_length,q4]
 have oll:(O1 s hr G L O).length≤1000:=by
  have:=List.length_filter_le (fun t:BTrade=>decide (t.back≠hr)) O
  have:=I.olen
  unfold O1
  rw[loansF_left,List.nil_append]
  omega
 have fill:∀(i:Nat) c,s.cons[i]?=some c→(rate0 c).fill≤quoW c (gI (T2 s d hr G L O).1 i):=fun i c hc=>by
  have a:=E.g2.inn i c hc
  rw[(rateG_in (hcs c (List.mem_of_getElem? hc)) 0).2.2]
  exact quo_nn (hcs c (List.mem_of_getElem? hc)) a.1 a.2
 have g1:=fun(nO':Bool)=>r_Wants (d:=d) (hr:=hr) (own:=own) (fuel:=fuel) (nG:=true) (nL:=true) (nO:=nO') (G:=(T2 s d hr G L O).1) (L:=L1 s hr G L O) (O:=(T2 s d hr G L O).2.1) hlen hne K.noms q3 K.con fill
 have rwe:wantsRF s d hr (T2 s d hr G L O).1 s.cons 0=W3 s d hr G L O:=by have:=E.rw;unfold RW at this;rwa[E.rt]at this
 have rae:grantAll grantR s.cons (W3 s d hr G L O) z.inn z.out=A4 s d hr z G L O:=by have:=E.ra;unfold RA at this;rwa[E.rw]at this
 have g2:=r_Grant (s:=s) (l:=W3 s d hr G L O) (nn:=true) (most:=z.inn) (least:=z.out) q4 (by omega) n4
 rw[rwe]at g1
 rw[rae,slv_true,q4]at g2
 simp only[slv_true]at g1
 have ef:endF s hr (W3 s d hr G L O) (A4 s d hr z G L O) (RF z (A4 s d hr z G L O)) 0 ((T2 s d hr G L O).1,fuel,L1 s hr G L O)=((G6 s d hr z G L O fuel).1,(G6 s d hr z G L O fuel).2,L7 s d hr z G L O):=E.fin
 have r1:retF s.cons hr O (G,L,[])=(G1 s hr G L O,L1 s hr G L O,O1 s hr G L O):=E.rg
 have hret:ClQ om' 75 [.agg s.cells,.agg [.int .i64 hr,slv 1 true nG (G.map iv),.int .i64 own,.int .i64 fuel,slv 1 true nL (L.map iv),slv 5 true nO (O.map BTrade.cells)]] [] (RetQ s.cons.length hr own fuel (retF s.cons hr O (G,L,[])).1 (retF s.cons hr O (G,L,[])).2.1 (retF s.cons hr O (G,L,[])).2.2):=by
  by_cases hO:O=[]
  ·exact r_returnedN hlen hne I.g.len I.l K.owed K.ow hO
  ·exact r_returnedB hlen hne I.g.len I.l K.owed K.ow hO
 rw[r1]at hret
 obtain⟨o1,h1',e1,v1,v2,hr1⟩:=hret
 suffices k:ClQ om' 42 [.agg s.cells,.agg [.int .i64 hr,slv 1 true nG (G.map iv),.int .i64 own,.int .i64 fuel,slv 1 true nL (L.map iv),slv 5 true nO (O.map BTrade.cells)],.agg d.cells] []
  (StepQ s.cons.length (IntKind.i64.wrap (hr+1)) (ROwn z (A4 s d hr z G L O) own) (endF s hr (W3 s d hr G L O) (A4 s d hr z G L O) (RF z (A4 s d hr z G L O)) 0 ((T2 s d hr G L O).1,fuel,L1 s hr G L O)).2.1 (endF s hr (W3 s d hr G L O) (A4 s d hr z G L O) (RF z (A4 s d hr z G L O)) 0 ((T2 s d hr G L O).1,fuel,L1 s hr G L O)).1 (endF s hr (W3 s d hr G L O) (A4 s d hr z G L O) (RF z (A4 s d hr z G L O)) 0 ((T2 s d hr G L O).1,fuel,L1 s hr G L O)).2.2 (T2 s d hr G L O).2.1 (T2 s d hr G L O).2.2 (W3 s d hr G L O) (A4 s d hr z G L O) (RF z (A4 s d hr z G L O))) by
  rw[ef,E.own]at k
  exact k
 have tE:tradesF s.cons hr d.trades 0 (G1 s hr G L O,O1 s hr G L O,[])=T2 s d hr G L O:=rfl
 have e3n:(T2 s d hr G L O).2.1=[]→_:=fun hO2=>by
  have e3:=g1 false
  rw[hO2,List.map_nil,slv_nil]at e3
  exact e3
 have e3b:=g1 true
 rw[slv_true]at e3b
 rcases hr1 with⟨hp1,rfl,rfl⟩|⟨hp1,rfl,rfl⟩
 ·replace hp1:O1 s hr G L O=[]:=hp1
  dsimp only at e1
  obtain⟨o2,h2,e2,u1,u2,u3,u4,hr2⟩:=r_tradedN (d:=d) (hr:=hr) (own:=own) (fuel:=fuel) (nG:=true) (nL:=true) (nO:=false) (G:=G1 s hr G L O) (L:=L1 s hr G L O) (O:=O1 s hr G L O) hlen hne q1 q2 oll K.trl hT hp1
  rw[tE]at hr2
  rw[hp1,List.map_nil,slv_nil,slv_true,slv_true]at e2
  rcases hr2 with⟨hO2,hR2,rfl,rfl⟩|⟨hO2,hR2,rfl,rfl⟩|⟨hO2,hR2,rfl,rfl⟩|⟨hO2,hR2,rfl,rfl⟩
  ·exact r_Step (O1:=O1 s hr G L O) (O2:=(T2 s d hr G L O).2.1) (R:=(T2 s d hr G L O).2.2) (u3:=u3) (u4:=u4) (ob2:=[]) (rb:=[]) hlen hne K.h0 K.hx e1 e2 (e3n hO2) g2 (.inl ⟨rfl,rfl,rfl,rfl⟩) (.inl ⟨hO2,rfl,rfl,rfl,rfl,rfl⟩) (.inl ⟨hR2,rfl,rfl,rfl,rfl⟩) q1 q3 q2 q4 q5
  ·exact r_Step (O1:=O1 s hr G L O) (O2:=(T2 s d hr G L O).2.1) (R:=(T2 s d hr G L O).2.2) (u3:=u3) (u4:=u4) (ob2:=[.live 5 true u3 ((T2 s d hr G L O).2.1.map BTrade.cells)]) (rb:=[]) hlen hne K.h0 K.hx e1 e2 e3b g2 (.inl ⟨rfl,rfl,rfl,rfl⟩) (.inr ⟨rfl,rfl,rfl,rfl,rfl⟩) (.inl ⟨hR2,rfl,rfl,rfl,rfl⟩) q1 q3 q2 q4 q5
  ·exact r_Step (O1:=O1 s hr G L O) (O2:=(T2 s d hr G L O).2.1) (R:=(T2 s d hr G L O).2.2) (u3:=u3) (u4:=u4) (ob2:=[]) (rb:=[.live 1 true u4 ((T2 s d hr G L O).2.2.map iv)]) hlen hne K.h0 K.hx e1 e2 (e3n hO2) g2 (.inl ⟨rfl,rfl,rfl,rfl⟩) (.inl ⟨hO2,rfl,rfl,rfl,rfl,rfl⟩) (.inr ⟨hR2,rfl,rfl,rfl,rfl⟩) q1 q3 q2 q4 q5
  ·exact r_Step (O1:=O1 s hr G L O) (O2:=(T2 s d hr G L O).2.1) (R:=(T2 s d hr G L O).2.2) (u3:=u3) (u4:=u4) (ob2:=[.live 5 true u3 ((T2 s d hr G L O).2.1.map BTrade.cells)]) (rb:=[.live 1 true u4 ((T2 s d hr G L O).2.2.map iv)]) hlen hne K.h0 K.hx e1 e2 e3b g2 (.inl ⟨rfl,rfl,rfl,rfl⟩) (.inr ⟨rfl,rfl,rfl,rfl,rfl⟩) (.inr ⟨hR2,rfl,rfl,rfl,rfl⟩) q1 q3 q2 q4 q5
 ·replace hp1:O1 s hr G L O≠[]:=hp1
  dsimp only at e1
  obtain⟨o2,h2,e2,u1,u2,u3,u4,hr2⟩:=r_tradedB (d:=d) (hr:=hr) (own:=own) (fuel:=fuel) (nG:=true) (nL:=true) (nO:=true) (G:=G1 s hr G L O) (L:=L1 s hr G L O) (O:=O1 s hr G L O) hlen hne q1 q2 oll K.trl hT hp1
  rw[tE]at hr2
  have hO2n:(T2 s d hr G L O).2.1≠[]:=tradesF_ne _ _ _ _ _ _ _ hp1
  simp only[slv_true]at e2
  rcases hr2 with⟨hO2,hR2,rfl,rfl⟩|⟨hO2,hR2,rfl,rfl⟩|⟨hO2,hR2,rfl,rfl⟩|⟨hO2,hR2,rfl,rfl⟩
  ·exact absurd hO2 hO2n
  ·exact r_Step (O1:=O1 s hr G L O) (O2:=(T2 s d hr G L O).2.1) (R:=(T2 s d hr G L O).2.2) (u3:=u3) (u4:=u4) (ob2:=[.live 5 true u3 ((T2 s d hr G L O).2.1.map BTrade.cells)]) (rb:=[]) hlen hne K.h0 K.hx e1 e2 e3b g2 (.inr ⟨rfl,rfl,rfl,rfl⟩) (.inr ⟨rfl,rfl,rfl,rfl,rfl⟩) (.inl ⟨hR2,rfl,rfl,rfl,rfl⟩) q1 q3 q2 q4 q5
  ·exact absurd hO2 hO2n
  ·exact r_Step (O1:=O1 s hr G L O) (O2:=(T2 s d hr G L O).2.1) (R:=(T2 s d hr G L O).2.2) (u3:=u3) (u4:=u4) (ob2:=[.live 5 true u3 ((T2 s d hr G L O).2.1.map BTrade.cells)]) (rb:=[.live 1 true u4 ((T2 s d hr G L O).2.2.map iv)]) hlen hne K.h0 K.hx e1 e2 e3b g2 (.inr ⟨rfl,rfl,rfl,rfl⟩) (.inr ⟨rfl,rfl,rfl,rfl,rfl⟩) (.inr ⟨hR2,rfl,rfl,rfl,rfl⟩) q1 q3 q2 q4 q5
end Go.Proofs.YtdbiogihimdpcaaGreatDoor
