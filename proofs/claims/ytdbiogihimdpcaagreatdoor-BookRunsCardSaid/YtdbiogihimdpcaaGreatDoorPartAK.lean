/- The functions of the layer, walked. -/
import Derived.Test.YtdbiogihimdpcaaGreatDoorPartAI
import Derived.Test.YtdbiogihimdpcaaGreatDoorPartAJ
import Derived.Test.YtdbiogihimdpcaaGreatDoorPartAH
import Derived.Test.YtdbiogihimdpcaaGreatDoorLibE
import Derived.Test.YtdbiogihimdpcaaGreatDoorPartAA
import Derived.Test.YtdbiogihimdpcaaGreatDoorPartAB
open List renaming length_map→aaS,length_nil→aaW,nil_append→aa0,map_nil→aa6,length_eq_zero_iff→abB,append_nil→abO,getElem?_set_ne→abT,length_cons→abY,length_append→ab9,map_cons→acK,length_set→acZ,all_cons→aeM,all_nil→aeP,cons_append→aeW,all_eq_true→ae7,getElem?_eq_some_iff→ae8,flatMap_cons→afM,getElem?_set_self→af4,getElem?_append_right→ai5,take_of_length_le→akJ,mem_of_getElem?→alC,getElem?_append_left→alD,flatMap_nil→alE,getElem?_eq_getElem→alF,eq_nil_iff_forall_not_mem→alG,map_eq_nil_iff→anI,mem_append_right→anY,mem_append_left→apM
open Bool renaming and_eq_true→acF,and_true→adV,and_false→aeH
open Int renaming lt_irrefl→aeZ,toNat_natCast→ae6
set_option linter.unusedSimpArgs false
set_option linter.unusedVariables false
namespace Go.Proofs.YtdbiogihimdpcaaGreatDoor
open Go.Ev Go
set_option maxRecDepth 100000
set_option maxHeartbeats 16000000
theorem fX{s:Ac}{d:Ap}{hr own fuel:Int}{z:Bc}{nG nL nO v1 v2 u1 u2 u3 u4:Bool}{G L G1 L1 G2 W A R:List Int}{O O1 O2:List Aa}{n0 j1 y:Nat}{o1v o1i ov ovp o2i rv rvp:AV}{ob1 ob2 rb:Ab}(hlen:s.cons.length≤1000)(hne:s.cons≠[])(h0:0≤hr)(hz:d.hours[hr.toNat]?=some z)
 (e1:Bi.call (.fn 75) [.agg s.cells,.agg [.int .i64 hr,Ao 1 true nG (G.map iv),.int .i64 own,.int .i64 fuel,Ao 1 true nL (L.map iv),Ao 5 true nO (O.map Aa.cells)]] []=some (.ret (.agg [.int .i64 hr,.slr 1 0 0 s.cons.length,.int .i64 own,.int .i64 fuel,.slr 1 1 0 s.cons.length,o1v]),.live 1 true v1 (G1.map iv)::.live 1 true v2 (L1.map iv)::ob1))
 (e2:Bi.call (.fn 74) [.agg s.cells,.agg [.int .i64 hr,.imm 1 true (G1.map iv),.int .i64 own,.int .i64 fuel,.imm 1 true (L1.map iv),o1i],.agg d.cells] []=some (.ret (.tup [.agg [.int .i64 hr,.slr 1 0 0 s.cons.length,.int .i64 own,.int .i64 fuel,.slr 1 1 0 s.cons.length,ovp],rvp]),.live 1 true u1 (G2.map iv)::.live 1 true u2 (L1.map iv)::(ob2++rb)))
 (e3:Bi.call (.fn 76) [.agg s.cells,.agg [.int .i64 hr,.imm 1 true (G2.map iv),.int .i64 own,.int .i64 fuel,.imm 1 true (L1.map iv),o2i],.agg d.cells] []=some (.ret (.slr 1 0 0 s.cons.length),[.live 1 true false (W.map iv)]))
 (e4:Bi.call (.fn 21) [.agg s.cells,.imm 1 true (W.map iv),.int .i64 z.inn,.int .i64 z.out] []=some (.ret (.slr 1 0 0 s.cons.length),[.live 1 true false (A.map iv)]))
 (hv1:(n0=7∧o1v=.nils∧o1i=.nils∧ob1=[])∨(n0=8∧o1v=.slr 5 2 0 O1.length∧o1i=.imm 5 true (O1.map Aa.cells)∧ob1=[.live 5 true false (O1.map Aa.cells)]))
 (hv2:(O2=[]∧ov=.nils∧ovp=.nils∧o2i=.nils∧ob2=[]∧j1=2)∨(ov=.slr 5 (n0+2) 0 O2.length∧ovp=.slr 5 2 0 O2.length∧o2i=.imm 5 true (O2.map Aa.cells)∧ob2=[.live 5 true u3 (O2.map Aa.cells)]∧j1=3))
 (hv3:(R=[]∧rv=.nils∧rvp=.nils∧rb=[]∧y=n0+j1)∨(R≠[]∧rv=.slr 1 (n0+j1) 0 R.length∧rvp=.slr 1 j1 0 R.length∧rb=[.live 1 true u4 (R.map iv)]∧y=n0+(j1+1)))
 (hG1:G1.length=s.cons.length) (hG2:G2.length=s.cons.length) (hL1:L1.length=s.cons.length) (hW:W.length=s.cons.length) (hA:A.length=s.cons.length):
 Ql Bi 42 [.agg s.cells,.agg [.int .i64 hr,Ao 1 true nG (G.map iv),.int .i64 own,.int .i64 fuel,Ao 1 true nL (L.map iv),Ao 5 true nO (O.map Aa.cells)],.agg d.cells] []
  (nE s.cons.length (IntKind.i64.wrap (hr+1)) (jQ z A own) (Xs s hr W A (RF z A) 0 (G2,fuel,L1)).2.1 (Xs s hr W A (RF z A) 0 (G2,fuel,L1)).1 (Xs s hr W A (RF z A) 0 (G2,fuel,L1)).2.2 O2 R W A (RF z A)):=by
 have hAn:A≠[]:=fun e=>hne (abB.1 (by rw[←hA,e];rfl))
 have g3:=ap6 (l:=A) true (by omega) hAn
 have g4:=ahK (l:=A) true (by omega) hAn
 have g5:=pJ (l:=A.map Bm) (nn:=true) (by simp[maxLen];omega)
 have g6:=pJ (l:=A.map Bz) (nn:=true) (by simp[maxLen];omega)
 have g7:=aR (mn z.flowIn (Ar (A.map Bm) 0)) (A.map Bm) true (by simp;omega) _ _ (fun e=>absurd e (Qx hAn)) (fun _=>rfl)
 have g8:=aR (mn z.flowOut (Ar (A.map Bz) 0)) (A.map Bz) true (by simp;omega) _ _ (fun e=>absurd e (Qx hAn)) (fun _=>rfl)
 have k2:(Bl (mn z.flowIn (Ar (A.map Bm) 0)) (A.map Bm)).length=s.cons.length:=by unfold Bl;rw[Eg];simp[hA]
 have k3:(Bl (mn z.flowOut (Ar (A.map Bz) 0)) (A.map Bz)).length=s.cons.length:=by unfold Bl;rw[Eg];simp[hA]
 have k1:Bl (mn z.flowIn (Ar (A.map Bm) 0)) (A.map Bm)≠[]:=fun e=>hne (abB.1 (by rw[←k2,e];rfl))
 have g9:=kO (Bl (mn z.flowIn (Ar (A.map Bm) 0)) (A.map Bm)) (Bl (mn z.flowOut (Ar (A.map Bz) 0)) (A.map Bz)) true true (by omega) (by omega) _ _ (fun e=>(k1 e).elim) (fun _=>rfl)
 have hF:(RF z A).length=s.cons.length:=by simp[RF,k2,k3]
 rw[An,hA]at g3 g4
 rw[An]at g5 g6
 rw[An,aaS,hA]at g7 g8
 rw[An,An,k2]at g9
 have htk:∀l:List Int,l.length=s.cons.length→(l.map iv).take s.cons.length=l.map iv:=fun l h=>akJ (by simp[h])
 have t1:=htk G1 hG1
 have t2:=htk L1 hL1
 have t3:=htk G2 hG2
 have t4:=htk W hW
 have t5:=htk A hA
 have t6:=htk (A.map Bm) (by simp[hA])
 have t7:=htk (A.map Bz) (by simp[hA])
 have t8:=htk _ k2
 have t9:=htk _ k3
 have t10:(O1.map Aa.cells).take O1.length=O1.map Aa.cells:=akJ (by simp)
 have t11:(O2.map Aa.cells).take O2.length=O2.map Aa.cells:=akJ (by simp)
 unfold Bl at g9 k2 k3 t8 t9
 have m1:∀a b:Int,(if b<a then b else a)=mn a b:=fun _ _=>rfl
 have h0':(0≤hr)=True:=eq_true h0
 rcases hv1 with⟨hn0,ho1v,ho1i,hob1⟩|⟨hn0,ho1v,ho1i,hob1⟩<;>rcases hv2 with⟨hO2,hov,hovp,ho2i,hob2,hj1⟩|⟨hov,hovp,ho2i,hob2,hj1⟩<;>rcases hv3 with⟨hR,hrv,hrvp,hrb,hy⟩|⟨hR,hrv,hrvp,hrb,hy⟩
 all_goals
  simp only[hn0,hj1,hy,ho1v,ho1i,hob1,hov,hovp,ho2i,hob2,hrv,hrvp,hrb,aeW,aa0,abO]at e1 e2 e3
  refine Je rfl Tryz.func42 rfl rfl ?_
  simp only[Tryz.f42]
  (have hb:=trivial;with_reducible repeat' (first|simp only[hb,Vc.down,seval,yK.down,Ap.cells,Bc.cells,e1,e2,e3,e4,g3,g4,g5,g6,g7,g8,g9,h0',hz,aaS,hn0,hj1,hy,ho1v,ho1i,hob1,hov,hovp,ho2i,hob2,hrv,hrvp,hrb,aeW,aa0,abO,m1,hA,hW,hG1,hG2,hL1,k2,k3,hF,t1,t2,t3,t4,t5,t6,t7,t8,t9,t10,t11]|refine Af ?_ ?_<;>intro hb|refine fdl ?_|fail))
  refine Cd (Np 204 (RF z A) (fun i (zz:List Int × Int × List Int × Nat) t h=>t 3=.ptr 0 0 0∧t 4=.ptr 1 0 0∧t 6=.ptr 3 0 0∧t 7=.ptr 4 0 0∧t 8=.ptr y 0 0∧t 9=rv∧t 11=.slr 1 (y+2) 0 s.cons.length∧t 12=.slr 1 (y+3) 0 s.cons.length∧t 15=.slr 1 (y+10) 0 s.cons.length∧t 16=.int .i64 i∧(∃wG wL g,h=.live 6 false false [s.cells]::.live 6 false false [[.int .i64 hr,Ao 1 true nG (G.map iv),.int .i64 own,.int .i64 fuel,Ao 1 true nL (L.map iv),Ao 5 true nO (O.map Aa.cells)]]::.live 3 false false [d.cells]::.live 6 false false [[.int .i64 0,.nils,.int .i64 0,.int .i64 0,.nils,.nils]]::.live 4 false false [[.nils,.nils,.nils,.nils]]::.live 1 true v1 (G1.map iv)::.live 1 true v2 (L1.map iv)::(ob1++.live 1 true wG (zz.1.map iv)::.live 1 true wL (zz.2.2.1.map iv)::(ob2++(rb++.live 6 false true [[.int .i64 hr,.slr 1 n0 0 s.cons.length,.int .i64 (jQ z A own),.int .i64 zz.2.1,.slr 1 (n0+1) 0 s.cons.length,ov]]::.live 4 true true [z.cells]::.live 1 true false (W.map iv)::.live 1 true false (A.map iv)::.live 1 true false ((A.map Bm).map iv)::.live 1 true false ((A.map Bz).map iv)::.live 1 true false ((A.map Bm).map iv)::.live 1 true false ((Bl (mn z.flowIn (Ar (A.map Bm) 0)) (A.map Bm)).map iv)::.live 1 true false ((A.map Bz).map iv)::.live 1 true false ((Bl (mn z.flowOut (Ar (A.map Bz) 0)) (A.map Bz)).map iv)::.live 1 true false ((RF z A).map iv)::g)))∧zz.1.length=s.cons.length∧zz.2.2.1.length=s.cons.length∧i=zz.2.2.2)) (fun rest zz=>Xs s hr W A rest zz.2.2.2 (zz.1,zz.2.1,zz.2.2.1)) (fun r e t h=>e=.exit 0∧t 6=.ptr 3 0 0∧t 7=.ptr 4 0 0∧t 8=.ptr y 0 0∧t 9=rv∧t 11=.slr 1 (y+2) 0 s.cons.length∧t 12=.slr 1 (y+3) 0 s.cons.length∧t 15=.slr 1 (y+10) 0 s.cons.length∧(∃wG wL g,h=.live 6 false false [s.cells]::.live 6 false false [[.int .i64 hr,Ao 1 true nG (G.map iv),.int .i64 own,.int .i64 fuel,Ao 1 true nL (L.map iv),Ao 5 true nO (O.map Aa.cells)]]::.live 3 false false [d.cells]::.live 6 false false [[.int .i64 0,.nils,.int .i64 0,.int .i64 0,.nils,.nils]]::.live 4 false false [[.nils,.nils,.nils,.nils]]::.live 1 true v1 (G1.map iv)::.live 1 true v2 (L1.map iv)::(ob1++.live 1 true wG (r.1.map iv)::.live 1 true wL (r.2.2.map iv)::(ob2++(rb++.live 6 false true [[.int .i64 hr,.slr 1 n0 0 s.cons.length,.int .i64 (jQ z A own),.int .i64 r.2.1,.slr 1 (n0+1) 0 s.cons.length,ov]]::.live 4 true true [z.cells]::.live 1 true false (W.map iv)::.live 1 true false (A.map iv)::.live 1 true false ((A.map Bm).map iv)::.live 1 true false ((A.map Bz).map iv)::.live 1 true false ((A.map Bm).map iv)::.live 1 true false ((Bl (mn z.flowIn (Ar (A.map Bm) 0)) (A.map Bm)).map iv)::.live 1 true false ((A.map Bz).map iv)::.live 1 true false ((Bl (mn z.flowOut (Ar (A.map Bz) 0)) (A.map Bz)).map iv)::.live 1 true false ((RF z A).map iv)::g))))) ?_ ?_ (G2,fuel,L1,0) _ _ ?_) (fun e t h hk=>?_)
  ·rintro⟨G',fu,L',k⟩ t h Q' kQ ⟨h3,h4,h6,h7,h8,h9,h11,h12,h15,h16,⟨wG,wL,g,rfl,hG',hL',rfl⟩⟩
   try dsimp only at *
   (have hb:=trivial;with_reducible repeat' (first|simp only[hb,Vc.down,seval,yK.down,h3,h4,h6,h7,h8,h9,h11,h12,h15,h16,aeZ,decide_false,hF]|refine Af ?_ ?_<;>intro hb|refine fd ?_|fail))
   exact kQ _ _ _ ⟨rfl,by simp[up,h6],by simp[up,h7],by simp[up,h8],by simp[up,h9],by simp[up,h11],by simp[up,h12],by simp[up,h15],wG,wL,g,rfl⟩
  ·rintro x rest i ⟨G',fu,L',k⟩ t h J Q' kJ kQ hx hi ⟨h3,h4,h6,h7,h8,h9,h11,h12,h15,h16,⟨wG,wL,g,rfl,hG',hL',rfl⟩⟩
   have hd:decide ((i:Int)<((RF z A).length:Int))=true:=decide_eq_true (by omega)
   have hw:=Ai hi (by unfold maxLen;omega)
   try dsimp only at *
   rw[hF]at hd hi
   have hii:((i:Int)<(s.cons.length:Int))=True:=eq_true (by omega)
   obtain⟨c,hc⟩:∃c,s.cons[i]?=some c:=⟨_,alF hi⟩
   have hcD:oL s.cons i=c:=by simp[oL,hc]
   have hac:=mI c c.firm hr
   have at_:∀l:List Int,l.length=s.cons.length→l[i]?=some (gI l i):=fun l hl=>by have:=Ff (l:=l) (i:=(i:Int)) (by simp;omega);simpa using this
   have hxx:gI (RF z A) i=x:=by simp only[gI,ae6,hx];rfl
   have aG:=at_ G' hG'
   have aL:=at_ L' hL'
   have aL2:∀v,(sI L' i v)[i]?=some (gI (sI L' i v) i):=fun v=>at_ _ (by rw[Bg];exact hL')
   have aW:=at_ W hW
   have aA:=at_ A hA
   have aS:∀(a:List Int) v,(a.map iv).set i [.int .i64 v]=(sI a i v).map iv:=fun a v=>by have:=Dt a (i:Int) v;simpa using this
   have gLi:∀v,gI (sI L' i v) i=v:=fun v=>by simp only[gI,sI,ae6];rw[af4 (by omega)];rfl
   have sLi:∀v w,sI (sI L' i v) i w=sI L' i w:=fun v w=>by simp only[sI,ae6,List.set_set]
   have sL0:sI L' i (gI L' i)=L':=by
    simp only[gI,sI,ae6]
    refine List.ext_getElem? fun j=>?_
    by_cases hj:i=j
    ·subst hj;rw[af4 (by omega),aL];simp only[gI,ae6,Option.getD]
    ·rw[abT hj]
   cases hact:Hw hr c.lo c.hi<;>cases hfirm:c.firm<;>rw[hact]at hac<;>simp only[hfirm]at hac<;>(
    (have hb:=trivial;with_reducible repeat' (first|simp only[hb,Vc.down,seval,yK.down,hn0,hj1,hy,ho1v,ho1i,hob1,hov,hovp,ho2i,hob2,hrv,hrvp,hrb,aeW,aa0,abO,h3,h4,h8,h9,h11,h12,h15,h16,hd,hx,hw,hc,hac,hii,aG,aL,aL2,aW,aA,aS,iv,Ag.cells,hfirm,hF,aaS,gLi,sLi,Int.reduceEq]|refine Af ?_ ?_<;>intro hb|refine fd ?_|fail))
    (refine Ah (kJ _ _ (sI G' i (yT s x (gI G' i)),IntKind.i64.wrap (fu+Oq s x),sI L' i (mJ (oL s.cons i) hr x (gI W i) (gI A i) (gI L' i)),i+1) ⟨?_,?_,?_,?_,?_,?_,?_,?_,?_,?_,⟨true,_,_,by simp only[hcD,mJ,hact,hfirm,Bool.false_eq_true,if_true,if_false,sL0,hn0,hj1,hy,ho1v,ho1i,hob1,hov,hovp,ho2i,hob2,hrv,hrvp,hrb,aeW,aa0,abO];rfl,by rw[Bg];exact hG',by rw[Bg];exact hL',rfl⟩⟩ ?_);(simp[up,h3]);(simp[up,h4]);(simp[up,h6]);(simp[up,h7]);(simp[up,h8]);(simp[up,h9]);(simp[up,h11]);(simp[up,h12]);(simp[up,h15]);(simp[up]);(simp[Xs])))
  ·exact⟨by simp[up,Bw,hn0,hj1,hy,ho1v,ho1i,hob1,hov,hovp,ho2i,hob2,hrv,hrvp,hrb],by simp[up,Bw,hn0,hj1,hy,ho1v,ho1i,hob1,hov,hovp,ho2i,hob2,hrv,hrvp,hrb],by simp[up,Bw,hn0,hj1,hy,ho1v,ho1i,hob1,hov,hovp,ho2i,hob2,hrv,hrvp,hrb],by simp[up,Bw,hn0,hj1,hy,ho1v,ho1i,hob1,hov,hovp,ho2i,hob2,hrv,hrvp,hrb],by simp[up,Bw,hn0,hj1,hy,ho1v,ho1i,hob1,hov,hovp,ho2i,hob2,hrv,hrvp,hrb],by simp[up,Bw,hn0,hj1,hy,ho1v,ho1i,hob1,hov,hovp,ho2i,hob2,hrv,hrvp,hrb],by simp[up,Bw,hn0,hj1,hy,ho1v,ho1i,hob1,hov,hovp,ho2i,hob2,hrv,hrvp,hrb],by simp[up,Bw,hn0,hj1,hy,ho1v,ho1i,hob1,hov,hovp,ho2i,hob2,hrv,hrvp,hrb],by simp[up,Bw,hn0,hj1,hy,ho1v,ho1i,hob1,hov,hovp,ho2i,hob2,hrv,hrvp,hrb],by simp[up],⟨_,_,[],by simp only[hn0,hj1,hy,ho1v,ho1i,hob1,hov,hovp,ho2i,hob2,hrv,hrvp,hrb,aeW,aa0,abO];exact rfl,hG2,hL1,rfl⟩⟩
  obtain⟨rfl,h6,h7,h8,h9,h11,h12,h15,wG,wL,g,rfl⟩:=hk
  generalize hr0:Xs s hr W A (RF z A) 0 (G2,fuel,L1)=r at *
  obtain⟨G',fu,L'⟩:=r
  dsimp only at *
  (have hb:=trivial;with_reducible repeat' (first|simp only[hb,Vc.down,seval,yK.down,h6,h7,h8,h9,h11,h12,h15,hn0,hj1,hy,ho1v,ho1i,hob1,hov,hovp,ho2i,hob2,hrv,hrvp,hrb,aeW,aa0,abO]|refine Af ?_ ?_<;>intro hb|refine fd ?_|fail))
  first
  |exact⟨wG,wL,false,false,false,false,false,.inl ⟨hO2,hR,rfl,rfl⟩⟩
  |exact⟨wG,wL,false,false,false,false,u4,.inr (.inr (.inl ⟨hO2,hR,rfl,rfl⟩))⟩
  |exact⟨wG,wL,false,false,false,u3,false,.inr (.inl ⟨hR,rfl,rfl⟩)⟩
  |exact⟨wG,wL,false,false,false,u3,u4,.inr (.inr (.inr ⟨hR,rfl,rfl⟩))⟩
theorem Zc(cs:List Ag)(hr:Int):∀(T:List Aa) (i:Nat) (G:List Int) (O:List Aa) (R:List Int),O≠[]→(Am cs hr T i (G,O,R)).2.1≠[]
 | [],_,_,_,_,h=>h
 |t::T,i,G,O,R,h=>by
  simp only[Am]
  split
  ·split
   ·exact Zc cs hr T _ _ _ _ h
   ·refine Zc cs hr T _ _ _ _ ?_
    split
    ·exact h
    ·simp
  ·exact Zc cs hr T _ _ _ _ h
theorem alQ{s:Ac}(h1:Es s=true){d:Ap}(h3:Jz s.cons.length d=true){hr own fuel:Int}{z:Bc}{nG nL nO:Bool}{G L:List Int}{O:List Aa}{B:Int}(hB:0≤B∧B≤2000000000000000000)(I:StI s own G L O B)(K:cX s d hr z O):
 Ql Bi 42 [.agg s.cells,.agg [.int .i64 hr,Ao 1 true nG (G.map iv),.int .i64 own,.int .i64 fuel,Ao 1 true nL (L.map iv),Ao 5 true nO (O.map Aa.cells)],.agg d.cells] []
  (nE s.cons.length (IntKind.i64.wrap (hr+1)) (bY s d hr z G L O own) (G6 s d hr z G L O fuel).2 (G6 s d hr z G L O fuel).1 (L7 s d hr z G L O) (T2 s d hr G L O).2.1 (T2 s d hr G L O).2.2 (W3 s d hr G L O) (A4 s d hr z G L O) (F5 s d hr z G L O)):=by
 have E:=zB (fuel:=fuel) h1 h3 hB I K.hx
 have hcs:∀c∈s.cons,Jb c=true:=ae7.1 (Qz h1)
 have hlen:=K.len
 have hne:=K.ne
 have hl8:=(Px h1).len
 have hT:∀t∈d.trades,t.ok s.cons.length∧t.frm≠t.to∧(t.back= -1∨0≤t.back):=fun t ht=>by
  simp only[Jz,acF]at h3
  have T:=tok (by omega) (ae7.1 h3.2 t ht)
  exact⟨T.ok,T.ne,T.back⟩
 have q1:(G1 s hr G L O).length=s.cons.length:=E.g1.len
 have q2:(L1 s hr G L O).length=s.cons.length:=E.l1.1
 have q3:(T2 s d hr G L O).1.length=s.cons.length:=E.g2.len
 have q4:(W3 s d hr G L O).length=s.cons.length:=by rw[←E.rw];unfold RW;rw[Qb]
 have n4:W3 s d hr G L O≠[]:=fun e=>hne (abB.1 (by rw[←q4,e];rfl))
 have q5:(A4 s d hr z G L O).length=s.cons.length:=by rw[←E.ra];unfold RA;rw[E.rw];simp[Eu,Nu,q4]
 have oll:(O1 s hr G L O).length≤1000:=by
  have:=List.length_filter_le (fun t:Aa=>decide (t.back≠hr)) O
  have:=I.olen
  unfold O1
  rw[Ol,aa0]
  omega
 have fill:∀(i:Nat) c,s.cons[i]?=some c→(Ox c).fill≤cY c (gI (T2 s d hr G L O).1 i):=fun i c hc=>by
  have a:=E.g2.inn i c hc
  rw[(sK (hcs c (alC hc)) 0).2.2]
  exact asV (hcs c (alC hc)) a.1 a.2
 have g1:=fun(nO':Bool)=>alJ (d:=d) (hr:=hr) (own:=own) (fuel:=fuel) (nG:=true) (nL:=true) (nO:=nO') (G:=(T2 s d hr G L O).1) (L:=L1 s hr G L O) (O:=(T2 s d hr G L O).2.1) hlen hne K.noms q3 K.con fill
 have rwe:Hn s d hr (T2 s d hr G L O).1 s.cons 0=W3 s d hr G L O:=by have:=E.rw;unfold RW at this;rwa[E.rt]at this
 have rae:Eu Gk s.cons (W3 s d hr G L O) z.inn z.out=A4 s d hr z G L O:=by have:=E.ra;unfold RA at this;rwa[E.rw]at this
 have g2:=ao4 (s:=s) (l:=W3 s d hr G L O) (nn:=true) (most:=z.inn) (least:=z.out) q4 (by omega) n4
 rw[rwe]at g1
 rw[rae,An,q4]at g2
 simp only[An]at g1
 have ef:Xs s hr (W3 s d hr G L O) (A4 s d hr z G L O) (RF z (A4 s d hr z G L O)) 0 ((T2 s d hr G L O).1,fuel,L1 s hr G L O)=((G6 s d hr z G L O fuel).1,(G6 s d hr z G L O fuel).2,L7 s d hr z G L O):=E.fin
 have r1:Uh s.cons hr O (G,L,[])=(G1 s hr G L O,L1 s hr G L O,O1 s hr G L O):=E.rg
 have hret:Ql Bi 75 [.agg s.cells,.agg [.int .i64 hr,Ao 1 true nG (G.map iv),.int .i64 own,.int .i64 fuel,Ao 1 true nL (L.map iv),Ao 5 true nO (O.map Aa.cells)]] [] (asX s.cons.length hr own fuel (Uh s.cons hr O (G,L,[])).1 (Uh s.cons hr O (G,L,[])).2.1 (Uh s.cons hr O (G,L,[])).2.2):=by
  by_cases hO:O=[]
  ·exact wI hlen hne I.g.len I.l K.owed K.ow hO
  ·exact sM hlen hne I.g.len I.l K.owed K.ow hO
 rw[r1]at hret
 obtain⟨o1,h1',e1,v1,v2,hr1⟩:=hret
 suffices k:Ql Bi 42 [.agg s.cells,.agg [.int .i64 hr,Ao 1 true nG (G.map iv),.int .i64 own,.int .i64 fuel,Ao 1 true nL (L.map iv),Ao 5 true nO (O.map Aa.cells)],.agg d.cells] []
  (nE s.cons.length (IntKind.i64.wrap (hr+1)) (jQ z (A4 s d hr z G L O) own) (Xs s hr (W3 s d hr G L O) (A4 s d hr z G L O) (RF z (A4 s d hr z G L O)) 0 ((T2 s d hr G L O).1,fuel,L1 s hr G L O)).2.1 (Xs s hr (W3 s d hr G L O) (A4 s d hr z G L O) (RF z (A4 s d hr z G L O)) 0 ((T2 s d hr G L O).1,fuel,L1 s hr G L O)).1 (Xs s hr (W3 s d hr G L O) (A4 s d hr z G L O) (RF z (A4 s d hr z G L O)) 0 ((T2 s d hr G L O).1,fuel,L1 s hr G L O)).2.2 (T2 s d hr G L O).2.1 (T2 s d hr G L O).2.2 (W3 s d hr G L O) (A4 s d hr z G L O) (RF z (A4 s d hr z G L O))) by
  rw[ef,E.own]at k
  exact k
 have tE:Am s.cons hr d.trades 0 (G1 s hr G L O,O1 s hr G L O,[])=T2 s d hr G L O:=rfl
 have e3n:(T2 s d hr G L O).2.1=[]→_:=fun hO2=>by
  have e3:=g1 false
  rw[hO2,aa6,Gi]at e3
  exact e3
 have e3b:=g1 true
 rw[An]at e3b
 rcases hr1 with⟨hp1,rfl,rfl⟩|⟨hp1,rfl,rfl⟩
 ·replace hp1:O1 s hr G L O=[]:=hp1
  dsimp only at e1
  obtain⟨o2,h2,e2,u1,u2,u3,u4,hr2⟩:=acO (d:=d) (hr:=hr) (own:=own) (fuel:=fuel) (nG:=true) (nL:=true) (nO:=false) (G:=G1 s hr G L O) (L:=L1 s hr G L O) (O:=O1 s hr G L O) hlen hne q1 q2 oll K.trl hT hp1
  rw[tE]at hr2
  rw[hp1,aa6,Gi,An,An]at e2
  rcases hr2 with⟨hO2,hR2,rfl,rfl⟩|⟨hO2,hR2,rfl,rfl⟩|⟨hO2,hR2,rfl,rfl⟩|⟨hO2,hR2,rfl,rfl⟩
  ·exact fX (O1:=O1 s hr G L O) (O2:=(T2 s d hr G L O).2.1) (R:=(T2 s d hr G L O).2.2) (u3:=u3) (u4:=u4) (ob2:=[]) (rb:=[]) hlen hne K.h0 K.hx e1 e2 (e3n hO2) g2 (.inl ⟨rfl,rfl,rfl,rfl⟩) (.inl ⟨hO2,rfl,rfl,rfl,rfl,rfl⟩) (.inl ⟨hR2,rfl,rfl,rfl,rfl⟩) q1 q3 q2 q4 q5
  ·exact fX (O1:=O1 s hr G L O) (O2:=(T2 s d hr G L O).2.1) (R:=(T2 s d hr G L O).2.2) (u3:=u3) (u4:=u4) (ob2:=[.live 5 true u3 ((T2 s d hr G L O).2.1.map Aa.cells)]) (rb:=[]) hlen hne K.h0 K.hx e1 e2 e3b g2 (.inl ⟨rfl,rfl,rfl,rfl⟩) (.inr ⟨rfl,rfl,rfl,rfl,rfl⟩) (.inl ⟨hR2,rfl,rfl,rfl,rfl⟩) q1 q3 q2 q4 q5
  ·exact fX (O1:=O1 s hr G L O) (O2:=(T2 s d hr G L O).2.1) (R:=(T2 s d hr G L O).2.2) (u3:=u3) (u4:=u4) (ob2:=[]) (rb:=[.live 1 true u4 ((T2 s d hr G L O).2.2.map iv)]) hlen hne K.h0 K.hx e1 e2 (e3n hO2) g2 (.inl ⟨rfl,rfl,rfl,rfl⟩) (.inl ⟨hO2,rfl,rfl,rfl,rfl,rfl⟩) (.inr ⟨hR2,rfl,rfl,rfl,rfl⟩) q1 q3 q2 q4 q5
  ·exact fX (O1:=O1 s hr G L O) (O2:=(T2 s d hr G L O).2.1) (R:=(T2 s d hr G L O).2.2) (u3:=u3) (u4:=u4) (ob2:=[.live 5 true u3 ((T2 s d hr G L O).2.1.map Aa.cells)]) (rb:=[.live 1 true u4 ((T2 s d hr G L O).2.2.map iv)]) hlen hne K.h0 K.hx e1 e2 e3b g2 (.inl ⟨rfl,rfl,rfl,rfl⟩) (.inr ⟨rfl,rfl,rfl,rfl,rfl⟩) (.inr ⟨hR2,rfl,rfl,rfl,rfl⟩) q1 q3 q2 q4 q5
 ·replace hp1:O1 s hr G L O≠[]:=hp1
  dsimp only at e1
  obtain⟨o2,h2,e2,u1,u2,u3,u4,hr2⟩:=ac6 (d:=d) (hr:=hr) (own:=own) (fuel:=fuel) (nG:=true) (nL:=true) (nO:=true) (G:=G1 s hr G L O) (L:=L1 s hr G L O) (O:=O1 s hr G L O) hlen hne q1 q2 oll K.trl hT hp1
  rw[tE]at hr2
  have hO2n:(T2 s d hr G L O).2.1≠[]:=Zc _ _ _ _ _ _ _ hp1
  simp only[An]at e2
  rcases hr2 with⟨hO2,hR2,rfl,rfl⟩|⟨hO2,hR2,rfl,rfl⟩|⟨hO2,hR2,rfl,rfl⟩|⟨hO2,hR2,rfl,rfl⟩
  ·exact absurd hO2 hO2n
  ·exact fX (O1:=O1 s hr G L O) (O2:=(T2 s d hr G L O).2.1) (R:=(T2 s d hr G L O).2.2) (u3:=u3) (u4:=u4) (ob2:=[.live 5 true u3 ((T2 s d hr G L O).2.1.map Aa.cells)]) (rb:=[]) hlen hne K.h0 K.hx e1 e2 e3b g2 (.inr ⟨rfl,rfl,rfl,rfl⟩) (.inr ⟨rfl,rfl,rfl,rfl,rfl⟩) (.inl ⟨hR2,rfl,rfl,rfl,rfl⟩) q1 q3 q2 q4 q5
  ·exact absurd hO2 hO2n
  ·exact fX (O1:=O1 s hr G L O) (O2:=(T2 s d hr G L O).2.1) (R:=(T2 s d hr G L O).2.2) (u3:=u3) (u4:=u4) (ob2:=[.live 5 true u3 ((T2 s d hr G L O).2.1.map Aa.cells)]) (rb:=[.live 1 true u4 ((T2 s d hr G L O).2.2.map iv)]) hlen hne K.h0 K.hx e1 e2 e3b g2 (.inr ⟨rfl,rfl,rfl,rfl⟩) (.inr ⟨rfl,rfl,rfl,rfl,rfl⟩) (.inr ⟨hR2,rfl,rfl,rfl,rfl⟩) q1 q3 q2 q4 q5
theorem zW{s:Ac}{y:Hl}{d:Ap}{z:Bc}{k:Nat}(h1:Es s=true)(h3:Jz s.cons.length d=true)(I:StJ s k y)(hne:s.cons≠[])(hz:d.hours[k]?=some z):cX s d y.hour z y.owed:=by
 have S:=Px h1
 have hl:=S.len
 have ol:=I.i.olen
 have hz':d.hours[y.hour.toNat]?=some z:=by rw[I.hour];exact hz
 simp only[Jz,acF,decide_eq_true_eq,ae7]at h3
 obtain⟨⟨⟨⟨⟨d1,d2⟩,d3⟩,d4⟩,d5⟩,d6⟩:=h3
 refine⟨hne,by omega,by omega,fun c hc=>?_,by omega,fun t ht=>(I.i.owed t ht).ok,by omega,fun t ht=>?_,by rw[I.hour];omega,hz'⟩
 ·have C:=S.cons c hc
  exact⟨by have:=C.space;omega,C.rates.1,by have:=C.rates.2;unfold maxLen;omega⟩
 ·exact(mP (by omega) (d6 t ht)).1
theorem rZ{s:Ac}{y:Hl}{d:Ap}{k:Nat}(h3:Jz s.cons.length d=true)(I:StJ s k y)(he:s.cons=[]):y.gas=[]∧y.bills=[]∧y.owed=[]∧d.trades=[]:=by
 have p1:=I.i.g.len
 have p2:=I.i.l
 have p3:=I.i.owed
 rw[he]at p1 p2 p3 h3
 refine⟨abB.1 p1,abB.1 p2,?_,?_⟩
 ·refine alG.2 fun t ht=>?_
  have t1:=(p3 t ht).ok.1.1
  have t2:=(p3 t ht).ok.1.2
  simp only[aaW]at t2
  omega
 ·refine alG.2 fun t ht=>?_
  simp only[Jz,acF,ae7]at h3
  have:=h3.2 t ht
  simp only[aaW,show((0:Nat):Int)=0 from rfl,ah5]at this
  cases this
theorem awO{s:Ac}{y:Hl}{d:Ap}{z:Bc}{k:Nat}(h3:Jz s.cons.length d=true)(I:StJ s k y)(he:s.cons=[])(hz:d.hours[k]?=some z):ZOK s d y.hour z:=by
 have D:=bI h3 hz
 exact⟨he,(rZ h3 I he).2.2.2,by rw[I.hour];omega,by rw[I.hour];exact hz,D.2.1.1,D.2.1.2⟩
theorem avR{s:Ac}{y:Hl}{d:Ap}{z:Bc}{k:Nat}(h1:Es s=true)(hz:d.hours[k]?=some z)(h3:Jz s.cons.length d=true)(I:StJ s k y)(he:s.cons=[]):nxt s d z y=⟨y.hour+1,false,[],eJ [] z y.own,y.fuel,false,[],false,[]⟩∧flw s d z y=⟨false,[],false,[],false,[],false,[]⟩:=by
 obtain⟨e1,e2,e3,e4⟩:=rZ h3 I he
 have t2:T2 s d y.hour y.gas y.bills y.owed=([],[],[]):=by simp[T2,G1,O1,e1,e2,e3,e4,he,Dv,Am]
 have w3:W3 s d y.hour y.gas y.bills y.owed=[]:=by simp[W3,he,Kr]
 obtain⟨_,_,W⟩:=bA h1 h3 I hz
 have wl:=W.len
 rw[he]at wl
 have a4:A4 s d y.hour z y.gas y.bills y.owed=[]:=abB.1 wl.2.2.2.2
 have f5:F5 s d y.hour z y.gas y.bills y.owed=[]:=abB.1 wl.2.2.1
 have l7:L7 s d y.hour z y.gas y.bills y.owed=[]:=abB.1 wl.2.1
 have g6:G6 s d y.hour z y.gas y.bills y.owed y.fuel=([],y.fuel):=by simp[G6,f5,t2,Hy]
 exact⟨by unfold nxt bY;rw[g6,t2,l7,a4],by unfold flw;rw[w3,a4,f5,t2]⟩
theorem qQ{s:Ac}{y:Hl}{d:Ap}{z:Bc}{k:Nat}(h3:Jz s.cons.length d=true)(I:StJ s k y)(hz:d.hours[k]?=some z):IntKind.i64.wrap (y.hour+1)=y.hour+1:=by
 have:=bI h3 hz
 have:=I.hour
 exact Aj (by omega) (by omega)
theorem apB{s:Ac}{d:Ap}{z:Bc}{y:Hl}{k:Nat}(h1:Es s=true)(h3:Jz s.cons.length d=true)(I:StJ s k y)(hz:d.hours[k]?=some z):
 ∃g l o w a f r,zF Bi 64 [.agg s.cells,.agg y.cells,.agg d.cells] [.agg ((nxt s d z y).as g l o).cells,.agg ((flw s d z y).as w a f r).cells] 7:=by
 have hw:=qQ h3 I hz
 by_cases he:s.cons=[]
 ·obtain⟨e1,e2,e3,_⟩:=rZ h3 I he
  obtain⟨n1,n2⟩:=avR h1 hz h3 I he
  have q:=ao5 (awO h3 I he hz) e1 e2 e3
  rw[hw]at q
  obtain⟨g,l,w,k⟩:=axT q
  rw[n1,n2]
  exact⟨g,l,false,w,false,false,false,k⟩
 ·obtain⟨J,E,W⟩:=bA h1 h3 I hz
  have q:=atY (zW h1 h3 I he hz) I.i.g.len I.i.l
  rw[hw]at q
  obtain⟨o,r,k⟩:=uS W.len.1 W.len.2.1 W.len.2.2.2.1 W.len.2.2.2.2 W.len.2.2.1 q
  exact⟨true,true,o,true,true,true,r,k⟩
theorem am0{s:Ac}{d:Ap}{z:Bc}{y:Hl}{k:Nat}(h1:Es s=true)(h3:Jz s.cons.length d=true)(I:StJ s k y)(hz:d.hours[k]?=some z):
 ∃g l o w a f r,zF Bi 42 [.agg s.cells,.agg y.cells,.agg d.cells] [.agg ((nxt s d z y).as g l o).cells,.agg ((flw s d z y).as w a f r).cells] 7:=by
 have hw:=qQ h3 I hz
 have D:=bI h3 hz
 by_cases he:s.cons=[]
 ·obtain⟨e1,e2,e3,_⟩:=rZ h3 I he
  obtain⟨n1,n2⟩:=avR h1 hz h3 I he
  obtain⟨o,h',q,rfl,rfl⟩:=ao9 (own:=y.own) (fuel:=y.fuel) y.nG y.nL y.nO (awO h3 I he hz)
  rw[hw,←(yB (A:=[]) (by simp) (by simp) D.2.2.1 D.2.2.2 (own:=y.own) (by have:=I.i.own;omega)).1]at q
  rw[n1,n2]
  refine⟨false,false,false,false,false,false,false,_,[],_,?_,Ae (Jg (Ae (Hi ..) (Ae Yo (Ae (Hi ..) (Ae (Hi ..) (Ae Yo (Ae Yo Ie))))))) (Ae (Jg (Ae Yo (Ae Yo (Ae Yo (Ae Yo Ie))))) Ie),by simp,fun c hc=>(by cases hc)⟩
  have q':=q
  rw[show Ao 1 true y.nG []=Ao 1 true y.nG (y.gas.map iv) by rw[e1];rfl,show Ao 1 true y.nL []=Ao 1 true y.nL (y.bills.map iv) by rw[e2];rfl,show Ao 5 true y.nO []=Ao 5 true y.nO (y.owed.map Aa.cells) by rw[e3];rfl]at q'
  exact q'
 ·obtain⟨J,E,W⟩:=bA h1 h3 I hz
  have q:=alQ (hr:=y.hour) (own:=y.own) (fuel:=y.fuel) (nG:=y.nG) (nL:=y.nL) (nO:=y.nO) h1 h3 (B:=100000000000000*(k+1)) (by omega) I.i (zW h1 h3 I he hz)
  rw[hw]at q
  obtain⟨o,r,k⟩:=uS W.len.1 W.len.2.1 W.len.2.2.2.1 W.len.2.2.2.2 W.len.2.2.1 q
  exact⟨true,true,o,true,true,true,r,k⟩
def Su(s:Ac)(g l:Bool):Hl:=⟨0,g,s.cons.map (·.gas),0,0,l,(s.cons.map (·.gas)).map (fun _=>0),false,[]⟩
theorem amA{g:Ab}{b1 b2:Nat}(h:b2<g.length)(l m:Ab)(k:Nat):((g.set b1 .dead++l).set b2 .dead++m)[g.length+k]?=(l++m)[k]?:=by
 rw[Fa (by simpa using h),List.append_assoc,ai5 (by simp)];simp
def aoO(k:Nat)(p:List Int)(gv bv:AV)(g:Ab):Prop:=(p=[]∧gv=.nils∧bv=.nils)∨
 (p≠[]∧∃b1 b2,gv=.slr 1 (b1+k) 0 p.length∧bv=.slr 1 (b2+k) 0 p.length∧b1≠b2∧g[b1]?=some (.live 1 true false (p.map iv))∧g[b2]?=some (.live 1 true false ((p.map fun _=>(0:Int)).map iv)))
def ao3(s:Ac)(o:Eo)(h:Ab):Prop:=
 (s.cons=[]∧o=.ret (.agg [.int .i64 0,.nils,.int .i64 0,.int .i64 0,.nils,.nils])∧h=[])∨
 (s.cons≠[]∧o=.ret (.agg [.int .i64 0,.slr 1 0 0 s.cons.length,.int .i64 0,.int .i64 0,.slr 1 1 0 s.cons.length,.nils])∧h=[.live 1 true false ((s.cons.map (·.gas)).map iv),.live 1 true false (((s.cons.map (·.gas)).map fun _=>(0:Int)).map iv)])
theorem abI{s:Ac}{O:Gn}{f:Nat}{vs:List AV}(h:Ql O f vs [] (ao3 s)):∃g l,RdV O f vs (.agg (Su s g l).cells) 2:=by
 obtain⟨o,h',e,⟨he,rfl,rfl⟩|⟨he,rfl,rfl⟩⟩:=h
 ·refine⟨false,false,_,[],_,e,Jg (Ae (Hi ..) (Ae (R1:=[]) ?_ (Ae (Hi ..) (Ae (Hi ..) (Ae (R1:=[]) ?_ (Ae Yo Ie)))))),by simp,fun c hc=>by cases hc⟩
  ·simp only[Su,he,aa6];rfl
  ·simp only[Su,he,aa6];rfl
 ·have e1:∀l:List (List AV),Ao 1 true true l=.imm 1 true l:=fun l=>by cases l<;>rfl
  refine⟨true,true,_,_,_,e,Jg (Ae (Hi ..) (Ae (R1:=[0]) ?_ (Ae (Hi ..) (Ae (Hi ..) (Ae (R1:=[1]) ?_ (Ae Yo Ie)))))),by simp,fun c hc=>?_⟩
  ·show _=some (Ao 1 true true _,_)
   rw[e1];exact aaZ rfl (by simp[Su])
  ·show _=some (Ao 1 true true _,_)
   rw[e1];exact aaZ rfl (by simp[Su])
  ·simp only[List.mem_cons,List.not_mem_nil,or_false]at hc
   rcases hc with rfl|rfl<;>exact fun _=>⟨_,rfl⟩
theorem tM(s:Ac)(hl:s.cons.length≤1000):Ql Bi 63 [.agg s.cells] [] (ao3 s):=by
 refine Je rfl Tryz.func63 rfl rfl ?_
 simp only[Tryz.f63]
 (have hb:=trivial;with_reducible repeat' (first|simp only[hb,Vc.down,seval,ae0.down,aaS]|refine Af ?_ ?_<;>intro hb|refine fd ?_|fail))
 refine Cd (Np 27 s.cons (fun i (zz:List Int) t h=>t 2=.ptr 1 0 0∧t 3=.ptr 2 0 0∧t 7=Ao 11 false s.nn (s.cons.map Ag.cells)∧t 8=.int .i64 (s.cons.length:Nat)∧t 9=.int .i64 i∧(∃w gv bv g,h=.live 6 false false [s.cells]::.live 6 false false [[.int .i64 0,.nils,.int .i64 0,.int .i64 0,.nils,.nils]]::.live 6 false w [[.int .i64 0,gv,.int .i64 0,.int .i64 0,bv,.nils]]::g∧aoO 3 zz gv bv g∧zz.length≤i)) (fun rest zz=>zz++rest.map (·.gas)) (fun r e t h=>e=.exit 0∧t 2=.ptr 1 0 0∧t 3=.ptr 2 0 0∧∃w gv bv g,h=.live 6 false false [s.cells]::.live 6 false false [[.int .i64 0,.nils,.int .i64 0,.int .i64 0,.nils,.nils]]::.live 6 false w [[.int .i64 0,gv,.int .i64 0,.int .i64 0,bv,.nils]]::g∧aoO 3 r gv bv g) ?_ ?_ ([]) _ _ ?_) (fun e t h hk=>?_)
 ·rintro p t h Q' kQ ⟨h2,h3,h7,h8,h9,⟨w,gv,bv,g,rfl,hp,hpl⟩⟩
  (have hb:=trivial;with_reducible repeat' (first|simp only[hb,Vc.down,seval,ae0.down,h2,h3,h7,h8,h9,aeZ,decide_false]|refine Af ?_ ?_<;>intro hb|refine fd ?_|fail))
  exact kQ _ _ _ ⟨rfl,by simp[up,h2],by simp[up,h3],w,gv,bv,g,rfl,by simpa using hp⟩
 ·rintro x rest i p t h J Q' kJ kQ hx hi ⟨h2,h3,h7,h8,h9,⟨w,gv,bv,g,rfl,hp,hpl⟩⟩
  have hd:decide ((i:Int)<(s.cons.length:Int))=true:=decide_eq_true (by omega)
  have hw:=Ai hi (by simp[maxLen];omega)
  rcases hp with⟨rfl,rfl,rfl⟩|⟨hpn,b1,b2,rfl,rfl,hne,hg1,hg2⟩
  ·(have hb:=trivial;with_reducible repeat' (first|simp only[hb,Vc.down,seval,ae0.down,h2,h3,h7,h8,h9,hd,hx,hw,iv,aaS,Ag.cells]|refine Af ?_ ?_<;>intro hb|((refine Dh (g.length) 3 ?_ ?_);(simp (discharger:=decide) only[Dc,Bq,acK,aa6,Bf,Db,Dj,Df,Di,Bd,Bo,Br,abY,aaW];kernel_rfl);intro _)|refine Wz ?_|fail))
   (refine Ah (kJ _ _ [x.gas] ⟨?_,?_,?_,?_,?_,⟨true,_,_,_,rfl,.inr ⟨by simp,g.length+2,g.length+4,rfl,rfl,by omega,by simp[iv],by simp[iv]⟩,by simp⟩⟩ ?_);(simp[up,h2]);(simp[up,h3]);(simp[up,h7]);(simp[up,h8]);(simp[up]);(simp))
  ·have hbl1:b1<g.length:=(ae8.1 hg1).1
   have hbl2:b2<g.length:=(ae8.1 hg2).1
   have hA1:=Av hg1
   have hA2:=Av hg2
   have hS1:=Fa hbl1
   have hS2:=Fa hbl2
   have hA3:(g.set b1 .dead)[b2]?=some (.live 1 true false ((p.map fun _=>(0:Int)).map iv)):=by rw[abT hne];exact hg2
   have hA4:=Av hA3
   have hs1:La (g.length+2) 3 (b1+3)=1000:=by unfold La;rw[if_neg (by omega)];omega
   have hs2:La (g.length+2) 3 (b2+3)=1000:=by unfold La;rw[if_neg (by omega)];omega
   have hsf:∀k,2<k→La (g.length+2) 3 (g.length+k)=k+998:=fun k hk=>by unfold La;rw[if_neg (by omega)];omega
   have hi39:(p.length+1≤549755813888)=True:=eq_true (by omega)
   (have hb:=trivial;with_reducible repeat' (first|simp only[hb,Vc.down,seval,ae0.down,h2,h3,h7,h8,h9,hd,hx,hw,iv,aaS,Ag.cells,hA1,hA2,hA4,hS1,hS2,Lr,Ge,acZ,aaS,hi39]|refine Af ?_ ?_<;>intro hb|((refine Dh (g.length+2) 3 ?_ ?_);(simp (discharger:=decide) only[Dc,Bq,acK,aa6,Bf,Db,Dj,Df,Di,Bd,Bo,Br,abY,aaW,hs1,hs2,hsf];kernel_rfl);intro _)|refine Wz ?_|fail))
   (refine Ah (kJ _ _ (p++[x.gas]) ⟨?_,?_,?_,?_,?_,⟨true,_,_,_,rfl,.inr ⟨by simp,g.length+2,g.length+4,by simp,by simp,by omega,by rw[amA hbl2];simp[iv],by rw[amA hbl2];simp[iv]⟩,by simp;omega⟩⟩ ?_);(simp[up,h2]);(simp[up,h3]);(simp[up,h7]);(simp[up,h8]);(simp[up]);(simp))
 ·exact⟨by simp[up,Bw],by simp[up,Bw],by simp[up,Bw],by simp[up,Bw],by simp[up],⟨false,.nils,.nils,[],rfl,.inl ⟨rfl,rfl,rfl⟩,by simp⟩⟩
 ·obtain⟨rfl,h2,h3,w,gv,bv,g,rfl,hp⟩:=hk
  rw[aa0]at hp
  rcases hp with⟨hp0,rfl,rfl⟩|⟨hpn,b1,b2,rfl,rfl,hne,hg1,hg2⟩
  ·(have hb:=trivial;with_reducible repeat' (first|simp only[hb,Vc.down,seval,ae0.down,h2,h3]|refine Af ?_ ?_<;>intro hb|refine fd ?_|fail))
   exact .inl ⟨anI.1 hp0,rfl,rfl⟩
  ·have hn1:(b1=b2)=False:=eq_false hne
   have hn2:(b2=b1)=False:=eq_false (fun e=>hne e.symm)
   (have hb:=trivial;with_reducible repeat' (first|simp only[hb,Vc.down,seval,ae0.down,h2,h3,hg1,hg2,hn1,hn2,aaS]|refine Af ?_ ?_<;>intro hb|refine fd ?_|fail))
   exact .inr ⟨fun e=>hpn (by rw[e];rfl),rfl,rfl⟩
theorem anC(s:Ac)(hl:s.cons.length≤1000):∃g l,RdV Bi 63 [.agg s.cells] (.agg (Su s g l).cells) 2:=abI (tM s hl)
def hrK(d:Ap)(k:Nat):Bc:=(d.hours[k]?).getD ⟨0,0,0,0⟩
def Hk(s:Ac)(d:Ap):Nat→Hl
 |0=>Su s false false
 |k+1=>nxt s d (hrK d k) (Hk s d k)
def xI(s:Ac)(d:Ap)(k:Nat):Ov:=flw s d (hrK d k) (Hk s d k)
theorem azK{s:Ac}(h1:Es s=true):StJ s 0 (Su s false false):=by
 have hcs:∀c∈s.cons,Jb c=true:=ae7.1 (Qz h1)
 refine⟨rfl,⟨⟨by simp[Su],fun i c hc=>?_⟩,by simp[Su],fun i=>?_,by simp[Su],fun t ht=>by simp[Su]at ht,by simp[Su]⟩,by simp[Su]⟩
 ·have h:=hcs c (alC hc)
  simp only[Jb,Hw,acF,decide_eq_true_eq]at h
  have e:gI (Su s false false).gas i=c.gas:=by
   unfold gI Su
   simp[hc]
  rw[e];exact h.1.2
 ·have e:gI (Su s false false).bills i=0:=by
   unfold gI Su
   simp only[List.getElem?_map]
   cases s.cons[i.toNat]?<;>rfl
  rw[e];omega
theorem pL{s:Ac}(h1:Es s=true){d:Ap}(h3:Jz s.cons.length d=true):∀k,k≤d.hours.length→StJ s k (Hk s d k)
 |0,_=>azK h1
 |k+1,h=>by
  have hz:d.hours[k]?=some (hrK d k):=by unfold hrK;rw[alF (by omega)];rfl
  exact(bA h1 h3 (pL h1 h3 k (by omega)) hz).1
def nN(s:Ac)(d:Ap)(F:List Ov):Prop:=∀j f,F[j]?=some f→∃w a l r,f=(xI s d j).as w a l r
theorem nN.snoc{s:Ac}{d:Ap}{F:List Ov}(h:nN s d F){i:Nat}(hi:F.length=i)(w a l r:Bool):nN s d (F++[(xI s d i).as w a l r]):=fun j f hf=>by
 by_cases hj:j<F.length
 ·rw[alD hj]at hf;exact h j f hf
 ·rw[ai5 (by omega)]at hf
  have:j-F.length=0:=by
   by_cases h0:j-F.length=0
   ·exact h0
   ·rw[List.getElem?_eq_none (by simp;omega)]at hf;cases hf
  rw[this]at hf
  simp at hf;subst hf
  obtain rfl:j=i:=by omega
  exact⟨w,a,l,r,rfl⟩
def rG(s:Ac)(d:Ap)(i:Nat)(bx:Nat)(ov:AV)(h:Ab):Prop:=
 ∃xc Rx rows Ro g l o F,acT s.cells d.cells bx ov h xc ((Hk s d i).as g l o).cells Rx rows (F.map Ov.cells) Ro∧nN s d F∧F.length=i∧rows.length=i∧Rx.length≤7∧Ro.length≤7*i
def acS(s:Ac)(d:Ap)(X:AV)(Y:AV):Prop:=∃g l o F,X=.agg ((Hk s d d.hours.length).as g l o).cells∧Y=Ao 4 false false (F.map Ov.cells)∧nN s d F∧F.length=d.hours.length
theorem Rq{g:HF}{xc:List AV}{y:Hl}{R:List Nat}(h:Pj (rd 5 g) xc=some (y.cells,R)):∃gv bv ov,xc=[.int .i64 y.hour,gv,.int .i64 y.own,.int .i64 y.fuel,bv,ov]∧(gv.isCell=true∧gv.flat=false)∧(bv.isCell=true∧bv.flat=false)∧(ov.isCell=true∧ov.flat=false):=by
 obtain⟨a0,l0,R0,R0',rfl,k0,h,_⟩:=Fz h
 obtain⟨a1,l1,R1,R1',rfl,k1,h,_⟩:=Fz h
 obtain⟨a2,l2,R2,R2',rfl,k2,h,_⟩:=Fz h
 obtain⟨a3,l3,R3,R3',rfl,k3,h,_⟩:=Fz h
 obtain⟨a4,l4,R4,R4',rfl,k4,h,_⟩:=Fz h
 obtain⟨a5,l5,R5,R5',rfl,k5,h,_⟩:=Fz h
 obtain⟨rfl,_⟩:=fD h
 obtain⟨rfl,_⟩:=rQ k0
 obtain⟨rfl,_⟩:=rQ k2
 obtain⟨rfl,_⟩:=rQ k3
 exact⟨a1,a4,a5,rfl,cO k1,cO k4,cO k5⟩
theorem abV{g:HF}{fc:List AV}{y:Ov}{R:List Nat}(h:Pj (rd 5 g) fc=some (y.cells,R)):∃a b c d,fc=[a,b,c,d]∧(a.isCell=true∧a.flat=false)∧(b.isCell=true∧b.flat=false)∧(c.isCell=true∧c.flat=false)∧(d.isCell=true∧d.flat=false):=by
 obtain⟨a0,l0,R0,R0',rfl,k0,h,_⟩:=Fz h
 obtain⟨a1,l1,R1,R1',rfl,k1,h,_⟩:=Fz h
 obtain⟨a2,l2,R2,R2',rfl,k2,h,_⟩:=Fz h
 obtain⟨a3,l3,R3,R3',rfl,k3,h,_⟩:=Fz h
 obtain⟨rfl,_⟩:=fD h
 exact⟨a0,a1,a2,a3,rfl,cO k0,cO k1,cO k2,cO k3⟩
theorem rG.call{s:Ac}{d:Ap}{i bx:Nat}{ov:AV}{h:Ab}{f:Nat}(I:rG s d i bx ov h){z:Bc}(hz:d.hours[i]?=some z)
 (C:∀g l o,∃g' l' o' w a fl r,zF Bi f [.agg s.cells,.agg ((Hk s d i).as g l o).cells,.agg d.cells] [.agg ((nxt s d z (Hk s d i)).as g' l' o').cells,.agg ((flw s d z (Hk s d i)).as w a fl r).cells] 7):
 ∃gv bv ow w es H1 gv' bv' ow' a b c e,h[bx]?=some (.live 6 false w [[.int .i64 (Hk s d i).hour,gv,.int .i64 (Hk s d i).own,.int .i64 (Hk s d i).fuel,bv,ow]])∧
  h[0]?=some (.live 6 false false [s.cells])∧h[1]?=some (.live 3 false false [d.cells])∧
  cl Bi h (some (.func (.func f) [] [])) (some [.agg s.cells,.agg [.int .i64 (Hk s d i).hour,gv,.int .i64 (Hk s d i).own,.int .i64 (Hk s d i).fuel,bv,ow],.agg d.cells])=
   some (.ret (.tup [.agg [.int .i64 (Hk s d (i+1)).hour,gv',.int .i64 (Hk s d (i+1)).own,.int .i64 (Hk s d (i+1)).fuel,bv',ow'],.agg [a,b,c,e]]),es)∧Ba h es=H1∧
  (gv'.isCell=true∧gv'.flat=false)∧(bv'.isCell=true∧bv'.flat=false)∧(ow'.isCell=true∧ow'.flat=false)∧(a.isCell=true∧a.flat=false)∧(b.isCell=true∧b.flat=false)∧(c.isCell=true∧c.flat=false)∧(e.isCell=true∧e.flat=false)∧
  bx<H1.length∧3≤bx∧(∃w,H1[bx]?=some (.live 6 false w [[.int .i64 (Hk s d i).hour,gv,.int .i64 (Hk s d i).own,.int .i64 (Hk s d i).fuel,bv,ow]]))∧(∃rows,rows.length=i∧Do 0 4 false rows ov H1∧(∀st m r n,ov=.slr st m r n→3≤m∧m≠bx∧m<H1.length)∧
   ∀x y u:CB,rG s d (i+1) bx (.slr 4 (H1.length+3) 0 (i+1)) (kl 0 ov (H1.set bx (.live 6 false true [[.int .i64 (Hk s d (i+1)).hour,gv',.int .i64 (Hk s d (i+1)).own,.int .i64 (Hk s d (i+1)).fuel,bv',ow']]))++[x,y,u,.live 4 false false (rows++[[a,b,c,e]])])):=by
 obtain⟨xc,Rx,rows,Ro,g,l,o,F,I,hF,hFl,hrl,hRx,hRo⟩:=I
 obtain⟨g',l',o',w,a,fl,r,K⟩:=C g l o
 have hk:hrK d i=z:=by unfold hrK;rw[hz];rfl
 obtain⟨gv,bv,ow,rfl,_,_,_⟩:=Rq I.x
 obtain⟨wx,hbx⟩:=I.bxw
 have hx6:rd 6 (hf h) (.agg [.int .i64 (Hk s d i).hour,gv,.int .i64 (Hk s d i).own,.int .i64 (Hk s d i).fuel,bv,ow])=some (.agg ((Hk s d i).as g l o).cells,Rx):=Jg I.x
 have hv:cT h (.agg [.int .i64 (Hk s d i).hour,gv,.int .i64 (Hk s d i).own,.int .i64 (Hk s d i).fuel,bv,ow])=some (.agg ((Hk s d i).as g l o).cells):=Yl (show 6≤12 by omega) hx6
 have hs:cT h (.agg s.cells)=some (.agg s.cells):=Jk _ (d:=8) (by omega) (by simp[Ac.cells,Ju,Qi,Ej])
 have hd:cT h (.agg d.cells)=some (.agg d.cells):=Jk _ (d:=8) (by omega) (by simp[Ap.cells,Ju,Ej])
 obtain⟨outs,es,H1,R,e1,e2,e3,e4,e5,e6⟩:=K.cl (H:=h) (args:=[.agg s.cells,.agg [.int .i64 (Hk s d i).hour,gv,.int .i64 (Hk s d i).own,.int .i64 (Hk s d i).fuel,bv,ow],.agg d.cells]) rfl
  (by simp only[Qr,Ue,hs,hv,hd,Oc]) (by simp[Ju,Qi,Ej])
 obtain⟨v1,l1,R1,R1',rfl,k1,h1,rfl⟩:=Fz e4
 obtain⟨v2,l2,R2,R2',rfl,k2,h2,rfl⟩:=Fz h1
 obtain⟨rfl,rfl⟩:=fD h2
 obtain⟨xc',rfl,hx'⟩:=lO k1
 obtain⟨fc',rfl,hf'⟩:=lO k2
 obtain⟨gv',bv',ow',rfl,p1,p2,p3⟩:=Rq hx'
 obtain⟨f1,f2,f3,f4,rfl,p4,p5,p6,p7⟩:=abV hf'
 have hl:∀b∈[AV.agg s.cells,.agg [.int .i64 (Hk s d i).hour,gv,.int .i64 (Hk s d i).own,.int .i64 (Hk s d i).fuel,bv,ow],.agg d.cells].flatMap (Be 12 (hf h)),b∈Rx:=fun b hb=>by
  rw[afM,afM,afM,alE,Iy (d:=8) (v:=.agg s.cells) _ (by omega) (by simp[Ac.cells,Ju,Qi,Ej]),Iy (d:=8) (v:=.agg d.cells) _ (by omega) (by simp[Ap.cells,Ju,Ej]),aa0,abO,abO]at hb
  exact kK hx6 b hb
 obtain⟨c0,c1,c2,c3,hbl,c4⟩:=I.call e3 hl
 have hle:=e3.len
 have en:∀g l o,((nxt s d z (Hk s d i)).as g l o).cells=((Hk s d (i+1)).as g l o).cells:=fun g l o=>by show _=((nxt s d (hrK d i) (Hk s d i)).as g l o).cells;rw[hk]
 have ef:(flw s d z (Hk s d i)).as w a fl r=(xI s d i).as w a fl r:=by unfold xI;rw[hk]
 rw[en]at hx'
 have e0:nxt s d z (Hk s d i)=Hk s d (i+1):=by show _=nxt s d (hrK d i) (Hk s d i);rw[hk]
 refine⟨gv,bv,ow,wx,es,H1,gv',bv',ow',f1,f2,f3,f4,hbx,I.b0,I.b1,by rw[←e0];exact e1,e2,p1,p2,p3,p4,p5,p6,p7,by omega,I.bx3,⟨wx,by rw[c3];exact hbx⟩,rows,hrl,c4,fun st m r n e=>?_,fun x y u=>?_⟩
 ·obtain⟨q1,q2,_,q3⟩:=I.dov st m r n e
  exact⟨q1,q2,by omega⟩
 ·have N:=I.next e3 hl (xc':=[.int .i64 (Hk s d (i+1)).hour,gv',.int .i64 (Hk s d (i+1)).own,.int .i64 (Hk s d (i+1)).fuel,bv',ow']) (by rw[←e0]at hx' ⊢;exact hx') hf' (fun b hb=>e6 b (by simpa using hb)) x y u rfl (n:=i+1) (by rw[hrl])
  refine⟨[.int .i64 (Hk s d (i+1)).hour,gv',.int .i64 (Hk s d (i+1)).own,.int .i64 (Hk s d (i+1)).fuel,bv',ow'],R1,rows++[[f1,f2,f3,f4]],Ro++R2,g',l',o',F++[(xI s d i).as w a fl r],?_,hF.snoc hFl w a fl r,by simp[hFl],by simp[hrl],?_,?_⟩
  ·rw[List.map_append,acK,aa6,←ef];rw[e0]at N;exact N
  ·simp only[ab9]at e5;omega
  ·simp only[ab9,aaW]at e5 ⊢;omega
theorem _root_.Go.Ev.Do.setx{st:Nat}{fl:Bool}{rows:List (List AV)}{v:AV}{g:Ab}{bx n:Nat}(h:Do 0 st fl rows v g)(hov:∀a m r k,v=.slr a m r k→3≤m∧m≠bx∧m<n)(c:CB):Do 0 st fl rows v (g.set bx c):=by
 rcases h with h|⟨b,w,h1,h2⟩
 ·exact .inl h
 ·exact .inr ⟨b,w,h1,by rw[abT (fun e=>(hov _ _ _ _ h1).2.1 (by omega))];exact h2⟩
theorem awE{s:Ac}{d:Ap}(hs:s.small)(hd:d.small)(v1:Es s=true)(v3:Jz s.cons.length d=true):
 ∃X Y,acS s d X Y∧zF Bi 25 [.agg s.cells,.agg d.cells] [X,Y,.int .i64 0] 400:=by
 suffices k:Ql Bi 25 [.agg s.cells,.agg d.cells] [] fun o h'=>∃X Y outs R,acS s d X Y∧o=.ret (.tup outs)∧Pj (rd 6 (hf h')) outs=some ([X,Y,.int .i64 0],R)∧R.length≤400∧∀c∈h',Rnm c by
  obtain⟨o,h',e,X,Y,outs,R,hq,r⟩:=k
  exact⟨X,Y,hq,zF.of ⟨o,h',e,outs,R,r⟩⟩
 have c1:=eU s hs
 have c2:=apZ d hd s.cons.length
 rw[v1]at c1
 rw[v3]at c2
 obtain⟨nG,nL,K⟩:=anC s (by have:=(Px v1).len;omega)
 have hD:d.hours.length≤48:=by
  simp only[Jz,acF,decide_eq_true_eq]at v3;exact v3.1.1.1.1.1
 have HB:Ab:=[]
 obtain⟨v,es,H1,R,e1,e2,e3,e4,e5,e6⟩:=K.cl (H:=[.live 6 false false [s.cells],.live 3 false false [d.cells],.live 6 false false [[.int .i64 0,.nils,.int .i64 0,.int .i64 0,.nils,.nils]]]) (args:=[.agg s.cells]) rfl
  (by
    have hs:cT [.live 6 false false [s.cells],.live 3 false false [d.cells],.live 6 false false [[.int .i64 0,.nils,.int .i64 0,.int .i64 0,.nils,.nils]]] (.agg s.cells)=some (.agg s.cells):=Jk _ (d:=8) (by omega) (by simp[Ac.cells,Ju,Qi,Ej])
    simp only[Qr,Ue,hs,Oc]) (by simp[Ju,Qi,Ej])
 obtain⟨xc,rfl,hx⟩:=lO e4
 obtain⟨gv,bv,ov,rfl,⟨p1,p1'⟩,⟨p2,p2'⟩,⟨p3,p3'⟩⟩:=Rq hx
 obtain⟨q,hq⟩:∃q,Fn.func 63=q:=⟨_,rfl⟩
 obtain⟨q2,hq2⟩:∃q,Fn.func 64=q:=⟨_,rfl⟩
 rw[hq]at e1
 have lent0:[AV.agg s.cells].flatMap (Be 12 (hf [.live 6 false false [s.cells],.live 3 false false [d.cells],.live 6 false false [[.int .i64 0,.nils,.int .i64 0,.int .i64 0,.nils,.nils]]]))=[]:=by
  rw[afM,alE,Iy (d:=8) (v:=.agg s.cells) _ (by omega) (by simp[Ac.cells,Ju,Qi,Ej])];rfl
 rw[lent0]at e3
 have b0:H1[0]?=some (.live 6 false false [s.cells]):=e3.same 0 (by simp) (by simp)
 have b1:H1[1]?=some (.live 3 false false [d.cells]):=e3.same 1 (by simp) (by simp)
 have b2:H1[2]?=some (.live 6 false false [[.int .i64 0,.nils,.int .i64 0,.int .i64 0,.nils,.nils]]):=e3.same 2 (by simp) (by simp)
 have hle:3≤H1.length:=e3.len
 have g1:=Av b1
 have P0:∀w,rG s d 0 H1.length .nils (H1++[.live 6 false w [[.int .i64 (Su s nG nL).hour,gv,.int .i64 (Su s nG nL).own,.int .i64 (Su s nG nL).fuel,bv,ov]]]):=fun w=>
  ⟨_,R,[],[],nG,nL,false,[],⟨Av b0 _,g1 _,Av b2 _,hle,⟨w,by rw[ai5 (by omega),Nat.sub_self];rfl⟩,Wb hx (fun j hj z hz=>by
     show((H1++_)[j]?).bind Dl=_
     rw[alD (bF (by omega) hx j hj)];exact hz),Do.nil ..,fun _=>rfl,rfl,fun j hj=>by
     have a:=e6 j (by simpa using hj)
     have b:=bF (by omega) hx j (by simpa using hj)
     simp at a;omega,fun _ _ _ _ e=>by cases e⟩,fun j f hf=>by simp at hf,rfl,rfl,by omega,by simp⟩
 refine Je rfl Tryz.func25 rfl rfl ?_
 simp only[Tryz.f25]
 refine Gs (fun KK iN hK=>?_)
 simp only[Ap.cells]at c2
 (have hb:=trivial;with_reducible repeat' (first|simp only[hb,Vc.down,seval,xR.down,Ap.cells,c1,c2,hq,e1,e2,g1,aaS,p1,p2,p3,p1',p2',p3',adV,aeH,aeM,aeP]|refine Af ?_ ?_<;>intro hb|refine fd ?_|fail))
 refine Cd (Np 45 d.hours (fun i (_:Unit) t h=>t 2=.ptr 0 0 0∧t 3=.ptr 1 0 0∧t 4=.ptr 2 0 0∧t 7=.ptr H1.length 0 0∧t 27=.int .i64 (d.hours.length:Nat)∧t 28=.int .i64 i∧rG s d i H1.length (t 8) h) (fun _ _=>())
  (fun _ e t h=>e=.exit 0∧t 4=.ptr 2 0 0∧t 7=.ptr H1.length 0 0∧rG s d d.hours.length H1.length (t 8) h) ?_ ?_ () _ _ ?_) (fun e t h hk=>?_)
 ·rintro _ t h Q' kQ ⟨h2,h3,h4,h7,h27,h28,hP⟩
  (have hb:=trivial;with_reducible repeat' (first|simp only[hb,Vc.down,seval,xR.down,h27,h28,aeZ,decide_false]|refine Af ?_ ?_<;>intro hb|refine fd ?_|fail))
  exact kQ _ _ _ ⟨rfl,by simp[up,h4],by simp[up,h7],by simpa [up]using hP⟩
 ·rintro z rest i _ t h J Q' kJ kQ hx hi ⟨h2,h3,h4,h7,h27,h28,hP⟩
  have hdd:decide ((i:Int)<(d.hours.length:Int))=true:=decide_eq_true (by omega)
  have hw:=Ai hi (by unfold maxLen;omega)
  obtain⟨xv,h8⟩:∃xv,t 8=xv:=⟨_,rfl⟩
  rw[h8]at hP
  obtain⟨gv,bv,ow,w,es,H2,gv',bv',ow',a,b,c,e,hbx,hb0,hb1,ec,eh,⟨p1,p1'⟩,⟨p2,p2'⟩,⟨p3,p3'⟩,⟨p4,p4'⟩,⟨p5,p5'⟩,⟨p6,p6'⟩,⟨p7,p7'⟩,hbl,hb3,⟨w2,hbx2⟩,rows,hrl,hown,hov,hN⟩:=hP.call hx (fun g l o=>apB v1 v3 ((pL v1 v3 i (by omega)).of rfl rfl rfl rfl rfl rfl) hx)
  rw[hq2]at ec
  have hA:=Av hbx2
  have hS:=Fa hbl
  have ho2:=hown.setx hov (.live 6 false true [[.int .i64 (Hk s d (i+1)).hour,gv',.int .i64 (Hk s d (i+1)).own,.int .i64 (Hk s d (i+1)).fuel,bv',ow']])
  have hap:=fun(q:Ab) (r:List AV)=>bW ho2 (pre:=[]) rfl q r [] (by simp;omega)
  have hhp:=fun(q:Ab) (r:List (List AV)) (ba:Nat)=>Xu ho2 (pre:=[]) rfl q 4 false r ba
  simp only[aa0,abY,ab9,aaW,acZ,Nat.reduceAdd,hrl]at hap hhp
  simp only[Ap.cells]at ec hb1
  (have hb:=trivial;with_reducible repeat' (first|simp only[hb,Vc.down,seval,xR.down,h2,h3,h7,h8,h27,h28,hdd,hw,hq2,hb0,hb1,hbx,ec,eh,hA,hS,Lr,Ge,acZ,hap,hhp,p1,p2,p3,p1',p2',p3',p4,p5,p6,p7,p4',p5',p6',p7',adV,aeH,aeM,aeP]|refine Af ?_ ?_<;>intro hb|refine fd ?_|fail))
  refine Ah (kJ _ _ () ⟨by simp[up,h2],by simp[up,h3],by simp[up,h4],by simp[up,h7],by simp[up,h27],by simp[up],?_⟩ rfl)
  exact hN _ _ _
 ·exact⟨by simp[up,Bw],by simp[up,Bw],by simp[up,Bw],by simp[up],by simp[up],by simp[up],P0 _⟩
 ·obtain⟨rfl,h4,h7,xc,Rx,rows,Ro,g,l,o,F,I,hF,hFl,hrl,hRx,hRo⟩:=hk
  obtain⟨xv,h8⟩:∃xv,t 8=xv:=⟨_,rfl⟩
  rw[h8]at I
  obtain⟨gv,bv,ow,rfl,⟨p1,p1'⟩,⟨p2,p2'⟩,⟨p3,p3'⟩⟩:=Rq I.x
  obtain⟨w,hbx⟩:=I.bxw
  have hb2:=I.b2
  have hs2:∀c,(h.set 2 c)[2]?=some c:=fun c=>af4 (Jh I.b2)
  (have hb:=trivial;with_reducible repeat' (first|simp only[hb,Vc.down,seval,xR.down,h4,h7,h8,hbx,hb2,hs2,p1,p2,p3,p1',p2',p3',adV,aeH,aeM,aeP]|refine Af ?_ ?_<;>intro hb|refine fd ?_|fail))
  have agr:∀(R:List Nat) c,(∀j∈R,3≤j)→Agr R (hf h) (hf (h.set 2 c)):=fun R c hR j hj z hz=>by
   show((h.set 2 c)[j]?).bind Dl=_
   rw[abT (by have:=hR j hj;omega)];exact hz
  have own:=I.own.setx (bx:=2) (n:=h.length) (fun a m r k e=>by obtain⟨q1,_,_,q2⟩:=I.dov a m r k e;exact⟨q1,by omega,q2⟩) (.live 6 false true [[.int .i64 ((Hk s d d.hours.length).as g l o).hour,gv,.int .i64 ((Hk s d d.hours.length).as g l o).own,.int .i64 ((Hk s d d.hours.length).as g l o).fuel,bv,ow]])
  obtain⟨R2,r1,r2⟩:=ahA (d:=5) own (Yw I.q (agr _ _ fun j hj=>(I.dx j (anY _ hj)).1)) I.nil
  refine hK _ ?_
  rw[yZ]
  refine aiD (vs:=[.agg [.int .i64 ((Hk s d d.hours.length).as g l o).hour,gv,.int .i64 ((Hk s d d.hours.length).as g l o).own,.int .i64 ((Hk s d d.hours.length).as g l o).fuel,bv,ow],xv,.int .i64 0]) ?_ (aaY (Ae (Jg (Wb I.x (agr _ _ fun j hj=>(I.dx j (apM _ hj)).1))) (Ae r1 (Ae (Hi ..) Ie))) ?_ rfl fun outs h' R' k1 k2 k3=>⟨_,_,outs,R',⟨g,l,o,F,rfl,rfl,hF,hFl⟩,rfl,k1,?_,k3⟩)
  ·simp only[Vc.down,seval,xR.down,h4,hs2]
  ·simp only[ab9,aaW]at r2 ⊢;omega
  ·rw[k2];simp only[ab9,aaW]at r2 ⊢;omega
theorem mT(s:Ac)(hl:s.cons.length≤1000):Ql Bi 34 [.agg s.cells] [] (ao3 s):=by
 refine Je rfl Tryz.func34 rfl rfl ?_
 simp only[Tryz.f34]
 (have hb:=trivial;with_reducible repeat' (first|simp only[hb,Vc.down,seval,aeS.down,aaS]|refine Af ?_ ?_<;>intro hb|refine fd ?_|fail))
 refine Cd (Np 29 s.cons (fun i (zz:List Int) t h=>t 1=.ptr 0 0 0∧t 2=.ptr 1 0 0∧t 3=.ptr 2 0 0∧t 4=.int .i64 i∧(∃w gv bv g,h=.live 6 false false [s.cells]::.live 6 false false [[.int .i64 0,.nils,.int .i64 0,.int .i64 0,.nils,.nils]]::.live 6 false w [[.int .i64 0,gv,.int .i64 0,.int .i64 0,bv,.nils]]::g∧aoO 3 zz gv bv g∧zz.length≤i)) (fun rest zz=>zz++rest.map (·.gas)) (fun r e t h=>e=.exit 0∧t 2=.ptr 1 0 0∧t 3=.ptr 2 0 0∧∃w gv bv g,h=.live 6 false false [s.cells]::.live 6 false false [[.int .i64 0,.nils,.int .i64 0,.int .i64 0,.nils,.nils]]::.live 6 false w [[.int .i64 0,gv,.int .i64 0,.int .i64 0,bv,.nils]]::g∧aoO 3 r gv bv g) ?_ ?_ ([]) _ _ ?_) (fun e t h hk=>?_)
 ·rintro p t h Q' kQ ⟨h1,h2,h3,h4,⟨w,gv,bv,g,rfl,hp,hpl⟩⟩
  (have hb:=trivial;with_reducible repeat' (first|simp only[hb,Vc.down,seval,aeS.down,h1,h2,h3,h4,aeZ,decide_false]|refine Af ?_ ?_<;>intro hb|refine fd ?_|fail))
  exact kQ _ _ _ ⟨rfl,by simp[up,h2],by simp[up,h3],w,gv,bv,g,rfl,by simpa using hp⟩
 ·rintro x rest i p t h J Q' kJ kQ hx hi ⟨h1,h2,h3,h4,⟨w,gv,bv,g,rfl,hp,hpl⟩⟩
  have hd:decide ((i:Int)<(s.cons.length:Int))=true:=decide_eq_true (by omega)
  have hw:=Ai hi (by simp[maxLen];omega)
  rcases hp with⟨rfl,rfl,rfl⟩|⟨hpn,b1,b2,rfl,rfl,hne,hg1,hg2⟩
  ·(have hb:=trivial;with_reducible repeat' (first|simp only[hb,Vc.down,seval,aeS.down,h1,h2,h3,h4,hd,hx,hw,iv,aaS,Ag.cells]|refine Af ?_ ?_<;>intro hb|((refine Dh (g.length) 3 ?_ ?_);(simp (discharger:=decide) only[Dc,Bq,acK,aa6,Bf,Db,Dj,Df,Di,Bd,Bo,Br,abY,aaW];kernel_rfl);intro _)|refine Wz ?_|fail))
   (refine Ah (kJ _ _ [x.gas] ⟨?_,?_,?_,?_,⟨true,_,_,_,rfl,.inr ⟨by simp,g.length+1,g.length+3,rfl,rfl,by omega,by simp[iv],by simp[iv]⟩,by simp⟩⟩ ?_);(simp[up,h1]);(simp[up,h2]);(simp[up,h3]);(simp[up]);(simp))
  ·have hbl1:b1<g.length:=(ae8.1 hg1).1
   have hbl2:b2<g.length:=(ae8.1 hg2).1
   have hA1:=Av hg1
   have hA2:=Av hg2
   have hS1:=Fa hbl1
   have hS2:=Fa hbl2
   have hA3:(g.set b1 .dead)[b2]?=some (.live 1 true false ((p.map fun _=>(0:Int)).map iv)):=by rw[abT hne];exact hg2
   have hA4:=Av hA3
   have hs1:La (g.length+2) 3 (b1+3)=1000:=by unfold La;rw[if_neg (by omega)];omega
   have hs2:La (g.length+2) 3 (b2+3)=1000:=by unfold La;rw[if_neg (by omega)];omega
   have hsf:∀k,2<k→La (g.length+2) 3 (g.length+k)=k+998:=fun k hk=>by unfold La;rw[if_neg (by omega)];omega
   have hi39:(p.length+1≤549755813888)=True:=eq_true (by omega)
   (have hb:=trivial;with_reducible repeat' (first|simp only[hb,Vc.down,seval,aeS.down,h1,h2,h3,h4,hd,hx,hw,iv,aaS,Ag.cells,hA1,hA2,hA4,hS1,hS2,Lr,Ge,acZ,aaS,hi39]|refine Af ?_ ?_<;>intro hb|((refine Dh (g.length+2) 3 ?_ ?_);(simp (discharger:=decide) only[Dc,Bq,acK,aa6,Bf,Db,Dj,Df,Di,Bd,Bo,Br,abY,aaW,hs1,hs2,hsf];kernel_rfl);intro _)|refine Wz ?_|fail))
   (refine Ah (kJ _ _ (p++[x.gas]) ⟨?_,?_,?_,?_,⟨true,_,_,_,rfl,.inr ⟨by simp,g.length+1,g.length+3,by simp,by simp,by omega,by rw[amA hbl2];simp[iv],by rw[amA hbl2];simp[iv]⟩,by simp;omega⟩⟩ ?_);(simp[up,h1]);(simp[up,h2]);(simp[up,h3]);(simp[up]);(simp))
 ·exact⟨by simp[up,Bw],by simp[up,Bw],by simp[up,Bw],by simp[up],⟨false,.nils,.nils,[],rfl,.inl ⟨rfl,rfl,rfl⟩,by simp⟩⟩
 ·obtain⟨rfl,h2,h3,w,gv,bv,g,rfl,hp⟩:=hk
  rw[aa0]at hp
  rcases hp with⟨hp0,rfl,rfl⟩|⟨hpn,b1,b2,rfl,rfl,hne,hg1,hg2⟩
  ·(have hb:=trivial;with_reducible repeat' (first|simp only[hb,Vc.down,seval,aeS.down,h2,h3]|refine Af ?_ ?_<;>intro hb|refine fd ?_|fail))
   exact .inl ⟨anI.1 hp0,rfl,rfl⟩
  ·have hn1:(b1=b2)=False:=eq_false hne
   have hn2:(b2=b1)=False:=eq_false (fun e=>hne e.symm)
   (have hb:=trivial;with_reducible repeat' (first|simp only[hb,Vc.down,seval,aeS.down,h2,h3,hg1,hg2,hn1,hn2,aaS]|refine Af ?_ ?_<;>intro hb|refine fd ?_|fail))
   exact .inr ⟨fun e=>hpn (by rw[e];rfl),rfl,rfl⟩
theorem alS(s:Ac)(hl:s.cons.length≤1000):∃g l,RdV Bi 34 [.agg s.cells] (.agg (Su s g l).cells) 2:=abI (mT s hl)
theorem avY{s:Ac}{d:Ap}(hs:s.small)(hd:d.small)(v1:Es s=true)(v3:Jz s.cons.length d=true):
 ∃X Y,acS s d X Y∧zF Bi 35 [.agg s.cells,.agg d.cells] [X,Y] 400:=by
 suffices k:Ql Bi 35 [.agg s.cells,.agg d.cells] [] fun o h'=>∃X Y outs R,acS s d X Y∧o=.ret (.tup outs)∧Pj (rd 6 (hf h')) outs=some ([X,Y],R)∧R.length≤400∧∀c∈h',Rnm c by
  obtain⟨o,h',e,X,Y,outs,R,hq,r⟩:=k
  exact⟨X,Y,hq,zF.of ⟨o,h',e,outs,R,r⟩⟩
 obtain⟨nG,nL,K⟩:=alS s (by have:=(Px v1).len;omega)
 have hD:d.hours.length≤48:=by
  simp only[Jz,acF,decide_eq_true_eq]at v3;exact v3.1.1.1.1.1
 have HB:Ab:=[]
 obtain⟨v,es,H1,R,e1,e2,e3,e4,e5,e6⟩:=K.cl (H:=[.live 6 false false [s.cells],.live 3 false false [d.cells],.live 6 false false [[.int .i64 0,.nils,.int .i64 0,.int .i64 0,.nils,.nils]]]) (args:=[.agg s.cells]) rfl
  (by
    have hs:cT [.live 6 false false [s.cells],.live 3 false false [d.cells],.live 6 false false [[.int .i64 0,.nils,.int .i64 0,.int .i64 0,.nils,.nils]]] (.agg s.cells)=some (.agg s.cells):=Jk _ (d:=8) (by omega) (by simp[Ac.cells,Ju,Qi,Ej])
    simp only[Qr,Ue,hs,Oc]) (by simp[Ju,Qi,Ej])
 obtain⟨xc,rfl,hx⟩:=lO e4
 obtain⟨gv,bv,ov,rfl,⟨p1,p1'⟩,⟨p2,p2'⟩,⟨p3,p3'⟩⟩:=Rq hx
 obtain⟨q,hq⟩:∃q,Fn.func 34=q:=⟨_,rfl⟩
 obtain⟨q2,hq2⟩:∃q,Fn.func 42=q:=⟨_,rfl⟩
 rw[hq]at e1
 have lent0:[AV.agg s.cells].flatMap (Be 12 (hf [.live 6 false false [s.cells],.live 3 false false [d.cells],.live 6 false false [[.int .i64 0,.nils,.int .i64 0,.int .i64 0,.nils,.nils]]]))=[]:=by
  rw[afM,alE,Iy (d:=8) (v:=.agg s.cells) _ (by omega) (by simp[Ac.cells,Ju,Qi,Ej])];rfl
 rw[lent0]at e3
 have b0:H1[0]?=some (.live 6 false false [s.cells]):=e3.same 0 (by simp) (by simp)
 have b1:H1[1]?=some (.live 3 false false [d.cells]):=e3.same 1 (by simp) (by simp)
 have b2:H1[2]?=some (.live 6 false false [[.int .i64 0,.nils,.int .i64 0,.int .i64 0,.nils,.nils]]):=e3.same 2 (by simp) (by simp)
 have hle:3≤H1.length:=e3.len
 have g1:=Av b1
 have P0:∀w,rG s d 0 H1.length .nils (H1++[.live 6 false w [[.int .i64 (Su s nG nL).hour,gv,.int .i64 (Su s nG nL).own,.int .i64 (Su s nG nL).fuel,bv,ov]]]):=fun w=>
  ⟨_,R,[],[],nG,nL,false,[],⟨Av b0 _,g1 _,Av b2 _,hle,⟨w,by rw[ai5 (by omega),Nat.sub_self];rfl⟩,Wb hx (fun j hj z hz=>by
     show((H1++_)[j]?).bind Dl=_
     rw[alD (bF (by omega) hx j hj)];exact hz),Do.nil ..,fun _=>rfl,rfl,fun j hj=>by
     have a:=e6 j (by simpa using hj)
     have b:=bF (by omega) hx j (by simpa using hj)
     simp at a;omega,fun _ _ _ _ e=>by cases e⟩,fun j f hf=>by simp at hf,rfl,rfl,by omega,by simp⟩
 refine Je rfl Tryz.func35 rfl rfl ?_
 simp only[Tryz.f35]
 refine Gs (fun KK iN hK=>?_)
 (have hb:=trivial;with_reducible repeat' (first|simp only[hb,Vc.down,seval,ac3.down,Ap.cells,hq,e1,e2,g1,aaS,p1,p2,p3,p1',p2',p3',adV,aeH,aeM,aeP]|refine Af ?_ ?_<;>intro hb|refine fd ?_|fail))
 refine Cd (Np 34 d.hours (fun i (_:Unit) t h=>t 2=.ptr 0 0 0∧t 3=.ptr 1 0 0∧t 4=.ptr 2 0 0∧t 6=.ptr H1.length 0 0∧t 8=.int .i64 i∧rG s d i H1.length (t 7) h) (fun _ _=>())
  (fun _ e t h=>e=.exit 0∧t 4=.ptr 2 0 0∧t 6=.ptr H1.length 0 0∧rG s d d.hours.length H1.length (t 7) h) ?_ ?_ () _ _ ?_) (fun e t h hk=>?_)
 ·rintro _ t h Q' kQ ⟨h2,h3,h4,h6,h8,hP⟩
  obtain⟨xc,Rx,rows,Ro,g,l,o,F,I,hF⟩:=id hP
  have hb1:=I.b1
  (have hb:=trivial;with_reducible repeat' (first|simp only[hb,Vc.down,seval,ac3.down,Ap.cells,h3,h8,hb1,aaS,aeZ,decide_false]|refine Af ?_ ?_<;>intro hb|refine fd ?_|fail))
  exact kQ _ _ _ ⟨rfl,by simp[up,h4],by simp[up,h6],by simpa [up]using hP⟩
 ·rintro z rest i _ t h J Q' kJ kQ hx hi ⟨h2,h3,h4,h6,h8,hP⟩
  have hdd:decide ((i:Int)<(d.hours.length:Int))=true:=decide_eq_true (by omega)
  have hw:=Ai hi (by unfold maxLen;omega)
  obtain⟨xv,h7⟩:∃xv,t 7=xv:=⟨_,rfl⟩
  rw[h7]at hP
  obtain⟨gv,bv,ow,w,es,H2,gv',bv',ow',a,b,c,e,hbx,hb0,hb1,ec,eh,⟨p1,p1'⟩,⟨p2,p2'⟩,⟨p3,p3'⟩,⟨p4,p4'⟩,⟨p5,p5'⟩,⟨p6,p6'⟩,⟨p7,p7'⟩,hbl,hb3,⟨w2,hbx2⟩,rows,hrl,hown,hov,hN⟩:=hP.call hx (fun g l o=>am0 v1 v3 ((pL v1 v3 i (by omega)).of rfl rfl rfl rfl rfl rfl) hx)
  rw[hq2]at ec
  have hdm:((d.hours.map Bc.cells).length:Nat)=d.hours.length:=aaS ..
  have hA:=Av hbx2
  have hS:=Fa hbl
  have ho2:=hown.setx hov (.live 6 false true [[.int .i64 (Hk s d (i+1)).hour,gv',.int .i64 (Hk s d (i+1)).own,.int .i64 (Hk s d (i+1)).fuel,bv',ow']])
  have hap:=fun(q:Ab) (r:List AV)=>bW ho2 (pre:=[]) rfl q r [] (by simp;omega)
  have hhp:=fun(q:Ab) (r:List (List AV)) (ba:Nat)=>Xu ho2 (pre:=[]) rfl q 4 false r ba
  simp only[aa0,abY,ab9,aaW,acZ,Nat.reduceAdd,hrl]at hap hhp
  simp only[Ap.cells]at ec hb1
  have hH2:0<H2.length:=by omega
  have hsb:La (H2.length-1) 3 H1.length=1000:=by unfold La;rw[if_neg (by omega)];omega
  have hs0:La (H2.length-1) 3 H2.length=1001:=by unfold La;rw[if_neg (by omega)];omega
  have hsf:∀k,La (H2.length-1) 3 (H2.length+k)=k+1001:=fun k=>by unfold La;rw[if_neg (by omega)];omega
  have fin:∀(t':Tm) (h':Ab) ,t' 2=.ptr 0 0 0→t' 3=.ptr 1 0 0→t' 4=.ptr 2 0 0→t' 6=.ptr H1.length 0 0→t' 8=.int .i64 ((i+1:Nat):Int)→t' 7=.slr 4 (H2.length+3) 0 (i+1)→(∃x y u,h'=kl 0 xv (H2.set H1.length (.live 6 false true [[.int .i64 (Hk s d (i+1)).hour,gv',.int .i64 (Hk s d (i+1)).own,.int .i64 (Hk s d (i+1)).fuel,bv',ow']]))++[x,y,u,.live 4 false false (rows++[[a,b,c,e]])])→J t' h':=fun t' h' a2 a3 a4 a6 a8 a7 ⟨x,y,u,hh⟩=>
   kJ _ _ () ⟨a2,a3,a4,a6,a8,by rw[a7,hh];exact hN x y u⟩ rfl
  rcases hown with⟨hr0,rfl⟩|⟨bo,wo,rfl,hbo⟩
  ·subst hr0
   (have hb:=trivial;with_reducible repeat' (first|simp only[hb,Vc.down,seval,ac3.down,Ap.cells,h2,h3,h6,h7,h8,hdd,hw,hq2,hb0,hb1,hbx,ec,eh,hA,hS,Lr,Ge,acZ,aaS,p1,p2,p3,p1',p2',p3',p4,p5,p6,p7,p4',p5',p6',p7',adV,aeH,aeM,aeP]|refine Af ?_ ?_<;>intro hb|((refine Dh (H2.length-1) 3 ?_ ?_);(simp (discharger:=decide) only[Dc,Bq,acK,aa6,Bf,Db,Dj,Df,Di,Bd,Bo,Br,abY,aaW,hsb,hs0,hsf];kernel_rfl);intro _)|refine Wz ?_|fail))
   have hi0:i=0:=hrl.symm
   exact Ah (fin _ _ (by simp[up,h2]) (by simp[up,h3]) (by simp[up,h4]) (by simp[up,h6]) (by simp[up]) (by simp[up,hi0]) ⟨_,_,_,rfl⟩)
  ·have hbl2:bo<H2.length:=(ae8.1 hbo).1
   have hbn:bo≠H1.length:=fun e=>(hov _ _ _ _ rfl).2.1 (by omega)
   have hb3':3≤bo:=(hov _ _ _ _ rfl).1
   have hA2:=Av hbo
   have hA3:∀q,(H2.set H1.length q)[bo]?=some (.live 4 false wo rows):=fun q=>by rw[abT (fun e=>hbn e.symm)];exact hbo
   have hso:La (H2.length-1) 3 bo=1000:=by unfold La;rw[if_neg (by omega)];omega
   have hS2:=Fa hbl2
   have hA4:∀l,(H2.set bo .dead++l)[H1.length]?=_:=Av (by rw[abT hbn];exact hbx2)
   have hS4:=fun(l:Ab) (c:CB)=>Fa (h:=H2.set bo .dead) (b:=H1.length) (by simpa using hbl) l c
   have hi39:(i+1≤549755813888)=True:=eq_true (by omega)
   (have hb:=trivial;with_reducible repeat' (first|simp only[hb,Vc.down,seval,ac3.down,Ap.cells,Nat.add_zero,h2,h3,h6,h7,h8,hdd,hw,hq2,hb0,hb1,hbx,ec,eh,hA,hS,hA2,hS2,hA4,hS4,hrl,hi39,Lr,Ge,acZ,aaS,p1,p2,p3,p1',p2',p3',p4,p5,p6,p7,p4',p5',p6',p7',adV,aeH,aeM,aeP]|refine Af ?_ ?_<;>intro hb|((refine Dh (H2.length-1) 3 ?_ ?_);(simp (discharger:=decide) only[Dc,Bq,acK,aa6,Bf,Db,Dj,Df,Di,Bd,Bo,Br,abY,aaW,hsb,hs0,hsf,hso];kernel_rfl);intro _)|refine Wz ?_|fail))
   exact Ah (fin _ _ (by simp[up,h2]) (by simp[up,h3]) (by simp[up,h4]) (by simp[up,h6]) (by simp[up]) (by simp[up]) ⟨_,_,_,by rw[List.set_comm _ _ hbn];rfl⟩)
 ·exact⟨by simp[up,Bw],by simp[up,Bw],by simp[up,Bw],by simp[up],by simp[up],P0 _⟩
 ·obtain⟨rfl,h4,h6,xc,Rx,rows,Ro,g,l,o,F,I,hF,hFl,hrl,hRx,hRo⟩:=hk
  obtain⟨xv,h7⟩:∃xv,t 7=xv:=⟨_,rfl⟩
  rw[h7]at I
  obtain⟨gv,bv,ow,rfl,⟨p1,p1'⟩,⟨p2,p2'⟩,⟨p3,p3'⟩⟩:=Rq I.x
  obtain⟨w,hbx⟩:=I.bxw
  have hb2:=I.b2
  have hs2:∀c,(h.set 2 c)[2]?=some c:=fun c=>af4 (Jh I.b2)
  (have hb:=trivial;with_reducible repeat' (first|simp only[hb,Vc.down,seval,ac3.down,h4,h6,h7,hbx,hb2,hs2,p1,p2,p3,p1',p2',p3',adV,aeH,aeM,aeP]|refine Af ?_ ?_<;>intro hb|refine fd ?_|fail))
  have agr:∀(R:List Nat) c,(∀j∈R,3≤j)→Agr R (hf h) (hf (h.set 2 c)):=fun R c hR j hj z hz=>by
   show((h.set 2 c)[j]?).bind Dl=_
   rw[abT (by have:=hR j hj;omega)];exact hz
  have own:=I.own.setx (bx:=2) (n:=h.length) (fun a m r k e=>by obtain⟨q1,_,_,q2⟩:=I.dov a m r k e;exact⟨q1,by omega,q2⟩) (.live 6 false true [[.int .i64 ((Hk s d d.hours.length).as g l o).hour,gv,.int .i64 ((Hk s d d.hours.length).as g l o).own,.int .i64 ((Hk s d d.hours.length).as g l o).fuel,bv,ow]])
  obtain⟨R2,r1,r2⟩:=ahA (d:=5) own (Yw I.q (agr _ _ fun j hj=>(I.dx j (anY _ hj)).1)) I.nil
  refine hK _ ?_
  rw[yZ]
  refine aiD (vs:=[.agg [.int .i64 ((Hk s d d.hours.length).as g l o).hour,gv,.int .i64 ((Hk s d d.hours.length).as g l o).own,.int .i64 ((Hk s d d.hours.length).as g l o).fuel,bv,ow],xv]) ?_ (aaY (Ae (Jg (Wb I.x (agr _ _ fun j hj=>(I.dx j (apM _ hj)).1))) (Ae r1 Ie)) ?_ rfl fun outs h' R' k1 k2 k3=>⟨_,_,outs,R',⟨g,l,o,F,rfl,rfl,hF,hFl⟩,rfl,k1,?_,k3⟩)
  ·simp only[Vc.down,seval,ac3.down,h4,hs2]
  ·simp only[ab9,aaW]at r2 ⊢;omega
  ·rw[k2];simp only[ab9,aaW]at r2 ⊢;omega
def aiO(d:Ap):Bool:=decide (d.hours.length≤53)&&decide (d.noms.length≤210)&&decide (d.trades.length≤60)
theorem aaQ(d:Ap):Bi.call (.fn 23) [.agg d.cells] []=some (.ret (.bool (aiO d)),[]):=by
 have l1:decide ((d.hours.length:Int)≤53)=decide (d.hours.length≤53):=by rw[decide_eq_decide];omega
 have l2:decide ((d.noms.length:Int)≤210)=decide (d.noms.length≤210):=by rw[decide_eq_decide];omega
 have l3:decide ((d.trades.length:Int)≤60)=decide (d.trades.length≤60):=by rw[decide_eq_decide];omega
 (refine ce Tryz.func23 ?_;simp only[Tryz.f23];(have hb:=trivial;with_reducible repeat' (first|simp only[hb,Vc.down,seval,azM.down,Ap.cells,aaS,l1,l2,l3]|refine Af ?_ ?_<;>intro hb|refine fd ?_|fail)))
 all_goals (refine congrArg (fun b=>(Eo.ret (AV.bool b),([]:Ab))) ?_;simp_all[aiO];try (intros;omega))
theorem tR:Bi.call (.fn 27) [zSt,zSt] []=some (.ret (.bool true),[]):=by
 have:=Vl (hr:=0) (own:=0) (fuel:=0) (G:=[]) (L:=[]) (O:=[]) (g1:=false) (g2:=false) (l1:=false) (l2:=false) (o1:=false) (o2:=false) (by simp) (by simp) (by simp)
 simpa [Gi,zSt]using this
theorem aiQ{s:Ac}{d:Ap}(hs:s.small)(hd:d.small)(h:(Es s&&Jz s.cons.length d)=false):
 Bi.call (.fn 25) [.agg s.cells,.agg d.cells] []=some (.ret (.tup [zSt,.nils,.int .i64 2]),[]):=by
 have c1:=eU s hs
 have c3:=apZ d hd s.cons.length
 simp only[Ap.cells]at c3
 cases h1:Es s with
 |false=>
  rw[h1]at c1
  (refine ce Tryz.func25 ?_;simp only[Tryz.f25];(have hb:=trivial;with_reducible repeat' (first|simp only[hb,Vc.down,seval,xR.down,Ap.cells,c1,aaS]|refine Af ?_ ?_<;>intro hb|refine fd ?_|fail)))
  all_goals rfl
 |true=>
  rw[h1]at c1
  rw[h1]at h
  have h3:Jz s.cons.length d=false:=by simpa using h
  rw[h3]at c3
  (refine ce Tryz.func25 ?_;simp only[Tryz.f25];(have hb:=trivial;with_reducible repeat' (first|simp only[hb,Vc.down,seval,xR.down,Ap.cells,c1,c3,aaS]|refine Af ?_ ?_<;>intro hb|refine fd ?_|fail)))
  all_goals rfl
theorem ak8{s:Ac}(hs:s.small)(h:Es s=false):Bi.call (.fn 33) [.agg s.cells] []=some (.ret (.tup [zSt,.int .i64 2]),[]):=by
 have c1:=eU s hs
 rw[h]at c1
 (refine ce Tryz.func33 ?_;simp only[Tryz.f33];(have hb:=trivial;with_reducible repeat' (first|simp only[hb,Vc.down,seval,av2.down,c1]|refine Af ?_ ?_<;>intro hb|refine fd ?_|fail)))
 all_goals rfl
theorem vY{s:Ac}(hs:s.small)(h:Es s=true):Ql Bi 33 [.agg s.cells] [] (fun o h'=>∃v,o=.ret (.tup [v,.int .i64 0])∧ao3 s (.ret v) h'):=by
 have c1:=eU s hs
 rw[h]at c1
 have hl:=(Px h).len
 have h39:(s.cons.length≤549755813888)=True:=eq_true (by omega)
 obtain⟨o,h',e,hq⟩:=tM s (by omega)
 rcases hq with⟨he,rfl,rfl⟩|⟨he,rfl,rfl⟩<;>(
  refine Je rfl Tryz.func33 rfl rfl ?_
  simp only[Tryz.f33]
  (have hb:=trivial;with_reducible repeat' (first|simp only[hb,Vc.down,seval,av2.down,c1,e,aaS,h39]|refine Af ?_ ?_<;>intro hb|refine fd ?_|fail)))
 ·exact⟨_,rfl,.inl ⟨he,rfl,rfl⟩⟩
 ·exact⟨_,rfl,.inr ⟨he,rfl,rfl⟩⟩
def iL(s:Ac)(d:Ap):Bool:=gG s.cons&&aiO d&& !(decide (12<d.hours.length)&&decide (d.hours.length≤48))
theorem apG(hk:Bi.call (.fn 15) [] []=some (.ret (.bool true),[]))(s:Ac)(hs:s.small)(d:Ap)(h:iL s d=false):
 Bi.call (.fn 9) [.agg s.cells,.agg d.cells] []=some (.ret (.bool true),[]):=by
 have h1:=kL (nn:=s.nn) hs.cons
 have h2:=aaQ d
 simp only[Ap.cells]at h2
 have l1:decide ((12:Int)<(d.hours.length:Int))=decide (12<d.hours.length):=by rw[decide_eq_decide];omega
 have l2:decide ((d.hours.length:Int)≤48)=decide (d.hours.length≤48):=by rw[decide_eq_decide];omega
 have key:¬(gG s.cons=true∧aiO d=true∧¬(12<d.hours.length∧d.hours.length≤48)):=fun⟨a,b,c⟩=>by simp[iL,a,b]at h;exact c h
 (refine ce Tryz.func9 ?_;simp only[Tryz.f9];(have hb:=trivial;with_reducible repeat' (first|simp only[hb,Vc.down,seval,sG.down,Ap.cells,h1,h2,l1,l2,hk,aaS]|refine Af ?_ ?_<;>intro hb|refine fd ?_|fail)))
 all_goals (exfalso;refine key ⟨?_,?_,?_⟩<;>clear key h<;>simp_all<;>intros<;>omega)
theorem kZ{s:Ac}{d:Ap}(h:iL s d=true):gG s.cons=true∧aiO d=true∧(decide ((12:Int)<(d.hours.length:Int))=false∨(decide ((12:Int)<(d.hours.length:Int))=true∧decide ((d.hours.length:Int)≤48)=false)):=by
 simp only[iL,acF,Bool.not_eq_true',Bool.and_eq_false_iff,decide_eq_false_iff_not]at h
 refine⟨h.1.1,h.1.2,?_⟩
 rcases h.2 with h|h
 ·exact .inl (decide_eq_false (by omega))
 ·by_cases h12:d.hours.length≤12
  ·exact .inl (decide_eq_false (by omega))
  ·exact .inr ⟨decide_eq_true (by omega),decide_eq_false (by omega)⟩
theorem amV(hk:Bi.call (.fn 15) [] []=some (.ret (.bool true),[]))(s:Ac)(hs:s.small)(d:Ap)(hd:d.small)(h:iL s d=true)(v1:Es s=false):
 Bi.call (.fn 9) [.agg s.cells,.agg d.cells] []=some (.ret (.bool true),[]):=by
 obtain⟨g1,g2,g3⟩:=kZ h
 have h1:=kL (nn:=s.nn) hs.cons
 have h2:=aaQ d
 rw[g1]at h1
 rw[g2]at h2
 have c0:=aiQ hs hd (by rw[v1];rfl)
 have c1:=rU s hs
 have c2:=ak8 hs v1
 have c4:=tR
 rw[v1]at c1
 simp only[Ap.cells]at h2 c0
 simp only[zSt]at c0 c2 c4
 rcases g3 with g3|⟨g3,g4⟩
 ·(refine ce Tryz.func9 ?_;simp only[Tryz.f9];(have hb:=trivial;with_reducible repeat' (first|simp only[hb,Vc.down,seval,sG.down,Ap.cells,h1,h2,g3,c0,c1,c2,c4,hk,aaS,Nw,Int.reduceBEq]|refine Af ?_ ?_<;>intro hb|refine fd ?_|fail)))
 ·(refine ce Tryz.func9 ?_;simp only[Tryz.f9];(have hb:=trivial;with_reducible repeat' (first|simp only[hb,Vc.down,seval,sG.down,Ap.cells,h1,h2,g3,g4,c0,c1,c2,c4,hk,aaS,Nw,Int.reduceBEq]|refine Af ?_ ?_<;>intro hb|refine fd ?_|fail)))
end Go.Proofs.YtdbiogihimdpcaaGreatDoor
