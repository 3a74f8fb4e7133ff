/- The functions of the layer, walked. -/
import Derived.Test.YtdbiogihimdpcaaGreatDoorPartAG
import Derived.Test.YtdbiogihimdpcaaGreatDoorPartAB
import Derived.Test.YtdbiogihimdpcaaGreatDoorPartAC
set_option linter.unusedSimpArgs false
set_option linter.unusedVariables false
/- Layer 6: an hour, whole (book.step). -/
namespace Go.Proofs.YtdbiogihimdpcaaGreatDoor
open Go.Ev Go
set_option maxRecDepth 100000
set_option maxHeartbeats 16000000
def stO(n:Nat)(hr own fuel:Int)(ov wv av fv rv:AV):Out:=.ret (.tup [.agg [.int .i64 hr,.slr 1 0 0 n,.int .i64 own,.int .i64 fuel,.slr 1 1 0 n,ov],.agg [wv,av,fv,rv]])
def lv1(w:Bool)(l:List Int):CB:=.live 1 true w (l.map iv)
def lv5(w:Bool)(l:List BTrade):CB:=.live 5 true w (l.map BTrade.cells)
/-- What comes of an hour: the state and the flow, and their blocks. -/
def StepQ(n:Nat)(hr own fuel:Int)(G L:List Int)(O:List BTrade)(R W A F:List Int)(o:Out)(h:Heap):Prop:=
 ∃w1 w2 w3 w4 w5 w6 w7:Bool,
  (O=[]∧R=[]∧o=stO n hr own fuel .nils (.slr 1 2 0 n) (.slr 1 3 0 n) (.slr 1 4 0 n) .nils∧h=[lv1 w1 G,lv1 w2 L,lv1 w3 W,lv1 w4 A,lv1 w5 F])∨
  (R=[]∧o=stO n hr own fuel (.slr 5 2 0 O.length) (.slr 1 3 0 n) (.slr 1 4 0 n) (.slr 1 5 0 n) .nils∧h=[lv1 w1 G,lv1 w2 L,lv5 w6 O,lv1 w3 W,lv1 w4 A,lv1 w5 F])∨
  (O=[]∧R≠[]∧o=stO n hr own fuel .nils (.slr 1 2 0 n) (.slr 1 3 0 n) (.slr 1 4 0 n) (.slr 1 5 0 R.length)∧h=[lv1 w1 G,lv1 w2 L,lv1 w3 W,lv1 w4 A,lv1 w5 F,lv1 w7 R])∨
  (R≠[]∧o=stO n hr own fuel (.slr 5 2 0 O.length) (.slr 1 3 0 n) (.slr 1 4 0 n) (.slr 1 5 0 n) (.slr 1 6 0 R.length)∧h=[lv1 w1 G,lv1 w2 L,lv5 w6 O,lv1 w3 W,lv1 w4 A,lv1 w5 F,lv1 w7 R])
theorem e_stepN{s:BStore}{d:BDay}{hr own fuel:Int}{x:BHour}{G L:List Int}{O:List BTrade}{nG nL nO:Bool}(K:HourOK s d hr x O)(hG:G.length=s.cons.length)(hL:L.length=s.cons.length)(hO:O=[]∧nO=false):
 ClQ om' 64 [.agg s.cells,.agg [.int .i64 hr,slv 1 true nG (G.map iv),.int .i64 own,.int .i64 fuel,slv 1 true nL (L.map iv),slv 5 true nO (O.map BTrade.cells)],.agg d.cells] []
  (StepQ s.cons.length (IntKind.i64.wrap (hr+1)) (own5 s d hr x G L O own) (G6 s d hr x G L O fuel).2 (G6 s d hr x G L O fuel).1 (L7 s d hr x G L O) (T2 s d hr G L O).2.1 (T2 s d hr G L O).2.2 (W3 s d hr G L O) (A4 s d hr x G L O) (F5 s d hr x G L O)):=by
 have hlen:=K.len
 have hp:0<s.cons.length:=List.length_pos_iff.2 K.ne
 have hGn:G≠[]:=fun e=>by rw[e]at hG;simp at hG;omega
 have hLn:L≠[]:=fun e=>by rw[e]at hL;simp at hL;omega
 obtain⟨hO1,rfl⟩:=hO
 have hsl:slv 5 true false (O.map BTrade.cells)=.nils:=by rw[hO1];rfl
 have hc1:=e_cloneInt (l:=G) (by omega) hGn
 have hc2:=e_cloneInt (l:=L) (by omega) hLn
 have hct:om'.call (.fn 103) [.nils] []=some (.ret .nils,[]):=e_cloneTrN
 have hb7:=bld_7 7
 simp only[fnV,fnL,List.map_cons,List.map_nil]at hb7
 rw[hG]at hc1
 rw[hL]at hc2
 rw[slv_ne (n:=1) (fl:=true) (nn:=nG) (map_ne hGn),slv_ne (n:=1) (fl:=true) (nn:=nL) (map_ne hLn)]
 refine stOf rfl Tryz.func64 rfl rfl ?_
 simp only[Tryz.f64]
 (have hb:=trivial;with_reducible repeat' (first|simp only[hb,Vc.down,seval,TY64.down,hc1,hc2,hct,hsl,BDay.cells,hb7,List.map_nil]|refine fsp ?_ ?_<;>intro hb|refine fd ?_|fail))
 refine fw_ot (lst 66 fnL (fun i (_:Unit) t h=>t 8=.ptr 7 0 0∧t 6=.ptr 3 0 0∧t 7=.ptr 4 0 0∧t 42=.agg (fnL.map (fnV 7))∧t 43=.int .i64 i∧Fr34 h∧StS s d hr own fuel x G L O 7 i h) (fun _ _=>()) (fun _ e t h=>e=.exit 0∧t 8=.ptr 7 0 0∧t 6=.ptr 3 0 0∧t 7=.ptr 4 0 0∧Fr34 h∧StS s d hr own fuel x G L O 7 7 h) ?_ ?_ () _ _ ?_) (fun e t h hk=>?_)
 ·rintro _ t h Q' kQ ⟨h8,h6,h7,h42,h43,hF,hS⟩
  rw[show fnL.length=7 from rfl]at h43 hS
  have h77:decide (((7:Nat):Int)<7)=false:=by decide
  (have hb:=trivial;with_reducible repeat' (first|simp only[hb,Vc.down,seval,TY64.down,h43,h77]|refine fsp ?_ ?_<;>intro hb|refine fd ?_|fail))
  exact kQ _ _ _ ⟨rfl,by simp[up,h8],by simp[up,h6],by simp[up,h7],hF,hS⟩
 ·rintro f rest i _ t h J Q' kJ kQ hx hi ⟨h8,h6,h7,h42,h43,hF,hS⟩
  have hi7:i<7:=hi
  have hd:decide ((i:Int)<7)=true:=decide_eq_true (by omega)
  have hw:IntKind.i64.wrap ((i:Int)+1)=((i+1:Nat):Int):=wrap_next (n:=7) hi7 (by unfold maxLen;omega)
  obtain⟨es,e,hB,hS'⟩:=st_all K hx hS
  have hii:((i:Int)<7)=True:=eq_true (by omega)
  (have hb:=trivial;with_reducible repeat' (first|simp only[hb,Vc.down,seval,TY64.down,h42,h43,hd,hw,ix_7,hii,Nat.mul_one,hx,e]|refine fsp ?_ ?_<;>intro hb|refine fd ?_|fail))
  refine rnd_go (kJ _ _ () ⟨?_,?_,?_,?_,?_,?_,hS'⟩ rfl)
  ·simp[up,h8]
  ·simp[up,h6]
  ·simp[up,h7]
  ·simp[up,h42,fnV]
  ·simp[up]
  ·exact⟨by obtain⟨⟨fl,w,hw1⟩,_⟩:=hF;exact⟨fl,w,by rw[hB 3 (by omega)];exact hw1⟩,by obtain⟨_,fl,w,hw1⟩:=hF;exact⟨fl,w,by rw[hB 4 (by omega)];exact hw1⟩⟩
 ·refine⟨by simp[up],by simp[up],by simp[up],by simp[up,fnL,fnV],by simp[up],⟨⟨_,_,rfl⟩,⟨_,_,rfl⟩⟩,?_⟩
  exact⟨by omega,hG,hL,_,_,_,_,_,rfl,rfl,rfl,.inl ⟨hO1,rfl⟩,.inl ⟨rfl,rfl⟩⟩
 ·obtain⟨rfl,h8,h6,h7,⟨⟨f3,v3,h3⟩,f4,v4,h4⟩,H⟩:=hk
  obtain⟨r,hqr⟩:∃r:Nat,r=7:=⟨_,rfl⟩
  replace h8:t 8=.ptr r 0 0:=by rw[hqr];exact h8
  replace H:StS s d hr own fuel x G L O r 7 h:=by rw[hqr];exact H
  obtain⟨hr6,hG',hL',hWl,hAl,hFl,w,w1,w2,ov,rv,iw,ia,jf,w4,w6,w7,hR,hg,h6b,hov,hrv,hw,hw6,ha,ha6,hf,hf6,d01,d02,d12⟩:=H
  clear hqr
  have hsr:sftN r 7 r=1000:=by unfold sftN;rw[if_neg (by omega)];omega
  have l1:=h_lt hR
  have y1:=eq_true l1
  have y2:=eq_true (h_lt h3)
  have y3:=eq_true (h_lt h4)
  have z1:(r=3)=False:=eq_false (by omega)
  have z2:(r=4)=False:=eq_false (by omega)
  have z3:∀k,6<k→(3=k)=False:=fun k hk=>eq_false (by omega)
  have z4:∀k,6<k→(4=k)=False:=fun k hk=>eq_false (by omega)
  have zr:=z3 r hr6
  have zr':=z4 r hr6
  have zw:=z3 iw hw6
  have zw':=z4 iw hw6
  have za:=z3 ia ha6
  have za':=z4 ia ha6
  have zf:=z3 jf hf6
  have zf':=z4 jf hf6
  rcases hov with⟨hO2,rfl⟩|⟨io,w3,rfl,hio,hio6⟩<;>rcases hrv with⟨hR2,rfl⟩|⟨iq,w5,hRn,rfl,hiq,hiq6,hqx⟩
  ·have n_0_1:(r=5)=False:=eq_false (by omega)
   have n_0_2:(r=6)=False:=eq_false (by omega)
   have n_0_3:(r=iw)=False:=eq_false fun e=>by subst e;rw[hR]at hw;simp at hw
   have qn_0_3:r≠iw:=of_eq_false n_0_3
   have n_0_4:(r=ia)=False:=eq_false fun e=>by subst e;rw[hR]at ha;simp at ha
   have qn_0_4:r≠ia:=of_eq_false n_0_4
   have n_0_5:(r=jf)=False:=eq_false fun e=>by subst e;rw[hR]at hf;simp at hf
   have qn_0_5:r≠jf:=of_eq_false n_0_5
   have n_1_3:(5=iw)=False:=eq_false (by omega)
   have n_1_4:(5=ia)=False:=eq_false (by omega)
   have n_1_5:(5=jf)=False:=eq_false (by omega)
   have n_2_3:(6=iw)=False:=eq_false (by omega)
   have n_2_4:(6=ia)=False:=eq_false (by omega)
   have n_2_5:(6=jf)=False:=eq_false (by omega)
   have n_3_4:(iw=ia)=False:=eq_false d01
   have qn_3_4:iw≠ia:=of_eq_false n_3_4
   have n_3_5:(iw=jf)=False:=eq_false d02
   have qn_3_5:iw≠jf:=of_eq_false n_3_5
   have n_4_5:(ia=jf)=False:=eq_false d12
   have qn_4_5:ia≠jf:=of_eq_false n_4_5
   (have hb:=trivial;with_reducible repeat' (first|simp only[hb,Vc.down,seval,TY64.down,h8,h6,h7,h3,h4,List.getElem?_set,List.length_set,hR,hg,h6b,hw,ha,hf,n_0_1,n_0_2,n_0_3,n_0_4,n_0_5,n_1_3,n_1_4,n_1_5,n_2_3,n_2_4,n_2_5,n_3_4,n_3_5,n_4_5,y1,y2,y3,z1,z2,zr,zr',zw,zw',za,za',zf,zf']|refine fsp ?_ ?_<;>intro hb|((refine fw_gdF (r) 7 ?_ ?_);(simp (discharger:=decide) only[lg_nil,lg_cons,List.map_cons,List.map_nil,mf_cells,mf_blk,mf_all,ef_new,ef_cells,sft_lit,sft_add,List.length_cons,List.length_nil,hsr];kernel_rfl);intro _)|refine fdq ?_|fail))
   exact⟨w1,w2,w4,w6,w7,false,false,.inl ⟨hO2,hR2,rfl,rfl⟩⟩
  ·have n_0_1:(r=5)=False:=eq_false (by omega)
   have n_0_2:(r=6)=False:=eq_false (by omega)
   have n_0_3:(r=iw)=False:=eq_false fun e=>by subst e;rw[hR]at hw;simp at hw
   have qn_0_3:r≠iw:=of_eq_false n_0_3
   have n_0_4:(r=ia)=False:=eq_false fun e=>by subst e;rw[hR]at ha;simp at ha
   have qn_0_4:r≠ia:=of_eq_false n_0_4
   have n_0_5:(r=jf)=False:=eq_false fun e=>by subst e;rw[hR]at hf;simp at hf
   have qn_0_5:r≠jf:=of_eq_false n_0_5
   have n_0_6:(r=iq)=False:=eq_false fun e=>by subst e;rw[hR]at hiq;simp at hiq
   have qn_0_6:r≠iq:=of_eq_false n_0_6
   have n_1_3:(5=iw)=False:=eq_false (by omega)
   have n_1_4:(5=ia)=False:=eq_false (by omega)
   have n_1_5:(5=jf)=False:=eq_false (by omega)
   have n_1_6:(5=iq)=False:=eq_false (by omega)
   have n_2_3:(6=iw)=False:=eq_false (by omega)
   have n_2_4:(6=ia)=False:=eq_false (by omega)
   have n_2_5:(6=jf)=False:=eq_false (by omega)
   have n_2_6:(6=iq)=False:=eq_false (by omega)
   have n_3_4:(iw=ia)=False:=eq_false d01
   have qn_3_4:iw≠ia:=of_eq_false n_3_4
   have n_3_5:(iw=jf)=False:=eq_false d02
   have qn_3_5:iw≠jf:=of_eq_false n_3_5
   have n_3_6:(iw=iq)=False:=eq_false fun e=>by subst e;simp at hqx
   have qn_3_6:iw≠iq:=of_eq_false n_3_6
   have n_4_5:(ia=jf)=False:=eq_false d12
   have qn_4_5:ia≠jf:=of_eq_false n_4_5
   have n_4_6:(ia=iq)=False:=eq_false fun e=>by subst e;simp at hqx
   have qn_4_6:ia≠iq:=of_eq_false n_4_6
   have n_5_6:(jf=iq)=False:=eq_false fun e=>by subst e;simp at hqx
   have qn_5_6:jf≠iq:=of_eq_false n_5_6
   have l5:=h_lt hiq
   have zq:=z3 iq hiq6
   have zq':=z4 iq hiq6
   (have hb:=trivial;with_reducible repeat' (first|simp only[hb,Vc.down,seval,TY64.down,h8,h6,h7,h3,h4,List.getElem?_set,List.length_set,hR,hg,h6b,hw,ha,hf,hiq,n_0_1,n_0_2,n_0_3,n_0_4,n_0_5,n_0_6,n_1_3,n_1_4,n_1_5,n_1_6,n_2_3,n_2_4,n_2_5,n_2_6,n_3_4,n_3_5,n_3_6,n_4_5,n_4_6,n_5_6,y1,y2,y3,z1,z2,zr,zr',zw,zw',za,za',zf,zf',zq,zq']|refine fsp ?_ ?_<;>intro hb|((refine fw_gdF (r) 7 ?_ ?_);(simp (discharger:=decide) only[lg_nil,lg_cons,List.map_cons,List.map_nil,mf_cells,mf_blk,mf_all,ef_new,ef_cells,sft_lit,sft_add,List.length_cons,List.length_nil,hsr];kernel_rfl);intro _)|refine fdq ?_|fail))
   exact⟨w1,w2,w4,w6,w7,false,w5,.inr (.inr (.inl ⟨hO2,hRn,rfl,rfl⟩))⟩
  ·have n_0_1:(r=5)=False:=eq_false (by omega)
   have n_0_2:(r=6)=False:=eq_false (by omega)
   have n_0_3:(r=io)=False:=eq_false fun e=>by subst e;rw[hR]at hio;simp at hio
   have qn_0_3:r≠io:=of_eq_false n_0_3
   have n_0_4:(r=iw)=False:=eq_false fun e=>by subst e;rw[hR]at hw;simp at hw
   have qn_0_4:r≠iw:=of_eq_false n_0_4
   have n_0_5:(r=ia)=False:=eq_false fun e=>by subst e;rw[hR]at ha;simp at ha
   have qn_0_5:r≠ia:=of_eq_false n_0_5
   have n_0_6:(r=jf)=False:=eq_false fun e=>by subst e;rw[hR]at hf;simp at hf
   have qn_0_6:r≠jf:=of_eq_false n_0_6
   have n_1_3:(5=io)=False:=eq_false (by omega)
   have n_1_4:(5=iw)=False:=eq_false (by omega)
   have n_1_5:(5=ia)=False:=eq_false (by omega)
   have n_1_6:(5=jf)=False:=eq_false (by omega)
   have n_2_3:(6=io)=False:=eq_false (by omega)
   have n_2_4:(6=iw)=False:=eq_false (by omega)
   have n_2_5:(6=ia)=False:=eq_false (by omega)
   have n_2_6:(6=jf)=False:=eq_false (by omega)
   have n_3_4:(io=iw)=False:=eq_false fun e=>by subst e;rw[hio]at hw;simp at hw
   have qn_3_4:io≠iw:=of_eq_false n_3_4
   have n_3_5:(io=ia)=False:=eq_false fun e=>by subst e;rw[hio]at ha;simp at ha
   have qn_3_5:io≠ia:=of_eq_false n_3_5
   have n_3_6:(io=jf)=False:=eq_false fun e=>by subst e;rw[hio]at hf;simp at hf
   have qn_3_6:io≠jf:=of_eq_false n_3_6
   have n_4_5:(iw=ia)=False:=eq_false d01
   have qn_4_5:iw≠ia:=of_eq_false n_4_5
   have n_4_6:(iw=jf)=False:=eq_false d02
   have qn_4_6:iw≠jf:=of_eq_false n_4_6
   have n_5_6:(ia=jf)=False:=eq_false d12
   have qn_5_6:ia≠jf:=of_eq_false n_5_6
   have l4:=h_lt hio
   have zo:=z3 io hio6
   have zo':=z4 io hio6
   (have hb:=trivial;with_reducible repeat' (first|simp only[hb,Vc.down,seval,TY64.down,h8,h6,h7,h3,h4,List.getElem?_set,List.length_set,hR,hg,h6b,hio,hw,ha,hf,n_0_1,n_0_2,n_0_3,n_0_4,n_0_5,n_0_6,n_1_3,n_1_4,n_1_5,n_1_6,n_2_3,n_2_4,n_2_5,n_2_6,n_3_4,n_3_5,n_3_6,n_4_5,n_4_6,n_5_6,y1,y2,y3,z1,z2,zr,zr',zw,zw',za,za',zf,zf',zo,zo']|refine fsp ?_ ?_<;>intro hb|((refine fw_gdF (r) 7 ?_ ?_);(simp (discharger:=decide) only[lg_nil,lg_cons,List.map_cons,List.map_nil,mf_cells,mf_blk,mf_all,ef_new,ef_cells,sft_lit,sft_add,List.length_cons,List.length_nil,hsr];kernel_rfl);intro _)|refine fdq ?_|fail))
   exact⟨w1,w2,w4,w6,w7,w3,false,.inr (.inl ⟨hR2,rfl,rfl⟩)⟩
  ·have n_0_1:(r=5)=False:=eq_false (by omega)
   have n_0_2:(r=6)=False:=eq_false (by omega)
   have n_0_3:(r=io)=False:=eq_false fun e=>by subst e;rw[hR]at hio;simp at hio
   have qn_0_3:r≠io:=of_eq_false n_0_3
   have n_0_4:(r=iw)=False:=eq_false fun e=>by subst e;rw[hR]at hw;simp at hw
   have qn_0_4:r≠iw:=of_eq_false n_0_4
   have n_0_5:(r=ia)=False:=eq_false fun e=>by subst e;rw[hR]at ha;simp at ha
   have qn_0_5:r≠ia:=of_eq_false n_0_5
   have n_0_6:(r=jf)=False:=eq_false fun e=>by subst e;rw[hR]at hf;simp at hf
   have qn_0_6:r≠jf:=of_eq_false n_0_6
   have n_0_7:(r=iq)=False:=eq_false fun e=>by subst e;rw[hR]at hiq;simp at hiq
   have qn_0_7:r≠iq:=of_eq_false n_0_7
   have n_1_3:(5=io)=False:=eq_false (by omega)
   have n_1_4:(5=iw)=False:=eq_false (by omega)
   have n_1_5:(5=ia)=False:=eq_false (by omega)
   have n_1_6:(5=jf)=False:=eq_false (by omega)
   have n_1_7:(5=iq)=False:=eq_false (by omega)
   have n_2_3:(6=io)=False:=eq_false (by omega)
   have n_2_4:(6=iw)=False:=eq_false (by omega)
   have n_2_5:(6=ia)=False:=eq_false (by omega)
   have n_2_6:(6=jf)=False:=eq_false (by omega)
   have n_2_7:(6=iq)=False:=eq_false (by omega)
   have n_3_4:(io=iw)=False:=eq_false fun e=>by subst e;rw[hio]at hw;simp at hw
   have qn_3_4:io≠iw:=of_eq_false n_3_4
   have n_3_5:(io=ia)=False:=eq_false fun e=>by subst e;rw[hio]at ha;simp at ha
   have qn_3_5:io≠ia:=of_eq_false n_3_5
   have n_3_6:(io=jf)=False:=eq_false fun e=>by subst e;rw[hio]at hf;simp at hf
   have qn_3_6:io≠jf:=of_eq_false n_3_6
   have n_3_7:(io=iq)=False:=eq_false fun e=>by subst e;rw[hio]at hiq;simp at hiq
   have qn_3_7:io≠iq:=of_eq_false n_3_7
   have n_4_5:(iw=ia)=False:=eq_false d01
   have qn_4_5:iw≠ia:=of_eq_false n_4_5
   have n_4_6:(iw=jf)=False:=eq_false d02
   have qn_4_6:iw≠jf:=of_eq_false n_4_6
   have n_4_7:(iw=iq)=False:=eq_false fun e=>by subst e;simp at hqx
   have qn_4_7:iw≠iq:=of_eq_false n_4_7
   have n_5_6:(ia=jf)=False:=eq_false d12
   have qn_5_6:ia≠jf:=of_eq_false n_5_6
   have n_5_7:(ia=iq)=False:=eq_false fun e=>by subst e;simp at hqx
   have qn_5_7:ia≠iq:=of_eq_false n_5_7
   have n_6_7:(jf=iq)=False:=eq_false fun e=>by subst e;simp at hqx
   have qn_6_7:jf≠iq:=of_eq_false n_6_7
   have l4:=h_lt hio
   have l5:=h_lt hiq
   have zo:=z3 io hio6
   have zo':=z4 io hio6
   have zq:=z3 iq hiq6
   have zq':=z4 iq hiq6
   (have hb:=trivial;with_reducible repeat' (first|simp only[hb,Vc.down,seval,TY64.down,h8,h6,h7,h3,h4,List.getElem?_set,List.length_set,hR,hg,h6b,hio,hw,ha,hf,hiq,n_0_1,n_0_2,n_0_3,n_0_4,n_0_5,n_0_6,n_0_7,n_1_3,n_1_4,n_1_5,n_1_6,n_1_7,n_2_3,n_2_4,n_2_5,n_2_6,n_2_7,n_3_4,n_3_5,n_3_6,n_3_7,n_4_5,n_4_6,n_4_7,n_5_6,n_5_7,n_6_7,y1,y2,y3,z1,z2,zr,zr',zw,zw',za,za',zf,zf',zo,zo',zq,zq']|refine fsp ?_ ?_<;>intro hb|((refine fw_gdF (r) 7 ?_ ?_);(simp (discharger:=decide) only[lg_nil,lg_cons,List.map_cons,List.map_nil,mf_cells,mf_blk,mf_all,ef_new,ef_cells,sft_lit,sft_add,List.length_cons,List.length_nil,hsr];kernel_rfl);intro _)|refine fdq ?_|fail))
   exact⟨w1,w2,w4,w6,w7,w3,w5,.inr (.inr (.inr ⟨hRn,rfl,rfl⟩))⟩
theorem e_stepB{s:BStore}{d:BDay}{hr own fuel:Int}{x:BHour}{G L:List Int}{O:List BTrade}{nG nL nO:Bool}(K:HourOK s d hr x O)(hG:G.length=s.cons.length)(hL:L.length=s.cons.length)(hO:¬(O=[]∧nO=false)):
 ClQ om' 64 [.agg s.cells,.agg [.int .i64 hr,slv 1 true nG (G.map iv),.int .i64 own,.int .i64 fuel,slv 1 true nL (L.map iv),slv 5 true nO (O.map BTrade.cells)],.agg d.cells] []
  (StepQ s.cons.length (IntKind.i64.wrap (hr+1)) (own5 s d hr x G L O own) (G6 s d hr x G L O fuel).2 (G6 s d hr x G L O fuel).1 (L7 s d hr x G L O) (T2 s d hr G L O).2.1 (T2 s d hr G L O).2.2 (W3 s d hr G L O) (A4 s d hr x G L O) (F5 s d hr x G L O)):=by
 have hlen:=K.len
 have hp:0<s.cons.length:=List.length_pos_iff.2 K.ne
 have hGn:G≠[]:=fun e=>by rw[e]at hG;simp at hG;omega
 have hLn:L≠[]:=fun e=>by rw[e]at hL;simp at hL;omega
 skip
 have hc1:=e_cloneInt (l:=G) (by omega) hGn
 have hc2:=e_cloneInt (l:=L) (by omega) hLn
 have hct:=e_cloneTr (l:=O) (nn:=nO) K.owed hO
 have hb7:=bld_7 8
 simp only[fnV,fnL,List.map_cons,List.map_nil]at hb7
 rw[hG]at hc1
 rw[hL]at hc2
 rw[slv_ne (n:=1) (fl:=true) (nn:=nG) (map_ne hGn),slv_ne (n:=1) (fl:=true) (nn:=nL) (map_ne hLn)]
 refine stOf rfl Tryz.func64 rfl rfl ?_
 simp only[Tryz.f64]
 (have hb:=trivial;with_reducible repeat' (first|simp only[hb,Vc.down,seval,TY64.down,hc1,hc2,hct,hct,BDay.cells,hb7,List.map_nil]|refine fsp ?_ ?_<;>intro hb|refine fd ?_|fail))
 refine fw_ot (lst 66 fnL (fun i (_:Unit) t h=>t 8=.ptr 8 0 0∧t 6=.ptr 3 0 0∧t 7=.ptr 4 0 0∧t 42=.agg (fnL.map (fnV 8))∧t 43=.int .i64 i∧Fr34 h∧StS s d hr own fuel x G L O 8 i h) (fun _ _=>()) (fun _ e t h=>e=.exit 0∧t 8=.ptr 8 0 0∧t 6=.ptr 3 0 0∧t 7=.ptr 4 0 0∧Fr34 h∧StS s d hr own fuel x G L O 8 7 h) ?_ ?_ () _ _ ?_) (fun e t h hk=>?_)
 ·rintro _ t h Q' kQ ⟨h8,h6,h7,h42,h43,hF,hS⟩
  rw[show fnL.length=7 from rfl]at h43 hS
  have h77:decide (((7:Nat):Int)<7)=false:=by decide
  (have hb:=trivial;with_reducible repeat' (first|simp only[hb,Vc.down,seval,TY64.down,h43,h77]|refine fsp ?_ ?_<;>intro hb|refine fd ?_|fail))
  exact kQ _ _ _ ⟨rfl,by simp[up,h8],by simp[up,h6],by simp[up,h7],hF,hS⟩
 ·rintro f rest i _ t h J Q' kJ kQ hx hi ⟨h8,h6,h7,h42,h43,hF,hS⟩
  have hi7:i<7:=hi
  have hd:decide ((i:Int)<7)=true:=decide_eq_true (by omega)
  have hw:IntKind.i64.wrap ((i:Int)+1)=((i+1:Nat):Int):=wrap_next (n:=7) hi7 (by unfold maxLen;omega)
  obtain⟨es,e,hB,hS'⟩:=st_all K hx hS
  have hii:((i:Int)<7)=True:=eq_true (by omega)
  (have hb:=trivial;with_reducible repeat' (first|simp only[hb,Vc.down,seval,TY64.down,h42,h43,hd,hw,ix_7,hii,Nat.mul_one,hx,e]|refine fsp ?_ ?_<;>intro hb|refine fd ?_|fail))
  refine rnd_go (kJ _ _ () ⟨?_,?_,?_,?_,?_,?_,hS'⟩ rfl)
  ·simp[up,h8]
  ·simp[up,h6]
  ·simp[up,h7]
  ·simp[up,h42,fnV]
  ·simp[up]
  ·exact⟨by obtain⟨⟨fl,w,hw1⟩,_⟩:=hF;exact⟨fl,w,by rw[hB 3 (by omega)];exact hw1⟩,by obtain⟨_,fl,w,hw1⟩:=hF;exact⟨fl,w,by rw[hB 4 (by omega)];exact hw1⟩⟩
 ·refine⟨by simp[up],by simp[up],by simp[up],by simp[up,fnL,fnV],by simp[up],⟨⟨_,_,rfl⟩,⟨_,_,rfl⟩⟩,?_⟩
  exact⟨by omega,hG,hL,_,_,_,_,_,rfl,rfl,rfl,.inr ⟨7,false,rfl,rfl,by omega⟩,.inl ⟨rfl,rfl⟩⟩
 ·obtain⟨rfl,h8,h6,h7,⟨⟨f3,v3,h3⟩,f4,v4,h4⟩,H⟩:=hk
  obtain⟨r,hqr⟩:∃r:Nat,r=8:=⟨_,rfl⟩
  replace h8:t 8=.ptr r 0 0:=by rw[hqr];exact h8
  replace H:StS s d hr own fuel x G L O r 7 h:=by rw[hqr];exact H
  obtain⟨hr6,hG',hL',hWl,hAl,hFl,w,w1,w2,ov,rv,iw,ia,jf,w4,w6,w7,hR,hg,h6b,hov,hrv,hw,hw6,ha,ha6,hf,hf6,d01,d02,d12⟩:=H
  clear hqr
  have hsr:sftN r 7 r=1000:=by unfold sftN;rw[if_neg (by omega)];omega
  have l1:=h_lt hR
  have y1:=eq_true l1
  have y2:=eq_true (h_lt h3)
  have y3:=eq_true (h_lt h4)
  have z1:(r=3)=False:=eq_false (by omega)
  have z2:(r=4)=False:=eq_false (by omega)
  have z3:∀k,6<k→(3=k)=False:=fun k hk=>eq_false (by omega)
  have z4:∀k,6<k→(4=k)=False:=fun k hk=>eq_false (by omega)
  have zr:=z3 r hr6
  have zr':=z4 r hr6
  have zw:=z3 iw hw6
  have zw':=z4 iw hw6
  have za:=z3 ia ha6
  have za':=z4 ia ha6
  have zf:=z3 jf hf6
  have zf':=z4 jf hf6
  rcases hov with⟨hO2,rfl⟩|⟨io,w3,rfl,hio,hio6⟩<;>rcases hrv with⟨hR2,rfl⟩|⟨iq,w5,hRn,rfl,hiq,hiq6,hqx⟩
  ·have n_0_1:(r=5)=False:=eq_false (by omega)
   have n_0_2:(r=6)=False:=eq_false (by omega)
   have n_0_3:(r=iw)=False:=eq_false fun e=>by subst e;rw[hR]at hw;simp at hw
   have qn_0_3:r≠iw:=of_eq_false n_0_3
   have n_0_4:(r=ia)=False:=eq_false fun e=>by subst e;rw[hR]at ha;simp at ha
   have qn_0_4:r≠ia:=of_eq_false n_0_4
   have n_0_5:(r=jf)=False:=eq_false fun e=>by subst e;rw[hR]at hf;simp at hf
   have qn_0_5:r≠jf:=of_eq_false n_0_5
   have n_1_3:(5=iw)=False:=eq_false (by omega)
   have n_1_4:(5=ia)=False:=eq_false (by omega)
   have n_1_5:(5=jf)=False:=eq_false (by omega)
   have n_2_3:(6=iw)=False:=eq_false (by omega)
   have n_2_4:(6=ia)=False:=eq_false (by omega)
   have n_2_5:(6=jf)=False:=eq_false (by omega)
   have n_3_4:(iw=ia)=False:=eq_false d01
   have qn_3_4:iw≠ia:=of_eq_false n_3_4
   have n_3_5:(iw=jf)=False:=eq_false d02
   have qn_3_5:iw≠jf:=of_eq_false n_3_5
   have n_4_5:(ia=jf)=False:=eq_false d12
   have qn_4_5:ia≠jf:=of_eq_false n_4_5
   (have hb:=trivial;with_reducible repeat' (first|simp only[hb,Vc.down,seval,TY64.down,h8,h6,h7,h3,h4,List.getElem?_set,List.length_set,hR,hg,h6b,hw,ha,hf,n_0_1,n_0_2,n_0_3,n_0_4,n_0_5,n_1_3,n_1_4,n_1_5,n_2_3,n_2_4,n_2_5,n_3_4,n_3_5,n_4_5,y1,y2,y3,z1,z2,zr,zr',zw,zw',za,za',zf,zf']|refine fsp ?_ ?_<;>intro hb|((refine fw_gdF (r) 7 ?_ ?_);(simp (discharger:=decide) only[lg_nil,lg_cons,List.map_cons,List.map_nil,mf_cells,mf_blk,mf_all,ef_new,ef_cells,sft_lit,sft_add,List.length_cons,List.length_nil,hsr];kernel_rfl);intro _)|refine fdq ?_|fail))
   exact⟨w1,w2,w4,w6,w7,false,false,.inl ⟨hO2,hR2,rfl,rfl⟩⟩
  ·have n_0_1:(r=5)=False:=eq_false (by omega)
   have n_0_2:(r=6)=False:=eq_false (by omega)
   have n_0_3:(r=iw)=False:=eq_false fun e=>by subst e;rw[hR]at hw;simp at hw
   have qn_0_3:r≠iw:=of_eq_false n_0_3
   have n_0_4:(r=ia)=False:=eq_false fun e=>by subst e;rw[hR]at ha;simp at ha
   have qn_0_4:r≠ia:=of_eq_false n_0_4
   have n_0_5:(r=jf)=False:=eq_false fun e=>by subst e;rw[hR]at hf;simp at hf
   have qn_0_5:r≠jf:=of_eq_false n_0_5
   have n_0_6:(r=iq)=False:=eq_false fun e=>by subst e;rw[hR]at hiq;simp at hiq
   have qn_0_6:r≠iq:=of_eq_false n_0_6
   have n_1_3:(5=iw)=False:=eq_false (by omega)
   have n_1_4:(5=ia)=False:=eq_false (by omega)
   have n_1_5:(5=jf)=False:=eq_false (by omega)
   have n_1_6:(5=iq)=False:=eq_false (by omega)
   have n_2_3:(6=iw)=False:=eq_false (by omega)
   have n_2_4:(6=ia)=False:=eq_false (by omega)
   have n_2_5:(6=jf)=False:=eq_false (by omega)
   have n_2_6:(6=iq)=False:=eq_false (by omega)
   have n_3_4:(iw=ia)=False:=eq_false d01
   have qn_3_4:iw≠ia:=of_eq_false n_3_4
   have n_3_5:(iw=jf)=False:=eq_false d02
   have qn_3_5:iw≠jf:=of_eq_false n_3_5
   have n_3_6:(iw=iq)=False:=eq_false fun e=>by subst e;simp at hqx
   have qn_3_6:iw≠iq:=of_eq_false n_3_6
   have n_4_5:(ia=jf)=False:=eq_false d12
   have qn_4_5:ia≠jf:=of_eq_false n_4_5
   have n_4_6:(ia=iq)=False:=eq_false fun e=>by subst e;simp at hqx
   have qn_4_6:ia≠iq:=of_eq_false n_4_6
   have n_5_6:(jf=iq)=False:=eq_false fun e=>by subst e;simp at hqx
   have qn_5_6:jf≠iq:=of_eq_false n_5_6
   have l5:=h_lt hiq
   have zq:=z3 iq hiq6
   have zq':=z4 iq hiq6
   (have hb:=trivial;with_reducible repeat' (first|simp only[hb,Vc.down,seval,TY64.down,h8,h6,h7,h3,h4,List.getElem?_set,List.length_set,hR,hg,h6b,hw,ha,hf,hiq,n_0_1,n_0_2,n_0_3,n_0_4,n_0_5,n_0_6,n_1_3,n_1_4,n_1_5,n_1_6,n_2_3,n_2_4,n_2_5,n_2_6,n_3_4,n_3_5,n_3_6,n_4_5,n_4_6,n_5_6,y1,y2,y3,z1,z2,zr,zr',zw,zw',za,za',zf,zf',zq,zq']|refine fsp ?_ ?_<;>intro hb|((refine fw_gdF (r) 7 ?_ ?_);(simp (discharger:=decide) only[lg_nil,lg_cons,List.map_cons,List.map_nil,mf_cells,mf_blk,mf_all,ef_new,ef_cells,sft_lit,sft_add,List.length_cons,List.length_nil,hsr];kernel_rfl);intro _)|refine fdq ?_|fail))
   exact⟨w1,w2,w4,w6,w7,false,w5,.inr (.inr (.inl ⟨hO2,hRn,rfl,rfl⟩))⟩
  ·have n_0_1:(r=5)=False:=eq_false (by omega)
   have n_0_2:(r=6)=False:=eq_false (by omega)
   have n_0_3:(r=io)=False:=eq_false fun e=>by subst e;rw[hR]at hio;simp at hio
   have qn_0_3:r≠io:=of_eq_false n_0_3
   have n_0_4:(r=iw)=False:=eq_false fun e=>by subst e;rw[hR]at hw;simp at hw
   have qn_0_4:r≠iw:=of_eq_false n_0_4
   have n_0_5:(r=ia)=False:=eq_false fun e=>by subst e;rw[hR]at ha;simp at ha
   have qn_0_5:r≠ia:=of_eq_false n_0_5
   have n_0_6:(r=jf)=False:=eq_false fun e=>by subst e;rw[hR]at hf;simp at hf
   have qn_0_6:r≠jf:=of_eq_false n_0_6
   have n_1_3:(5=io)=False:=eq_false (by omega)
   have n_1_4:(5=iw)=False:=eq_false (by omega)
   have n_1_5:(5=ia)=False:=eq_false (by omega)
   have n_1_6:(5=jf)=False:=eq_false (by omega)
   have n_2_3:(6=io)=False:=eq_false (by omega)
   have n_2_4:(6=iw)=False:=eq_false (by omega)
   have n_2_5:(6=ia)=False:=eq_false (by omega)
   have n_2_6:(6=jf)=False:=eq_false (by omega)
   have n_3_4:(io=iw)=False:=eq_false fun e=>by subst e;rw[hio]at hw;simp at hw
   have qn_3_4:io≠iw:=of_eq_false n_3_4
   have n_3_5:(io=ia)=False:=eq_false fun e=>by subst e;rw[hio]at ha;simp at ha
   have qn_3_5:io≠ia:=of_eq_false n_3_5
   have n_3_6:(io=jf)=False:=eq_false fun e=>by subst e;rw[hio]at hf;simp at hf
   have qn_3_6:io≠jf:=of_eq_false n_3_6
   have n_4_5:(iw=ia)=False:=eq_false d01
   have qn_4_5:iw≠ia:=of_eq_false n_4_5
   have n_4_6:(iw=jf)=False:=eq_false d02
   have qn_4_6:iw≠jf:=of_eq_false n_4_6
   have n_5_6:(ia=jf)=False:=eq_false d12
   have qn_5_6:ia≠jf:=of_eq_false n_5_6
   have l4:=h_lt hio
   have zo:=z3 io hio6
   have zo':=z4 io hio6
   (have hb:=trivial;with_reducible repeat' (first|simp only[hb,Vc.down,seval,TY64.down,h8,h6,h7,h3,h4,List.getElem?_set,List.length_set,hR,hg,h6b,hio,hw,ha,hf,n_0_1,n_0_2,n_0_3,n_0_4,n_0_5,n_0_6,n_1_3,n_1_4,n_1_5,n_1_6,n_2_3,n_2_4,n_2_5,n_2_6,n_3_4,n_3_5,n_3_6,n_4_5,n_4_6,n_5_6,y1,y2,y3,z1,z2,zr,zr',zw,zw',za,za',zf,zf',zo,zo']|refine fsp ?_ ?_<;>intro hb|((refine fw_gdF (r) 7 ?_ ?_);(simp (discharger:=decide) only[lg_nil,lg_cons,List.map_cons,List.map_nil,mf_cells,mf_blk,mf_all,ef_new,ef_cells,sft_lit,sft_add,List.length_cons,List.length_nil,hsr];kernel_rfl);intro _)|refine fdq ?_|fail))
   exact⟨w1,w2,w4,w6,w7,w3,false,.inr (.inl ⟨hR2,rfl,rfl⟩)⟩
  ·have n_0_1:(r=5)=False:=eq_false (by omega)
   have n_0_2:(r=6)=False:=eq_false (by omega)
   have n_0_3:(r=io)=False:=eq_false fun e=>by subst e;rw[hR]at hio;simp at hio
   have qn_0_3:r≠io:=of_eq_false n_0_3
   have n_0_4:(r=iw)=False:=eq_false fun e=>by subst e;rw[hR]at hw;simp at hw
   have qn_0_4:r≠iw:=of_eq_false n_0_4
   have n_0_5:(r=ia)=False:=eq_false fun e=>by subst e;rw[hR]at ha;simp at ha
   have qn_0_5:r≠ia:=of_eq_false n_0_5
   have n_0_6:(r=jf)=False:=eq_false fun e=>by subst e;rw[hR]at hf;simp at hf
   have qn_0_6:r≠jf:=of_eq_false n_0_6
   have n_0_7:(r=iq)=False:=eq_false fun e=>by subst e;rw[hR]at hiq;simp at hiq
   have qn_0_7:r≠iq:=of_eq_false n_0_7
   have n_1_3:(5=io)=False:=eq_false (by omega)
   have n_1_4:(5=iw)=False:=eq_false (by omega)
   have n_1_5:(5=ia)=False:=eq_false (by omega)
   have n_1_6:(5=jf)=False:=eq_false (by omega)
   have n_1_7:(5=iq)=False:=eq_false (by omega)
   have n_2_3:(6=io)=False:=eq_false (by omega)
   have n_2_4:(6=iw)=False:=eq_false (by omega)
   have n_2_5:(6=ia)=False:=eq_false (by omega)
   have n_2_6:(6=jf)=False:=eq_false (by omega)
   have n_2_7:(6=iq)=False:=eq_false (by omega)
   have n_3_4:(io=iw)=False:=eq_false fun e=>by subst e;rw[hio]at hw;simp at hw
   have qn_3_4:io≠iw:=of_eq_false n_3_4
   have n_3_5:(io=ia)=False:=eq_false fun e=>by subst e;rw[hio]at ha;simp at ha
   have qn_3_5:io≠ia:=of_eq_false n_3_5
   have n_3_6:(io=jf)=False:=eq_false fun e=>by subst e;rw[hio]at hf;simp at hf
   have qn_3_6:io≠jf:=of_eq_false n_3_6
   have n_3_7:(io=iq)=False:=eq_false fun e=>by subst e;rw[hio]at hiq;simp at hiq
   have qn_3_7:io≠iq:=of_eq_false n_3_7
   have n_4_5:(iw=ia)=False:=eq_false d01
   have qn_4_5:iw≠ia:=of_eq_false n_4_5
   have n_4_6:(iw=jf)=False:=eq_false d02
   have qn_4_6:iw≠jf:=of_eq_false n_4_6
   have n_4_7:(iw=iq)=False:=eq_false fun e=>by subst e;simp at hqx
   have qn_4_7:iw≠iq:=of_eq_false n_4_7
   have n_5_6:(ia=jf)=False:=eq_false d12
   have qn_5_6:ia≠jf:=of_eq_false n_5_6
   have n_5_7:(ia=iq)=False:=eq_false fun e=>by subst e;simp at hqx
   have qn_5_7:ia≠iq:=of_eq_false n_5_7
   have n_6_7:(jf=iq)=False:=eq_false fun e=>by subst e;simp at hqx
   have qn_6_7:jf≠iq:=of_eq_false n_6_7
   have l4:=h_lt hio
   have l5:=h_lt hiq
   have zo:=z3 io hio6
   have zo':=z4 io hio6
   have zq:=z3 iq hiq6
   have zq':=z4 iq hiq6
   (have hb:=trivial;with_reducible repeat' (first|simp only[hb,Vc.down,seval,TY64.down,h8,h6,h7,h3,h4,List.getElem?_set,List.length_set,hR,hg,h6b,hio,hw,ha,hf,hiq,n_0_1,n_0_2,n_0_3,n_0_4,n_0_5,n_0_6,n_0_7,n_1_3,n_1_4,n_1_5,n_1_6,n_1_7,n_2_3,n_2_4,n_2_5,n_2_6,n_2_7,n_3_4,n_3_5,n_3_6,n_3_7,n_4_5,n_4_6,n_4_7,n_5_6,n_5_7,n_6_7,y1,y2,y3,z1,z2,zr,zr',zw,zw',za,za',zf,zf',zo,zo',zq,zq']|refine fsp ?_ ?_<;>intro hb|((refine fw_gdF (r) 7 ?_ ?_);(simp (discharger:=decide) only[lg_nil,lg_cons,List.map_cons,List.map_nil,mf_cells,mf_blk,mf_all,ef_new,ef_cells,sft_lit,sft_add,List.length_cons,List.length_nil,hsr];kernel_rfl);intro _)|refine fdq ?_|fail))
   exact⟨w1,w2,w4,w6,w7,w3,w5,.inr (.inr (.inr ⟨hRn,rfl,rfl⟩))⟩
def tradeB(n:Int)(t:BTrade):Bool:=inB t.hour 0 47&&(t.back== -1||inB t.back (IntKind.i64.wrap (t.hour+1)) 47)&&inB t.frm 0 (IntKind.i64.wrap (n-1))&&inB t.to 0 (IntKind.i64.wrap (n-1))&& !(t.frm==t.to)&&inB t.amount 1 100000000
theorem e_trade(t:BTrade)(n:Int):om'.call (.fn 101) [.agg [.int .i64 t.hour,.int .i64 t.back,.int .i64 t.frm,.int .i64 t.to,.int .i64 t.amount],.int .i64 n] []=some (.ret (.bool (tradeB n t)),[]):=by
 (refine ce Tryz.func101 ?_;simp only[Tryz.f101];(have hb:=trivial;with_reducible repeat' (first|simp only[hb,Vc.down,seval,TY101.down,e_in]|refine fsp ?_ ?_<;>intro hb|refine fd ?_|fail)))
 all_goals (refine congrArg (fun b=>(Out.ret (AV.bool b),([]:Heap))) ?_;simp_all[tradeB])
theorem r_Trade(t:BTrade)(n:Int):om'.call (.fn 61) [.agg [.int .i64 t.hour,.int .i64 t.back,.int .i64 t.frm,.int .i64 t.to,.int .i64 t.amount],.int .i64 n] []=some (.ret (.bool (tradeB n t)),[]):=by
 have key:tradeB n t=(inB t.hour 0 47&&(t.back== -1||(decide (t.hour<t.back)&&inB t.back 0 47))&&inB t.frm 0 (IntKind.i64.wrap (n-1))&&inB t.to 0 (IntKind.i64.wrap (n-1))&& !(t.frm==t.to)&&inB t.amount 1 100000000):=by
  unfold tradeB
  cases h:inB t.hour 0 47 with
  |false=>simp
  |true=>
   simp only[inB,Bool.and_eq_true,decide_eq_true_eq]at h
   have e:inB t.back (IntKind.i64.wrap (t.hour+1)) 47=(decide (t.hour<t.back)&&inB t.back 0 47):=by
    rw[wrap_of (by omega) (by omega)]
    simp only[inB]
    rw[Bool.eq_iff_iff]
    simp only[Bool.and_eq_true,decide_eq_true_eq]
    omega
   rw[e]
 rw[key]
 (refine ce Tryz.func61 ?_;simp only[Tryz.f61];(have hb:=trivial;with_reducible repeat' (first|simp only[hb,Vc.down,seval,TY61.down,r_in,r_Hour]|refine fsp ?_ ?_<;>intro hb|refine fd ?_|fail)))
 all_goals (refine congrArg (fun b=>(Out.ret (AV.bool b),([]:Heap))) ?_;clear key;simp_all)
def hourB(h:BHour):Bool:=inB h.inn 0 800000000&&inB h.out 0 800000000&&inB h.flowIn 0 800000000&&inB h.flowOut 0 800000000
theorem e_day1(h:BHour):om'.call (.fn 98) [.agg [.int .i64 h.inn,.int .i64 h.out,.int .i64 h.flowIn,.int .i64 h.flowOut]] []=some (.ret (.bool (!hourB h)),[]):=by
 have hg:=e_great (l:=[h.inn,h.out,h.flowIn,h.flowOut]) (nn:=true) (by simp[maxLen])
 rw[slv_true]at hg
 simp only[List.map_cons,List.map_nil,iv,List.all_cons,List.all_nil,Bool.and_true]at hg
 (refine ce Tryz.func98 ?_;simp only[Tryz.f98];(have hb:=trivial;with_reducible repeat' (first|simp only[hb,Vc.down,seval,TY98.down,hg]|refine fsp ?_ ?_<;>intro hb|refine fd ?_|fail)))
 all_goals simp[hourB,Bool.and_assoc]
theorem e_day2(t:BTrade)(n:Int):om'.call (.fn 100) [.agg [.int .i64 t.hour,.int .i64 t.back,.int .i64 t.frm,.int .i64 t.to,.int .i64 t.amount],.ptr 0 0 0] [.live 1 true false [[.int .i64 n]]]=some (.ret (.bool (!tradeB n t)),[.live 1 true false [[.int .i64 n]]]):=by
 (refine ce Tryz.func100 ?_;simp only[Tryz.f100];(have hb:=trivial;with_reducible repeat' (first|simp only[hb,Vc.down,seval,TY100.down,e_trade]|refine fsp ?_ ?_<;>intro hb|refine fd ?_|fail)))
theorem e_idxHou{l:List BHour}{nn:Bool}{g:Nat}{cap:List AV}{p:BHour→Bool}(hc:cap.all (pureV 8)=true)(hc7:cap.all (pureV 7)=true)(hp:∀x∈l,om'.call (.fn g) (.agg [.int .i64 x.inn,.int .i64 x.out,.int .i64 x.flowIn,.int .i64 x.flowOut]::cap) []=some (.ret (.bool (p x)),[]))(hl:l.length≤maxLen):
 om'.call (.fn 128) [slv 4 true nn (l.map BHour.cells),.func (.func g) [] cap] []=some (.ret (.int .i64 (idx p l 0)),[]):=by
 (refine ce Tryz.func128 ?_;simp only[Tryz.f128];(have hb:=trivial;with_reducible repeat' (first|simp only[hb,Vc.down,seval,TY128.down,List.length_map]|refine fsp ?_ ?_<;>intro hb|refine fd ?_|fail)))
 refine fw_ot (lst 19 l (fun i (s:Int) t h=>s=i∧h=[]∧t 0=slv 4 true nn (l.map BHour.cells)∧t 1=.func (.func g) [] cap∧t 7=.int .i64 l.length∧t 8=.int .i64 i)
  (fun rest s=>idx p rest s) (fun r e t h=>h=[]∧((e=.exit 0∧r= -1)∨(e=.ret∧t 4=.int .i64 r))) ?_ ?_ 0 _ _ ?_) (fun e t h hk=>?_)
 ·rintro s t h Q' kQ ⟨rfl,rfl,h0,h1,h7,h8⟩
  (have hb:=trivial;with_reducible repeat' (first|simp only[hb,Vc.down,seval,TY128.down,h0,h1,h7,h8,Int.lt_irrefl,decide_false]|refine fsp ?_ ?_<;>intro hb|refine fd ?_|fail))
  exact kQ _ _ _ ⟨rfl,.inl ⟨rfl,rfl⟩⟩
 ·rintro x rest i s t h J Q' kJ kQ hx hi ⟨rfl,rfl,h0,h1,h7,h8⟩
  have hpx:=hp x (List.mem_of_getElem? hx)
  have hd:decide ((i:Int)<(l.length:Int))=true:=by simpa using hi
  (have hb:=trivial;with_reducible repeat' (first|simp only[hb,Vc.down,seval,TY128.down,h0,h1,h7,h8,hd,hx,BHour.cells,hc,hc7,hpx,wrap_next hi hl]|refine fsp ?_ ?_<;>intro hb|refine fd ?_|fail))
  ·exact kQ _ _ _ ⟨rfl,.inr ⟨rfl,by simp[up,idx,hb]⟩⟩
  ·exact rnd_go (kJ _ _ (i+1) ⟨by simp,rfl,by simp[up,h0],by simp[up,h1],by simp[up,h7],by simp[up]⟩ (by simp[idx,hb]))
 ·exact⟨rfl,rfl,by simp[up,ent],by simp[up,ent],by simp[up],by simp[up]⟩
 ·obtain⟨rfl,⟨rfl,hi⟩|⟨rfl,hi⟩⟩:=hk
  ·(have hb:=trivial;with_reducible repeat' (first|simp only[hb,Vc.down,seval,TY128.down]|refine fsp ?_ ?_<;>intro hb|refine fd ?_|fail))
   rw[hi]
  ·(have hb:=trivial;with_reducible repeat' (first|simp only[hb,Vc.down,seval,TY128.down,hi]|refine fsp ?_ ?_<;>intro hb|refine fd ?_|fail))
theorem e_contHou{l:List BHour}{nn:Bool}{g:Nat}{cap:List AV}{p:BHour→Bool}(hc:cap.all (pureV 8)=true)(hc7:cap.all (pureV 7)=true)(hp:∀x∈l,om'.call (.fn g) (.agg [.int .i64 x.inn,.int .i64 x.out,.int .i64 x.flowIn,.int .i64 x.flowOut]::cap) []=some (.ret (.bool (p x)),[]))(hl:l.length≤maxLen):
 om'.call (.fn 97) [slv 4 true nn (l.map BHour.cells),.func (.func g) [] cap] []=some (.ret (.bool (l.any p)),[]):=by
 (refine ce Tryz.func97 ?_;simp only[Tryz.f97];(have hb:=trivial;with_reducible repeat' (first|simp only[hb,Vc.down,seval,e_idxHou hc hc7 hp hl,hc,hc7,idx_any p l 0 (Int.le_refl 0)]|refine fsp ?_ ?_<;>intro hb|refine fd ?_|fail)))
theorem e_idxTraH{l:List BTrade}{nn:Bool}{g bs:Nat}{brows:List (List AV)}{p:BTrade→Bool}(hp:∀x∈l,om'.call (.fn g) (.agg [.int .i64 x.hour,.int .i64 x.back,.int .i64 x.frm,.int .i64 x.to,.int .i64 x.amount]::[.ptr 0 0 0]) [.live bs true false brows]=some (.ret (.bool (p x)),[.live bs true false brows]))(hl:l.length≤maxLen):
 om'.call (.fn 129) [slv 5 true nn (l.map BTrade.cells),.func (.func g) [] [.ptr 0 0 0]] [.live bs true false brows]=some (.ret (.int .i64 (idx p l 0)),[.live bs true false brows]):=by
 (refine ce Tryz.func129 ?_;simp only[Tryz.f129];(have hb:=trivial;with_reducible repeat' (first|simp only[hb,Vc.down,seval,TY129.down,List.length_map]|refine fsp ?_ ?_<;>intro hb|refine fd ?_|fail)))
 refine fw_ot (lst 19 l (fun i (s:Int) t h=>s=i∧h=[.live bs true false brows]∧t 0=slv 5 true nn (l.map BTrade.cells)∧t 1=.func (.func g) [] [.ptr 0 0 0]∧t 7=.int .i64 l.length∧t 8=.int .i64 i)
  (fun rest s=>idx p rest s) (fun r e t h=>h=[.live bs true false brows]∧((e=.exit 0∧r= -1)∨(e=.ret∧t 4=.int .i64 r))) ?_ ?_ 0 _ _ ?_) (fun e t h hk=>?_)
 ·rintro s t h Q' kQ ⟨rfl,rfl,h0,h1,h7,h8⟩
  (have hb:=trivial;with_reducible repeat' (first|simp only[hb,Vc.down,seval,TY129.down,h0,h1,h7,h8,Int.lt_irrefl,decide_false]|refine fsp ?_ ?_<;>intro hb|refine fd ?_|fail))
  exact kQ _ _ _ ⟨rfl,.inl ⟨rfl,rfl⟩⟩
 ·rintro x rest i s t h J Q' kJ kQ hx hi ⟨rfl,rfl,h0,h1,h7,h8⟩
  have hpx:=hp x (List.mem_of_getElem? hx)
  have hd:decide ((i:Int)<(l.length:Int))=true:=by simpa using hi
  (have hb:=trivial;with_reducible repeat' (first|simp only[hb,Vc.down,seval,TY129.down,h0,h1,h7,h8,hd,hx,BTrade.cells,hpx,wrap_next hi hl]|refine fsp ?_ ?_<;>intro hb|refine fd ?_|fail))
  ·exact kQ _ _ _ ⟨rfl,.inr ⟨rfl,by simp[up,idx,hb]⟩⟩
  ·exact rnd_go (kJ _ _ (i+1) ⟨by simp,rfl,by simp[up,h0],by simp[up,h1],by simp[up,h7],by simp[up]⟩ (by simp[idx,hb]))
 ·exact⟨rfl,rfl,by simp[up,ent],by simp[up,ent],by simp[up],by simp[up]⟩
 ·obtain⟨rfl,⟨rfl,hi⟩|⟨rfl,hi⟩⟩:=hk
  ·(have hb:=trivial;with_reducible repeat' (first|simp only[hb,Vc.down,seval,TY129.down]|refine fsp ?_ ?_<;>intro hb|refine fd ?_|fail))
   rw[hi]
  ·(have hb:=trivial;with_reducible repeat' (first|simp only[hb,Vc.down,seval,TY129.down,hi]|refine fsp ?_ ?_<;>intro hb|refine fd ?_|fail))
theorem e_contTraH{l:List BTrade}{nn:Bool}{g bs:Nat}{brows:List (List AV)}{p:BTrade→Bool}(hp:∀x∈l,om'.call (.fn g) (.agg [.int .i64 x.hour,.int .i64 x.back,.int .i64 x.frm,.int .i64 x.to,.int .i64 x.amount]::[.ptr 0 0 0]) [.live bs true false brows]=some (.ret (.bool (p x)),[.live bs true false brows]))(hl:l.length≤maxLen):
 om'.call (.fn 99) [slv 5 true nn (l.map BTrade.cells),.func (.func g) [] [.ptr 0 0 0]] [.live bs true false brows]=some (.ret (.bool (l.any p)),[.live bs true false brows]):=by
 (refine ce Tryz.func99 ?_;simp only[Tryz.f99];(have hb:=trivial;with_reducible repeat' (first|simp only[hb,Vc.down,seval,e_idxTraH hp hl,idx_any p l 0 (Int.le_refl 0)]|refine fsp ?_ ?_<;>intro hb|refine fd ?_|fail)))
def dayB(n:Int)(d:BDay):Bool:=decide (d.hours.length≤48)&&decide (d.noms.length≤200)&&decide (d.trades.length≤50)&&d.hours.all hourB&&d.noms.all (nomB n)&&d.trades.all (tradeB n)
/-- Lists that a machine can hold. -/
structure BDay.small(d:BDay):Prop where
 hours:d.hours.length≤maxLen
 noms:d.noms.length≤maxLen
 trades:d.trades.length≤maxLen
theorem e_day(d:BDay)(hs:d.small)(n:Int):om'.call (.fn 62) [.agg d.cells,.int .i64 n] []=some (.ret (.bool (dayB n d)),[]):=by
 have c1:=e_contHou (l:=d.hours) (nn:=d.nh) (g:=98) (cap:=[]) (p:=fun h=> !hourB h) rfl rfl (fun x _=>e_day1 x) hs.hours
 have c2:=e_nominated (l:=d.noms) (nn:=d.nn) n hs.noms
 have c3:=e_contTraH (l:=d.trades) (nn:=d.nt) (g:=100) (bs:=1) (brows:=[[.int .i64 n]]) (p:=fun t=> !tradeB n t) (fun x _=>e_day2 x n) hs.trades
 have l1:decide ((d.hours.length:Int)≤48)=decide (d.hours.length≤48):=by rw[decide_eq_decide];omega
 have l2:decide ((d.noms.length:Int)≤200)=decide (d.noms.length≤200):=by rw[decide_eq_decide];omega
 have l3:decide ((d.trades.length:Int)≤50)=decide (d.trades.length≤50):=by rw[decide_eq_decide];omega
 have k:dayB n d=(decide (d.hours.length≤48)&&decide (d.noms.length≤200)&&decide (d.trades.length≤50)&& !(d.hours.any fun h=> !hourB h)&&d.noms.all (nomB n)&& !(d.trades.any fun t=> !tradeB n t)):=by
  simp[dayB,List.all_eq_not_any_not]
 rw[k]
 (refine ce Tryz.func62 ?_;simp only[Tryz.f62];(have hb:=trivial;with_reducible repeat' (first|simp only[hb,Vc.down,seval,TY62.down,BDay.cells,List.length_map,c1,c2,c3,l1,l2,l3]|refine fsp ?_ ?_<;>intro hb|refine fd ?_|fail)))
 all_goals (refine congrArg (fun b=>(Out.ret (AV.bool b),([]:Heap))) ?_;clear k c1 c2 c3;simp_all)
structure BState where
 hour:Int
 nG:Bool
 gas:List Int
 own:Int
 fuel:Int
 nL:Bool
 bills:List Int
 nO:Bool
 owed:List BTrade
abbrev BState.cells(x:BState):List AV:=[.int .i64 x.hour,slv 1 true x.nG (x.gas.map iv),.int .i64 x.own,.int .i64 x.fuel,slv 1 true x.nL (x.bills.map iv),slv 5 true x.nO (x.owed.map BTrade.cells)]
structure BState.small(x:BState):Prop where
 gas:x.gas.length≤maxLen
 bills:x.bills.length≤maxLen
 owed:x.owed.length≤maxLen
def owedB(hr n:Int)(t:BTrade):Bool:=tradeB n t&& !(t.back== -1)&&decide (hr≤t.back)
def rngF(G L:List Int):List BCon→Nat→Bool
 | [],_=>true
 |c::rest,i=>inB (gI G i) 0 c.space&&inB (gI L i) (-1000000000000000) 1000000000000000&&rngF G L rest (i+1)
def preB(n:Nat)(x:BState):Bool:=decide (x.gas.length=n)&&decide (x.bills.length=n)&&inB x.hour 0 48&&inB x.own (-1000000000000) 1000000000000&&inB x.fuel 0 1000000000000&&decide (x.owed.length≤50)
def stateB(s:BStore)(x:BState):Bool:=preB s.cons.length x&&rngF x.gas x.bills s.cons 0&&x.owed.all (owedB x.hour s.cons.length)
theorem e_state1(s:BStore)(x:BState)(t:BTrade):om'.call (.fn 114) [.agg [.int .i64 t.hour,.int .i64 t.back,.int .i64 t.frm,.int .i64 t.to,.int .i64 t.amount],.ptr 0 0 0,.ptr 1 0 0] [.live 6 false false [s.cells],.live 6 false false [x.cells]]=some (.ret (.bool (!owedB x.hour s.cons.length t)),[.live 6 false false [s.cells],.live 6 false false [x.cells]]):=by
 have q:decide (t.back<x.hour)= !decide (x.hour≤t.back):=by rw[←decide_not,decide_eq_decide];omega
 (refine ce Tryz.func114 ?_;simp only[Tryz.f114];(have hb:=trivial;with_reducible repeat' (first|simp only[hb,Vc.down,seval,TY114.down,e_trade,List.length_map,q]|refine fsp ?_ ?_<;>intro hb|refine fd ?_|fail)))
 all_goals (refine congrArg (fun b=>(Out.ret (AV.bool b),([.live 6 false false [s.cells],.live 6 false false [x.cells]]:Heap))) ?_;clear q;simp_all[owedB])
theorem e_idxTraS{l:List BTrade}{nn:Bool}{g:Nat}{ss:BStore}{xs:BState}{p:BTrade→Bool}(hp:∀x∈l,om'.call (.fn g) (.agg [.int .i64 x.hour,.int .i64 x.back,.int .i64 x.frm,.int .i64 x.to,.int .i64 x.amount]::[.ptr 0 0 0,.ptr 1 0 0]) [.live 6 false false [ss.cells],.live 6 false false [xs.cells]]=some (.ret (.bool (p x)),[.live 6 false false [ss.cells],.live 6 false false [xs.cells]]))(hl:l.length≤maxLen):
 om'.call (.fn 129) [slv 5 true nn (l.map BTrade.cells),.func (.func g) [] [.ptr 0 0 0,.ptr 1 0 0]] [.live 6 false false [ss.cells],.live 6 false false [xs.cells]]=some (.ret (.int .i64 (idx p l 0)),[.live 6 false false [ss.cells],.live 6 false false [xs.cells]]):=by
 (refine ce Tryz.func129 ?_;simp only[Tryz.f129];(have hb:=trivial;with_reducible repeat' (first|simp only[hb,Vc.down,seval,TY129.down,List.length_map]|refine fsp ?_ ?_<;>intro hb|refine fd ?_|fail)))
 refine fw_ot (lst 19 l (fun i (s:Int) t h=>s=i∧h=[.live 6 false false [ss.cells],.live 6 false false [xs.cells]]∧t 0=slv 5 true nn (l.map BTrade.cells)∧t 1=.func (.func g) [] [.ptr 0 0 0,.ptr 1 0 0]∧t 7=.int .i64 l.length∧t 8=.int .i64 i)
  (fun rest s=>idx p rest s) (fun r e t h=>h=[.live 6 false false [ss.cells],.live 6 false false [xs.cells]]∧((e=.exit 0∧r= -1)∨(e=.ret∧t 4=.int .i64 r))) ?_ ?_ 0 _ _ ?_) (fun e t h hk=>?_)
 ·rintro s t h Q' kQ ⟨rfl,rfl,h0,h1,h7,h8⟩
  (have hb:=trivial;with_reducible repeat' (first|simp only[hb,Vc.down,seval,TY129.down,h0,h1,h7,h8,Int.lt_irrefl,decide_false]|refine fsp ?_ ?_<;>intro hb|refine fd ?_|fail))
  exact kQ _ _ _ ⟨rfl,.inl ⟨rfl,rfl⟩⟩
 ·rintro x rest i s t h J Q' kJ kQ hx hi ⟨rfl,rfl,h0,h1,h7,h8⟩
  have hpx:=hp x (List.mem_of_getElem? hx)
  have hd:decide ((i:Int)<(l.length:Int))=true:=by simpa using hi
  (have hb:=trivial;with_reducible repeat' (first|simp only[hb,Vc.down,seval,TY129.down,h0,h1,h7,h8,hd,hx,BTrade.cells,hpx,wrap_next hi hl]|refine fsp ?_ ?_<;>intro hb|refine fd ?_|fail))
  ·exact kQ _ _ _ ⟨rfl,.inr ⟨rfl,by simp[up,idx,hb]⟩⟩
  ·exact rnd_go (kJ _ _ (i+1) ⟨by simp,rfl,by simp[up,h0],by simp[up,h1],by simp[up,h7],by simp[up]⟩ (by simp[idx,hb]))
 ·exact⟨rfl,rfl,by simp[up,ent],by simp[up,ent],by simp[up],by simp[up]⟩
 ·obtain⟨rfl,⟨rfl,hi⟩|⟨rfl,hi⟩⟩:=hk
  ·(have hb:=trivial;with_reducible repeat' (first|simp only[hb,Vc.down,seval,TY129.down]|refine fsp ?_ ?_<;>intro hb|refine fd ?_|fail))
   rw[hi]
  ·(have hb:=trivial;with_reducible repeat' (first|simp only[hb,Vc.down,seval,TY129.down,hi]|refine fsp ?_ ?_<;>intro hb|refine fd ?_|fail))
theorem e_contTraS{l:List BTrade}{nn:Bool}{g:Nat}{ss:BStore}{xs:BState}{p:BTrade→Bool}(hp:∀x∈l,om'.call (.fn g) (.agg [.int .i64 x.hour,.int .i64 x.back,.int .i64 x.frm,.int .i64 x.to,.int .i64 x.amount]::[.ptr 0 0 0,.ptr 1 0 0]) [.live 6 false false [ss.cells],.live 6 false false [xs.cells]]=some (.ret (.bool (p x)),[.live 6 false false [ss.cells],.live 6 false false [xs.cells]]))(hl:l.length≤maxLen):
 om'.call (.fn 99) [slv 5 true nn (l.map BTrade.cells),.func (.func g) [] [.ptr 0 0 0,.ptr 1 0 0]] [.live 6 false false [ss.cells],.live 6 false false [xs.cells]]=some (.ret (.bool (l.any p)),[.live 6 false false [ss.cells],.live 6 false false [xs.cells]]):=by
 (refine ce Tryz.func99 ?_;simp only[Tryz.f99];(have hb:=trivial;with_reducible repeat' (first|simp only[hb,Vc.down,seval,e_idxTraS hp hl,idx_any p l 0 (Int.le_refl 0)]|refine fsp ?_ ?_<;>intro hb|refine fd ?_|fail)))
theorem pre_neg(s:BStore)(x:BState):preB s.cons.length x=false→x.gas.length≠s.cons.length∨x.bills.length≠s.cons.length∨inB x.hour 0 48=false∨inB x.own (-1000000000000) 1000000000000=false∨inB x.fuel 0 1000000000000=false∨50<x.owed.length:=by
 intro h
 by_cases h1:x.gas.length=s.cons.length
 ·by_cases h2:x.bills.length=s.cons.length
  ·cases h3:inB x.hour 0 48
   ·simp
   ·cases h4:inB x.own (-1000000000000) 1000000000000
    ·simp
    ·cases h5:inB x.fuel 0 1000000000000
     ·simp
     ·simp[preB,h1,h2,h3,h4,h5]at h
      simp[h]
  ·simp[h2]
 ·simp[h1]
theorem e_state(s:BStore)(hs:s.small)(y:BState)(hy:y.small):om'.call (.fn 73) [.agg s.cells,.agg y.cells] []=some (.ret (.bool (stateB s y)),[]):=by
 have l1:(!((y.gas.length:Int)==(s.cons.length:Int)))= !decide (y.gas.length=s.cons.length):=by
  congr 1
  rw[Bool.eq_iff_iff];simp only[beq_iff_eq,decide_eq_true_eq];omega
 have l2:(!((y.bills.length:Int)==(s.cons.length:Int)))= !decide (y.bills.length=s.cons.length):=by
  congr 1
  rw[Bool.eq_iff_iff];simp only[beq_iff_eq,decide_eq_true_eq];omega
 have l3:decide ((50:Int)<(y.owed.length:Int))= !decide (y.owed.length≤50):=by rw[←decide_not,decide_eq_decide];omega
 have hl:=hs.cons
 cases hp:preB s.cons.length y with
 |false=>
  (refine ce Tryz.func73 ?_;simp only[Tryz.f73];(have hb:=trivial;with_reducible repeat' (first|simp only[hb,Vc.down,seval,TY73.down,List.length_map,e_in,l1,l2,l3]|refine fsp ?_ ?_<;>intro hb|refine fd ?_|fail)))
  all_goals first
   |(simp[stateB,hp];done)
   |(exfalso;rcases pre_neg s y hp with h|h|h|h|h|h<;>simp_all;done)
   |(exfalso;rcases pre_neg s y hp with h|h|h|h|h|h<;>simp_all<;>omega)
 |true=>
  have hp':=hp
  simp only[preB,Bool.and_eq_true,decide_eq_true_eq]at hp'
  obtain⟨⟨⟨⟨⟨p1,p2⟩,p3⟩,p4⟩,p5⟩,p6⟩:=hp'
  have q1:decide (y.gas.length=s.cons.length)=true:=by simpa using p1
  have q2:decide (y.bills.length=s.cons.length)=true:=by simpa using p2
  have q6:decide (y.owed.length≤50)=true:=by simpa using p6
  (refine ce Tryz.func73 ?_;simp only[Tryz.f73];(have hb:=trivial;with_reducible repeat' (first|simp only[hb,Vc.down,seval,TY73.down,List.length_map,e_in,l1,l2,l3,q1,q2,q6,p3,p4,p5]|refine fsp ?_ ?_<;>intro hb|refine fd ?_|fail)))
  refine fw_ot (lst 79 s.cons (fun i (zz:Nat) t h=>t 2=.ptr 0 0 0∧t 3=.ptr 1 0 0∧t 48=slv 11 false s.nn (s.cons.map BCon.cells)∧t 49=.int .i64 s.cons.length∧t 50=.int .i64 i∧(h[0]?=some (.live 6 false false [s.cells])∧h[1]?=some (.live 6 false false [y.cells])∧i=zz)) (fun rest zz=>rngF y.gas y.bills rest zz) (fun r e t h=>(if r=true then e=.exit 0∧t 2=.ptr 0 0 0∧t 3=.ptr 1 0 0∧h[0]?=some (.live 6 false false [s.cells])∧h[1]?=some (.live 6 false false [y.cells])else e=.ret∧t 4=.bool false)) ?_ ?_ (0) _ _ ?_) (fun e t h hk=>?_)
  ·rintro k t h Q' kQ ⟨h2,h3,h48,h49,h50,⟨hA,hB,rfl⟩⟩
   (have hb:=trivial;with_reducible repeat' (first|simp only[hb,Vc.down,seval,TY73.down,h2,h3,h48,h49,h50,Int.lt_irrefl,decide_false]|refine fsp ?_ ?_<;>intro hb|refine fd ?_|fail))
   exact kQ _ _ _ (by rw[if_pos (by rfl)];exact⟨rfl,by simp[up,h2],by simp[up,h3],hA,hB⟩)
  ·rintro x rest i k t h J Q' kJ kQ hx hi ⟨h2,h3,h48,h49,h50,⟨hA,hB,rfl⟩⟩
   have hd:decide ((i:Int)<(s.cons.length:Int))=true:=decide_eq_true (by omega)
   have hw:=wrap_next hi hl
   have hA1:=get_app hA
   have hB1:=get_app hB
   have aG:y.gas[i]?=some (gI y.gas i):=by have:=gI_at (l:=y.gas) (i:=(i:Int)) (by simp;omega);simpa using this
   have aL:y.bills[i]?=some (gI y.bills i):=by have:=gI_at (l:=y.bills) (i:=(i:Int)) (by simp;omega);simpa using this
   have hii:((i:Int)<(y.gas.length:Int))=True:=eq_true (by omega)
   have hij:((i:Int)<(y.bills.length:Int))=True:=eq_true (by omega)
   cases c1:inB (gI y.gas i) 0 x.space with
   |false=>
    (have hb:=trivial;with_reducible repeat' (first|simp only[hb,Vc.down,seval,TY73.down,h2,h3,h48,h49,h50,hd,hx,hw,hA1,hB1,aG,aL,hii,hij,e_in,c1,iv,BCon.cells,List.length_map]|refine fsp ?_ ?_<;>intro hb|refine fd ?_|fail))
    exact kQ _ _ _ (by rw[if_neg (by simp[rngF,c1])];exact⟨rfl,by simp[up]⟩)
   |true=>
    cases c2:inB (gI y.bills i) (-1000000000000000) 1000000000000000 with
    |false=>
     (have hb:=trivial;with_reducible repeat' (first|simp only[hb,Vc.down,seval,TY73.down,h2,h3,h48,h49,h50,hd,hx,hw,hA1,hB1,aG,aL,hii,hij,e_in,c1,c2,iv,BCon.cells,List.length_map]|refine fsp ?_ ?_<;>intro hb|refine fd ?_|fail))
     exact kQ _ _ _ (by rw[if_neg (by simp[rngF,c1,c2])];exact⟨rfl,by simp[up]⟩)
    |true=>
     (have hb:=trivial;with_reducible repeat' (first|simp only[hb,Vc.down,seval,TY73.down,h2,h3,h48,h49,h50,hd,hx,hw,hA1,hB1,aG,aL,hii,hij,e_in,c1,c2,iv,BCon.cells,List.length_map]|refine fsp ?_ ?_<;>intro hb|refine fd ?_|fail))
     (refine rnd_go (kJ _ _ (i+1) ⟨?_,?_,?_,?_,?_,⟨hA1 _,hB1 _,rfl⟩⟩ ?_);(simp[up,h2]);(simp[up,h3]);(simp[up,h48]);(simp[up,h49]);(simp[up]);(simp[rngF,c1,c2]))
  ·exact⟨by simp[up,ent],by simp[up,ent],by simp[up,ent],by simp[up,ent],by simp[up],⟨rfl,rfl,rfl⟩⟩
  ·have hce:=e_contTraS (ss:=s) (xs:=y) (l:=y.owed) (nn:=y.nO) (g:=114) (p:=fun t=> !owedB y.hour s.cons.length t) (fun t _=>e_state1 s y t) hy.owed
   split at hk
   ·obtain⟨rfl,h2,h3,hA,hB⟩:=hk
    rename_i hr'
    (have hb:=trivial;with_reducible repeat' (first|simp only[hb,Vc.down,seval,TY73.down,h2,h3,hA,hB,hce]|refine fsp ?_ ?_<;>intro hb|refine fd ?_|fail))
    simp[stateB,hp,hr',List.all_eq_not_any_not]
   ·obtain⟨rfl,h4⟩:=hk
    rename_i hr'
    (have hb:=trivial;with_reducible repeat' (first|simp only[hb,Vc.down,seval,TY73.down,h4]|refine fsp ?_ ?_<;>intro hb|refine fd ?_|fail))
    simp[stateB,hp,hr']
theorem r_Day(d:BDay)(hs:d.small)(n:Int):om'.call (.fn 24) [.agg d.cells,.int .i64 n] []=some (.ret (.bool (dayB n d)),[]):=by
 have c2:=r_Noms (l:=d.noms) (nn:=d.nn) n hs.noms
 have l1:decide ((d.hours.length:Int)≤48)=decide (d.hours.length≤48):=by rw[decide_eq_decide];omega
 have l2:decide ((d.noms.length:Int)≤200)=decide (d.noms.length≤200):=by rw[decide_eq_decide];omega
 have l3:decide ((d.trades.length:Int)≤50)=decide (d.trades.length≤50):=by rw[decide_eq_decide];omega
 have k:dayB n d=(d.hours.all hourB&&d.trades.all (tradeB n)&&decide (d.hours.length≤48)&&decide (d.noms.length≤200)&&decide (d.trades.length≤50)&&d.noms.all (nomB n)):=by
  unfold dayB
  rw[Bool.eq_iff_iff]
  simp only[Bool.and_eq_true]
  constructor<;>(intro h;simp only[h,and_self])
 rw[k]
 (refine ce Tryz.func24 ?_;simp only[Tryz.f24];(have hb:=trivial;with_reducible repeat' (first|simp only[hb,Vc.down,seval,TY24.down,BDay.cells,List.length_map]|refine fsp ?_ ?_<;>intro hb|refine fd ?_|fail)))
 refine fw_ot (lst 79 d.hours (fun i (zz:Unit) t h=>t 1=.int .i64 n∧t 2=.ptr 0 0 0∧t 5=.int .i64 i∧(h[0]?=some (.live 3 false false [d.cells]))) (fun rest zz=>rest.all hourB) (fun r e t h=>(if r=true then e=.exit 0∧t 1=.int .i64 n∧t 2=.ptr 0 0 0∧h[0]?=some (.live 3 false false [d.cells])else e=.ret∧t 4=.bool false)) ?_ ?_ () _ _ ?_) (fun e t h hk=>?_)
 ·rintro _ t h Q' kQ ⟨h1,h2,h5,hA⟩
  (have hb:=trivial;with_reducible repeat' (first|simp only[hb,Vc.down,seval,TY24.down,h1,h2,h5,Int.lt_irrefl,decide_false,hA,List.length_map]|refine fsp ?_ ?_<;>intro hb|refine fd ?_|fail))
  exact kQ _ _ _ (by rw[if_pos (by rfl)];exact⟨rfl,by simp[up,h1],by simp[up,h2],hA⟩)
 ·rintro x rest i _ t h J Q' kJ kQ hx hi ⟨h1,h2,h5,hA⟩
  have hd:decide ((i:Int)<(d.hours.length:Int))=true:=decide_eq_true (by omega)
  have hw:=wrap_next hi hs.hours
  have hA1:=get_app hA
  cases c0:hourB x with
  |false=>
   have c0':=c0
   simp only[hourB,Bool.and_eq_false_iff]at c0'
   (have hb:=trivial;with_reducible repeat' (first|simp only[hb,Vc.down,seval,TY24.down,h1,h2,h5,hd,hx,hw,hA,hA1,r_Much,BHour.cells,List.length_map]|refine fsp ?_ ?_<;>intro hb|refine fd ?_|fail))
   all_goals first
    |exact kQ _ _ _ (by rw[if_neg (by simp[c0])];exact⟨rfl,by simp[up]⟩)
    |(exfalso;simp_all)
  |true=>
   have c0':=c0
   simp only[hourB,Bool.and_eq_true]at c0'
   obtain⟨⟨⟨u1,u2⟩,u3⟩,u4⟩:=c0'
   (have hb:=trivial;with_reducible repeat' (first|simp only[hb,Vc.down,seval,TY24.down,h1,h2,h5,hd,hx,hw,hA,hA1,r_Much,u1,u2,u3,u4,BHour.cells,List.length_map]|refine fsp ?_ ?_<;>intro hb|refine fd ?_|fail))
   (refine rnd_go (kJ _ _ () ⟨?_,?_,?_,hA1 _⟩ ?_);(simp[up,h1]);(simp[up,h2]);(simp[up]);(simp[c0]))
 ·exact⟨by simp[up,ent],by simp[up,ent],by simp[up],rfl⟩
 ·split at hk
  ·obtain⟨rfl,h1,h2,hA⟩:=hk
   rename_i hr1
   (have hb:=trivial;with_reducible repeat' (first|simp only[hb,Vc.down,seval,TY24.down,h1,h2,hA]|refine fsp ?_ ?_<;>intro hb|refine fd ?_|fail))
   refine fw_ot (lst 79 d.trades (fun i (zz:Unit) t h=>t 1=.int .i64 n∧t 2=.ptr 0 0 0∧t 7=.int .i64 i∧(h[0]?=some (.live 3 false false [d.cells]))) (fun rest zz=>rest.all (tradeB n)) (fun r e t h=>(if r=true then e=.exit 2∧t 1=.int .i64 n∧t 2=.ptr 0 0 0∧h[0]?=some (.live 3 false false [d.cells])else e=.ret∧t 4=.bool false)) ?_ ?_ () _ _ ?_) (fun e t h hk=>?_)
   ·rintro _ t h Q' kQ ⟨h1,h2,h7,hA⟩
    (have hb:=trivial;with_reducible repeat' (first|simp only[hb,Vc.down,seval,TY24.down,h1,h2,h7,Int.lt_irrefl,decide_false,hA,List.length_map]|refine fsp ?_ ?_<;>intro hb|refine fd ?_|fail))
    exact kQ _ _ _ (by rw[if_pos (by rfl)];exact⟨rfl,by simp[up,h1],by simp[up,h2],hA⟩)
   ·rintro x rest i _ t h J Q' kJ kQ hx hi ⟨h1,h2,h7,hA⟩
    have hd:decide ((i:Int)<(d.trades.length:Int))=true:=decide_eq_true (by omega)
    have hw:=wrap_next hi hs.trades
    cases c0:tradeB n x with
    |false=>
     (have hb:=trivial;with_reducible repeat' (first|simp only[hb,Vc.down,seval,TY24.down,h1,h2,h7,hd,hx,hw,hA,r_Trade,c0,BTrade.cells,List.length_map]|refine fsp ?_ ?_<;>intro hb|refine fd ?_|fail))
     exact kQ _ _ _ (by rw[if_neg (by simp[c0])];exact⟨rfl,by simp[up]⟩)
    |true=>
     (have hb:=trivial;with_reducible repeat' (first|simp only[hb,Vc.down,seval,TY24.down,h1,h2,h7,hd,hx,hw,hA,r_Trade,c0,BTrade.cells,List.length_map]|refine fsp ?_ ?_<;>intro hb|refine fd ?_|fail))
     (refine rnd_go (kJ _ _ () ⟨?_,?_,?_,hA⟩ ?_);(simp[up,h1]);(simp[up,h2]);(simp[up]);(simp[c0]))
   ·exact⟨by simp[up,ent,h1,h2],by simp[up,ent,h1,h2],by simp[up],hA⟩
   ·split at hk
    ·obtain⟨rfl,h1,h2,hA⟩:=hk
     rename_i hr2
     (have hb:=trivial;with_reducible repeat' (first|simp only[hb,Vc.down,seval,TY24.down,h1,h2,hA,c2,l1,l2,l3,List.length_map]|refine fsp ?_ ?_<;>intro hb|refine fd ?_|fail))
     all_goals (refine congrArg (fun b=>(Out.ret (AV.bool b),([]:Heap))) ?_;clear k c2;simp_all)
    ·obtain⟨rfl,h4⟩:=hk
     rename_i hr2
     (have hb:=trivial;with_reducible repeat' (first|simp only[hb,Vc.down,seval,TY24.down,h4]|refine fsp ?_ ?_<;>intro hb|refine fd ?_|fail))
     simp[hr2]
  ·obtain⟨rfl,h4⟩:=hk
   rename_i hr1
   (have hb:=trivial;with_reducible repeat' (first|simp only[hb,Vc.down,seval,TY24.down,h4]|refine fsp ?_ ?_<;>intro hb|refine fd ?_|fail))
   simp[hr1]
theorem r_SameTrades{l l':List BTrade}{nn nn':Bool}(hl:l.length≤maxLen)(hl':l'.length≤maxLen)(heq:l=l'):om'.call (.fn 65) [slv 5 true nn (l.map BTrade.cells),slv 5 true nn' (l'.map BTrade.cells)] []=some (.ret (.bool true),[]):=by
 subst heq
 (refine ce Tryz.func65 ?_;simp only[Tryz.f65];(have hb:=trivial;with_reducible repeat' (first|simp only[hb,Vc.down,seval,TY65.down,List.length_map,i_eqself,Bool.not_true]|refine fsp ?_ ?_<;>intro hb|refine fd ?_|fail)))
 refine fw_ot (lst 26 l (fun i (zz:Unit) t h=>t 0=slv 5 true nn (l.map BTrade.cells)∧t 1=slv 5 true nn' (l.map BTrade.cells)∧t 5=.int .i64 i) (fun rest zz=>()) (fun r e t h=>e=.exit 0) ?_ ?_ () _ _ ?_) (fun e t h hk=>?_)
 ·rintro _ t h Q' kQ ⟨h0,h1,h5⟩
  (have hb:=trivial;with_reducible repeat' (first|simp only[hb,Vc.down,seval,TY65.down,h0,h1,h5,Int.lt_irrefl,decide_false]|refine fsp ?_ ?_<;>intro hb|refine fd ?_|fail))
  exact kQ _ _ _ rfl
 ·rintro x rest i _ t h J Q' kJ kQ hx hi ⟨h0,h1,h5⟩
  have hd:decide ((i:Int)<(l.length:Int))=true:=decide_eq_true (by omega)
  have hw:=wrap_next hi hl
  (have hb:=trivial;with_reducible repeat' (first|simp only[hb,Vc.down,seval,TY65.down,h0,h1,h5,hd,hx,hw,BTrade.cells,List.length_map,i_eqself,Bool.not_true,Bool.and_self]|refine fsp ?_ ?_<;>intro hb|refine fd ?_|fail))
  (refine rnd_go (kJ _ _ () ⟨?_,?_,?_⟩ ?_);(simp[up,h0]);(simp[up,h1]);(simp[up]);exact rfl)
 ·exact⟨by simp[up,ent],by simp[up,ent],by simp[up]⟩
 ·obtain rfl:=hk
  (have hb:=trivial;with_reducible repeat' (first|simp only[hb,Vc.down,seval,TY65.down]|refine fsp ?_ ?_<;>intro hb|refine fd ?_|fail))
theorem oth_eq{c:BCon}{w:Int}(h: -1000000000≤w∧w≤1000000000):othW c w=othR c w:=by
 unfold othW othR firmW
 split
 ·rw[Int.sub_self];exact wrap_0
 ·rw[Int.sub_zero];exact wrap_of (by omega) (by omega)
theorem oz_eq:∀{cs:List BCon} {l:List Int},(∀w∈l,-1000000000≤w∧w≤1000000000)→ozL cs l=ozR cs l
 | [],_,_=>rfl
 |_::_,[],_=>rfl
 |c::cs,w::l,h=>by
  have ih:=oz_eq (cs:=cs) (l:=l) (fun x hx=>h x (List.mem_cons_of_mem _ hx))
  simp only[ozL,ozR,List.zipWith_cons_cons]at ih ⊢
  rw[ih,oth_eq (h w (List.mem_cons_self ..))]
theorem grant_eq{cs:List BCon}{l:List Int}(h:∀w∈l,-1000000000≤w∧w≤1000000000)(m:Int):grantL cs l m=grantR cs l m:=by
 unfold grantL grantR
 rw[oz_eq h]
theorem pos_in{x:Int}(h:inB x (-100000000) 100000000=true):0≤posI x∧posI x≤100000000:=by
 simp only[inB,Bool.and_eq_true,decide_eq_true_eq]at h
 unfold posI;split<;>omega
theorem neg_in{x:Int}(h:inB x (-100000000) 100000000=true):0≤negI x∧negI x≤100000000:=by
 simp only[inB,Bool.and_eq_true,decide_eq_true_eq]at h
 unfold negI posI;rw[wrap_of (by omega) (by omega)];split<;>omega
theorem grantAll_eq{cs:List BCon}{l:List Int}(h:wantsB l=true)(a b:Int):grantAll grantL cs l a b=grantAll grantR cs l a b:=by
 simp only[wantsB,List.all_eq_true]at h
 unfold grantAll
 rw[grant_eq (fun w hw=>by
  obtain⟨x,hx,rfl⟩:=List.mem_map.1 hw
  have:=pos_in (h x hx);omega),grant_eq (fun w hw=>by
  obtain⟨x,hx,rfl⟩:=List.mem_map.1 hw
  have:=neg_in (h x hx);omega)]
theorem r_Same1{l l':List Int}{nn nn':Bool}(hl:l.length≤maxLen)(hl':l'.length≤maxLen):om'.call (.fn 20) [slv 1 true nn (l.map iv),slv 1 true nn' (l'.map iv)] []=some (.ret (.bool (decide (l=l'))),[]):=r_Same hl hl'
theorem ty_ints{n:Nat}{r:List AV}(h:Ty Tryz.prog (n+2) 25 r):∃(nn:Bool) (l:List Int),r=[slv 1 true nn (l.map iv)]∧l.length≤maxLen∧∀x∈l,i64 x:=by
 unfold Ty at h
 simp only[Tryz.underlying25]at h
 obtain⟨nn,rows,rfl,hl,hrows⟩:=h
 obtain⟨l,rfl,hi⟩:=list_of (f:=iv) (q:=i64) (fun r hr=>by obtain⟨x,rfl,hx⟩:=ty_int hr;exact⟨x,rfl,hx⟩) hrows
 have e1:Tryz.prog.cellsOf 3=1:=by kernel_rfl
 have e2:flT Tryz.prog (n+1) 3=true:=by
  simp only[flT,Tryz.underlying3]
 rw[e1,e2]
 exact⟨nn,l,rfl,by simpa using hl,hi⟩
theorem r_State(s:BStore)(hs:s.small)(y:BState)(hy:y.small):om'.call (.fn 41) [.agg s.cells,.agg y.cells] []=some (.ret (.bool (stateB s y)),[]):=by
 have l1:(!((y.gas.length:Int)==(s.cons.length:Int)))= !decide (y.gas.length=s.cons.length):=by
  congr 1
  rw[Bool.eq_iff_iff];simp only[beq_iff_eq,decide_eq_true_eq];omega
 have l2:(!((y.bills.length:Int)==(s.cons.length:Int)))= !decide (y.bills.length=s.cons.length):=by
  congr 1
  rw[Bool.eq_iff_iff];simp only[beq_iff_eq,decide_eq_true_eq];omega
 have l3:decide ((50:Int)<(y.owed.length:Int))= !decide (y.owed.length≤50):=by rw[←decide_not,decide_eq_decide];omega
 have hl:=hs.cons
 cases hp:preB s.cons.length y with
 |false=>
  (refine ce Tryz.func41 ?_;simp only[Tryz.f41];(have hb:=trivial;with_reducible repeat' (first|simp only[hb,Vc.down,seval,TY41.down,List.length_map,r_in,l1,l2,l3]|refine fsp ?_ ?_<;>intro hb|refine fd ?_|fail)))
  all_goals first
   |(simp[stateB,hp];done)
   |(exfalso;rcases pre_neg s y hp with h|h|h|h|h|h<;>simp_all;done)
   |(exfalso;rcases pre_neg s y hp with h|h|h|h|h|h<;>simp_all<;>omega)
 |true=>
  have hp':=hp
  simp only[preB,Bool.and_eq_true,decide_eq_true_eq]at hp'
  obtain⟨⟨⟨⟨⟨p1,p2⟩,p3⟩,p4⟩,p5⟩,p6⟩:=hp'
  have q1:decide (y.gas.length=s.cons.length)=true:=by simpa using p1
  have q2:decide (y.bills.length=s.cons.length)=true:=by simpa using p2
  have q6:decide (y.owed.length≤50)=true:=by simpa using p6
  (refine ce Tryz.func41 ?_;simp only[Tryz.f41];(have hb:=trivial;with_reducible repeat' (first|simp only[hb,Vc.down,seval,TY41.down,List.length_map,r_in,l1,l2,l3,q1,q2,q6,p3,p4,p5]|refine fsp ?_ ?_<;>intro hb|refine fd ?_|fail)))
  refine fw_ot (lst 100 s.cons (fun i (zz:Nat) t h=>t 2=.ptr 0 0 0∧t 3=.ptr 1 0 0∧t 5=.int .i64 s.cons.length∧t 6=.int .i64 i∧(h[0]?=some (.live 6 false false [s.cells])∧h[1]?=some (.live 6 false false [y.cells])∧i=zz)) (fun rest zz=>rngF y.gas y.bills rest zz) (fun r e t h=>(if r=true then e=.exit 0∧t 2=.ptr 0 0 0∧t 3=.ptr 1 0 0∧t 5=.int .i64 s.cons.length∧h[0]?=some (.live 6 false false [s.cells])∧h[1]?=some (.live 6 false false [y.cells])else e=.ret∧t 4=.bool false)) ?_ ?_ (0) _ _ ?_) (fun e t h hk=>?_)
  ·rintro k t h Q' kQ ⟨h2,h3,h5,h6,⟨hA,hB,rfl⟩⟩
   (have hb:=trivial;with_reducible repeat' (first|simp only[hb,Vc.down,seval,TY41.down,h2,h3,h5,h6,Int.lt_irrefl,decide_false]|refine fsp ?_ ?_<;>intro hb|refine fd ?_|fail))
   exact kQ _ _ _ (by rw[if_pos (by rfl)];exact⟨rfl,by simp[up,h2],by simp[up,h3],by simp[up,h5],hA,hB⟩)
  ·rintro x rest i k t h J Q' kJ kQ hx hi ⟨h2,h3,h5,h6,⟨hA,hB,rfl⟩⟩
   have hd:decide ((i:Int)<(s.cons.length:Int))=true:=decide_eq_true (by omega)
   have hw:=wrap_next hi hl
   have aG:y.gas[i]?=some (gI y.gas i):=by have:=gI_at (l:=y.gas) (i:=(i:Int)) (by simp;omega);simpa using this
   have aL:y.bills[i]?=some (gI y.bills i):=by have:=gI_at (l:=y.bills) (i:=(i:Int)) (by simp;omega);simpa using this
   have hii:((i:Int)<(y.gas.length:Int))=True:=eq_true (by omega)
   have hij:((i:Int)<(y.bills.length:Int))=True:=eq_true (by omega)
   cases c1:inB (gI y.gas i) 0 x.space with
   |false=>
    (have hb:=trivial;with_reducible repeat' (first|simp only[hb,Vc.down,seval,TY41.down,h2,h3,h5,h6,hd,hx,hw,hA,hB,aG,aL,hii,hij,r_in,c1,iv,BCon.cells,List.length_map]|refine fsp ?_ ?_<;>intro hb|refine fd ?_|fail))
    exact kQ _ _ _ (by rw[if_neg (by simp[rngF,c1])];exact⟨rfl,by simp[up]⟩)
   |true=>
    cases c2:inB (gI y.bills i) (-1000000000000000) 1000000000000000 with
    |false=>
     (have hb:=trivial;with_reducible repeat' (first|simp only[hb,Vc.down,seval,TY41.down,h2,h3,h5,h6,hd,hx,hw,hA,hB,aG,aL,hii,hij,r_in,c1,c2,iv,BCon.cells,List.length_map]|refine fsp ?_ ?_<;>intro hb|refine fd ?_|fail))
     exact kQ _ _ _ (by rw[if_neg (by simp[rngF,c1,c2])];exact⟨rfl,by simp[up]⟩)
    |true=>
     (have hb:=trivial;with_reducible repeat' (first|simp only[hb,Vc.down,seval,TY41.down,h2,h3,h5,h6,hd,hx,hw,hA,hB,aG,aL,hii,hij,r_in,c1,c2,iv,BCon.cells,List.length_map]|refine fsp ?_ ?_<;>intro hb|refine fd ?_|fail))
     (refine rnd_go (kJ _ _ (i+1) ⟨?_,?_,?_,?_,⟨hA,hB,rfl⟩⟩ ?_);(simp[up,h2]);(simp[up,h3]);(simp[up,h5]);(simp[up]);(simp[rngF,c1,c2]))
  ·exact⟨by simp[up,ent],by simp[up,ent],by simp[up,ent],by simp[up],⟨rfl,rfl,rfl⟩⟩
  ·split at hk
   ·obtain⟨rfl,h2,h3,h5,hA,hB⟩:=hk
    rename_i hr'
    (have hb:=trivial;with_reducible repeat' (first|simp only[hb,Vc.down,seval,TY41.down,h2,h3,h5,hA,hB]|refine fsp ?_ ?_<;>intro hb|refine fd ?_|fail))
    refine fw_ot (lst 100 y.owed (fun i (zz:Unit) t h=>t 3=.ptr 1 0 0∧t 5=.int .i64 s.cons.length∧t 7=.int .i64 i∧(h[1]?=some (.live 6 false false [y.cells]))) (fun rest zz=>rest.all (owedB y.hour s.cons.length)) (fun r e t h=>(if r=true then e=.exit 2 else e=.ret∧t 4=.bool false)) ?_ ?_ () _ _ ?_) (fun e t h hk=>?_)
    ·rintro _ t h Q' kQ ⟨h3,h5,h7,hB⟩
     (have hb:=trivial;with_reducible repeat' (first|simp only[hb,Vc.down,seval,TY41.down,h3,h5,h7,Int.lt_irrefl,decide_false,hB,List.length_map]|refine fsp ?_ ?_<;>intro hb|refine fd ?_|fail))
     exact kQ _ _ _ (by rw[if_pos (by rfl)])
    ·rintro x rest i _ t h J Q' kJ kQ hx hi ⟨h3,h5,h7,hB⟩
     have hd:decide ((i:Int)<(y.owed.length:Int))=true:=decide_eq_true (by omega)
     have hw:=wrap_next hi hy.owed
     have q:decide (x.back<y.hour)= !decide (y.hour≤x.back):=by rw[←decide_not,decide_eq_decide];omega
     have h0:0≤y.hour:=by simp only[inB,Bool.and_eq_true,decide_eq_true_eq]at p3;omega
     have q':decide (y.hour≤x.back)=(!(x.back== -1)&&decide (y.hour≤x.back)):=by
      rw[Bool.eq_iff_iff]
      simp only[Bool.and_eq_true,Bool.not_eq_true',beq_eq_false_iff_ne,decide_eq_true_eq]
      omega
     cases c1:tradeB s.cons.length x with
     |false=>
      (have hb:=trivial;with_reducible repeat' (first|simp only[hb,Vc.down,seval,TY41.down,h3,h5,h7,hd,hx,hw,hB,r_Trade,c1,BTrade.cells,List.length_map]|refine fsp ?_ ?_<;>intro hb|refine fd ?_|fail))
      exact kQ _ _ _ (by rw[if_neg (by simp[owedB,c1])];exact⟨rfl,by simp[up]⟩)
     |true=>
      cases c2:decide (y.hour≤x.back)with
      |false=>
       (have hb:=trivial;with_reducible repeat' (first|simp only[hb,Vc.down,seval,TY41.down,h3,h5,h7,hd,hx,hw,hB,r_Trade,c1,q,c2,BTrade.cells,List.length_map]|refine fsp ?_ ?_<;>intro hb|refine fd ?_|fail))
       exact kQ _ _ _ (by rw[if_neg (by simp[owedB,c2])];exact⟨rfl,by simp[up]⟩)
      |true=>
       (have hb:=trivial;with_reducible repeat' (first|simp only[hb,Vc.down,seval,TY41.down,h3,h5,h7,hd,hx,hw,hB,r_Trade,c1,q,c2,BTrade.cells,List.length_map]|refine fsp ?_ ?_<;>intro hb|refine fd ?_|fail))
       (refine rnd_go (kJ _ _ () ⟨?_,?_,?_,hB⟩ ?_);(simp[up,h3]);(simp[up,h5]);(simp[up]);(rw[c2]at q';simp only[List.all_cons,owedB,c1,c2,Bool.true_and,←q',Bool.and_true]))
    ·exact⟨by simp[up,ent,h3,h5],by simp[up,ent,h3,h5],by simp[up],hB⟩
    ·split at hk
     ·obtain rfl:=hk
      rename_i hr2
      (have hb:=trivial;with_reducible repeat' (first|simp only[hb,Vc.down,seval,TY41.down]|refine fsp ?_ ?_<;>intro hb|refine fd ?_|fail))
      simp[stateB,hp,hr',hr2]
     ·obtain⟨rfl,h4⟩:=hk
      rename_i hr2
      (have hb:=trivial;with_reducible repeat' (first|simp only[hb,Vc.down,seval,TY41.down,h4]|refine fsp ?_ ?_<;>intro hb|refine fd ?_|fail))
      simp[stateB,hp,hr',hr2]
   ·obtain⟨rfl,h4⟩:=hk
    rename_i hr'
    (have hb:=trivial;with_reducible repeat' (first|simp only[hb,Vc.down,seval,TY41.down,h4]|refine fsp ?_ ?_<;>intro hb|refine fd ?_|fail))
    simp[stateB,hp,hr']
/-- Equal states, as they are read. -/
theorem r_SameState{hr own fuel:Int}{G L:List Int}{O:List BTrade}{g1 g2 l1 l2 o1 o2:Bool}(hG:G.length≤maxLen)(hL:L.length≤maxLen)(hO:O.length≤maxLen):
 om'.call (.fn 27) [.agg [.int .i64 hr,slv 1 true g1 (G.map iv),.int .i64 own,.int .i64 fuel,slv 1 true l1 (L.map iv),slv 5 true o1 (O.map BTrade.cells)],.agg [.int .i64 hr,slv 1 true g2 (G.map iv),.int .i64 own,.int .i64 fuel,slv 1 true l2 (L.map iv),slv 5 true o2 (O.map BTrade.cells)]] []=some (.ret (.bool true),[]):=by
 have s1:=r_Same1 (l:=G) (l':=G) (nn:=g1) (nn':=g2) hG hG
 have s2:=r_Same1 (l:=L) (l':=L) (nn:=l1) (nn':=l2) hL hL
 have s3:=r_SameTrades (l:=O) (l':=O) (nn:=o1) (nn':=o2) hO hO rfl
 (refine ce Tryz.func27 ?_;simp only[Tryz.f27];(have hb:=trivial;with_reducible repeat' (first|simp only[hb,Vc.down,seval,TY27.down,s1,s2,s3,i_eqself,decide_true]|refine fsp ?_ ?_<;>intro hb|refine fd ?_|fail)))
theorem r_SameFlow{W A F R:List Int}{w1 w2 a1 a2 f1 f2 r1 r2:Bool}(hW:W.length≤maxLen)(hA:A.length≤maxLen)(hF:F.length≤maxLen)(hR:R.length≤maxLen):
 om'.call (.fn 28) [.agg [slv 1 true w1 (W.map iv),slv 1 true a1 (A.map iv),slv 1 true f1 (F.map iv),slv 1 true r1 (R.map iv)],.agg [slv 1 true w2 (W.map iv),slv 1 true a2 (A.map iv),slv 1 true f2 (F.map iv),slv 1 true r2 (R.map iv)]] []=some (.ret (.bool true),[]):=by
 have s1:=r_Same1 (l:=W) (l':=W) (nn:=w1) (nn':=w2) hW hW
 have s2:=r_Same1 (l:=A) (l':=A) (nn:=a1) (nn':=a2) hA hA
 have s3:=r_Same1 (l:=F) (l':=F) (nn:=f1) (nn':=f2) hF hF
 have s4:=r_Same1 (l:=R) (l':=R) (nn:=r1) (nn':=r2) hR hR
 (refine ce Tryz.func28 ?_;simp only[Tryz.f28];(have hb:=trivial;with_reducible repeat' (first|simp only[hb,Vc.down,seval,TY28.down,s1,s2,s3,s4,decide_true]|refine fsp ?_ ?_<;>intro hb|refine fd ?_|fail)))
def inR(c:BCon):Int:=(c.rates.head?.map BRate.inn).getD 0
def outR(c:BCon):Int:=(c.rates.getLast?.map BRate.out).getD 0
def actv(h:Int)(c:BCon):Bool:=c.firm&&inB h c.lo c.hi
def inS(h:Int):List BCon→Int
 | []=>0
 |c::l=>(if actv h c=true then inR c else 0)+inS h l
def outS(h:Int):List BCon→Int
 | []=>0
 |c::l=>(if actv h c=true then outR c else 0)+outS h l
def spS:List BCon→Int
 | []=>0
 |c::l=>c.space+spS l
theorem ratesB_mem:∀{l:List BRate} {p:Option BRate} {r:BRate},ratesB l p=true→r∈l→0≤r.inn∧r.inn≤100000000∧0≤r.out∧r.out≤100000000
 |x::l,p,r,h,hr=>by
  simp only[ratesB,Bool.and_eq_true]at h
  rcases List.mem_cons.1 hr with rfl|hr
  ·have:=h.1
   simp only[rateB,inB,Bool.and_eq_true,decide_eq_true_eq]at this
   omega
  ·exact ratesB_mem h.2 hr
structure ConOK(c:BCon):Prop where
 inn:0≤inR c∧inR c≤100000000
 out:0≤outR c∧outR c≤100000000
 space:1≤c.space∧c.space≤100000000
 fixed:0≤c.fixed∧c.fixed≤10000
 hours:0≤c.lo∧c.lo≤c.hi∧c.hi<48
 rates:c.rates≠[]∧c.rates.length≤6
theorem conOK{c:BCon}(h:conB c=true):ConOK c:=by
 have h0:=h
 simp only[conB,Bool.and_eq_true,inB,hoursB,decide_eq_true_eq,List.all_cons]at h
 obtain⟨⟨⟨⟨⟨h1,h2⟩,h3⟩,h4⟩,h5⟩,h6⟩:=h
 have hr:c.rates≠[]:=fun e=>by rw[e]at h4;simp at h4
 refine⟨?_,?_,h2,h6.1,?_,hr,by omega⟩
 ·unfold inR
  cases hh:c.rates.head? with
  |none=>simp
  |some r=>have:=ratesB_mem h1 (List.mem_of_head? hh);simp;omega
 ·unfold outR
  cases hh:c.rates.getLast? with
  |none=>simp
  |some r=>have:=ratesB_mem h1 (List.mem_of_getLast? hh);simp;omega
 ·omega
theorem allOK{l:List BCon}(h:l.all conB=true):∀c∈l,ConOK c:=fun c hc=>conOK (List.all_eq_true.1 h c hc)
theorem soldF_eq{h:Int}:∀{l:List BCon} {a b:Int},(∀c∈l,ConOK c)→0≤a→0≤b→a+100000000*l.length<2 ^ 62→b+100000000*l.length<2 ^ 62→soldF h l (a,b)=(a+inS h l,b+outS h l)
 | [],a,b,_,_,_,_,_=>by simp[soldF,inS,outS]
 |c::l,a,b,hl,ha,hb,h1,h2=>by
  have c1:=(hl c (List.mem_cons_self ..)).inn
  have c2:=(hl c (List.mem_cons_self ..)).out
  simp only[List.length_cons]at h1 h2
  have ht:∀c∈l,ConOK c:=fun c hc=>hl c (List.mem_cons_of_mem _ hc)
  simp only[soldF,sold1,inS,outS]
  cases hx:actv h c with
  |true=>
   have hx':(c.firm&&inB h c.lo c.hi)=true:=hx
   rw[if_pos hx',if_pos rfl,if_pos rfl]
   change soldF h l (IntKind.i64.wrap (a+inR c),IntKind.i64.wrap (b+outR c))=_
   rw[wrap_of (by omega) (by omega),wrap_of (by omega) (by omega),soldF_eq ht (by omega) (by omega) (by omega) (by omega)]
   simp only[Int.add_assoc]
  |false=>
   have hx':(c.firm&&inB h c.lo c.hi)=false:=hx
   rw[if_neg (by rw[hx'];simp),if_neg (by simp),if_neg (by simp),soldF_eq ht (by omega) (by omega) (by omega) (by omega)]
   simp
theorem spacesF_eq:∀{l:List BCon} {a:Int},(∀c∈l,ConOK c)→0≤a→a+100000000*l.length<2 ^ 62→spacesF l a=a+spS l
 | [],a,_,_,_=>by simp[spacesF,spS]
 |c::l,a,hl,ha,h1=>by
  have c1:=(hl c (List.mem_cons_self ..)).space
  simp only[List.length_cons]at h1
  simp only[spacesF,spS]
  rw[wrap_of (by omega) (by omega),spacesF_eq (fun c hc=>hl c (List.mem_cons_of_mem _ hc)) (by omega) (by omega)]
  omega
theorem hoursF_iff{p:Int→Bool}:∀{n:Nat},n≤48→(hoursF p n=true↔∀h:Int,48-n≤h→h<48→p h=true)
 |0,_=>⟨fun _ h h1 h2=>by omega,fun _=>rfl⟩
 |n+1,hn=>by
  simp only[hoursF,Bool.and_eq_true,hoursF_iff (n:=n) (by omega)]
  constructor
  ·rintro⟨h1,h2⟩ h h3 h4
   by_cases he:h=48-((n+1:Nat):Int)
   ·rw[he];exact h1
   ·exact h2 h (by omega) h4
  ·exact fun hk=>⟨hk _ (by omega) (by omega),fun h h3 h4=>hk h (by omega) h4⟩
theorem onceB_iff{s:BStore}{l:List BCon}(hl:∀c∈l,ConOK c)(hn:l.length≤1000):onceB s l=true↔(∀h:Int,0≤h→h<48→inS h l≤s.inn∧outS h l≤s.out)∧spS l≤s.space:=by
 simp only[onceB,Bool.and_eq_true,decide_eq_true_eq,hoursF_iff (Nat.le_refl 48)]
 rw[spacesF_eq hl (by omega) (by omega)]
 simp only[okH,Bool.and_eq_true,decide_eq_true_eq]
 constructor
 ·rintro⟨h1,h2⟩
  refine⟨fun h h3 h4=>?_,by omega⟩
  have:=h1 h (by omega) h4
  rw[soldF_eq hl (by omega) (by omega) (by omega) (by omega)]at this
  simpa using this
 ·rintro⟨h1,h2⟩
  refine⟨fun h h3 h4=>?_,by omega⟩
  rw[soldF_eq hl (by omega) (by omega) (by omega) (by omega)]
  simpa using h1 h (by omega) h4
structure StoreOK(s:BStore):Prop where
 space:0≤s.space∧s.space≤800000000
 inn:0≤s.inn∧s.inn≤800000000
 out:0≤s.out∧s.out≤800000000
 lead:0≤s.lead∧s.lead≤48
 fuel:0≤s.fuel∧s.fuel≤1000
 len:s.cons.length≤8
 cons:∀c∈s.cons,ConOK c
 once:(∀h:Int,0≤h→h<48→inS h s.cons≤s.inn∧outS h s.cons≤s.out)∧spS s.cons≤s.space
theorem storeOK{s:BStore}(h:storeB s=true):StoreOK s:=by
 have h1:=allOK (storeB_con h)
 have h2:=storeB_len' h
 simp only[storeB,Bool.and_eq_true,inB,decide_eq_true_eq,List.all_cons]at h
 exact⟨h.1.1.1.1.1.1,h.1.1.1.1.1.2.1,h.1.1.1.1.1.2.2.1,h.1.1.1.1.2,h.1.1.1.2,h2,h1,(onceB_iff h1 (by omega)).1 h.2⟩
end Go.Proofs.YtdbiogihimdpcaaGreatDoor
