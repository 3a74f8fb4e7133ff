/- The functions of the layer, walked. -/
import Derived.Test.YtdbiogihimdpcaaGreatDoorPartAG
import Derived.Test.YtdbiogihimdpcaaGreatDoorPartAB
import Derived.Test.YtdbiogihimdpcaaGreatDoorPartAC
open List renaming length_cons→aa9,map_nil→acI,length_map→acL,map_cons→acQ,getElem?_set→acR,length_set→acV,length_nil→adG,mem_cons_self→adK,mem_cons_of_mem→adL,sum_cons→adM,all_cons→adN,length_pos_iff→adQ,mem_of_getElem?→ae4,all_eq_true→ajX
open Bool renaming and_eq_true→abQ,eq_iff_iff→aeY
open Int renaming lt_irrefl→adJ,le_refl→adO,mul_comm→adP,emod_add_mul_ediv→ajY,emod_nonneg→ajZ,emod_lt_of_pos→aj0,ediv_le_ediv→aj1
set_option linter.unusedSimpArgs false
set_option linter.unusedVariables false
namespace Go.Proofs.YtdbiogihimdpcaaGreatDoor
open Go.Ev Go
set_option maxRecDepth 100000
set_option maxHeartbeats 16000000
def stO(n:Nat)(hr own fuel:Int)(ov wv av fv rv:AV):Ea:=.ret (.tup [.agg [.int .i64 hr,.slr 1 0 0 n,.int .i64 own,.int .i64 fuel,.slr 1 1 0 n,ov],.agg [wv,av,fv,rv]])
def iM(w:Bool)(l:List Int):CB:=.live 1 true w (l.map iv)
def lv5(w:Bool)(l:List Ab):CB:=.live 5 true w (l.map Ab.cells)
def zB(n:Nat)(hr own fuel:Int)(G L:List Int)(O:List Ab)(R W A F:List Int)(o:Ea)(h:Aa):Prop:=
 ∃w1 w2 w3 w4 w5 w6 w7:Bool,
  (O=[]∧R=[]∧o=stO n hr own fuel .nils (.slr 1 2 0 n) (.slr 1 3 0 n) (.slr 1 4 0 n) .nils∧h=[iM w1 G,iM w2 L,iM w3 W,iM w4 A,iM w5 F])∨
  (R=[]∧o=stO n hr own fuel (.slr 5 2 0 O.length) (.slr 1 3 0 n) (.slr 1 4 0 n) (.slr 1 5 0 n) .nils∧h=[iM w1 G,iM w2 L,lv5 w6 O,iM w3 W,iM w4 A,iM w5 F])∨
  (O=[]∧R≠[]∧o=stO n hr own fuel .nils (.slr 1 2 0 n) (.slr 1 3 0 n) (.slr 1 4 0 n) (.slr 1 5 0 R.length)∧h=[iM w1 G,iM w2 L,iM w3 W,iM w4 A,iM w5 F,iM w7 R])∨
  (R≠[]∧o=stO n hr own fuel (.slr 5 2 0 O.length) (.slr 1 3 0 n) (.slr 1 4 0 n) (.slr 1 5 0 n) (.slr 1 6 0 R.length)∧h=[iM w1 G,iM w2 L,lv5 w6 O,iM w3 W,iM w4 A,iM w5 F,iM w7 R])
theorem alD{s:Ac}{d:An}{hr own fuel:Int}{x:Au}{G L:List Int}{O:List Ab}{nG nL nO:Bool}(K:eT s d hr x O)(hG:G.length=s.cons.length)(hL:L.length=s.cons.length)(hO:O=[]∧nO=false):
 Vg Bl 64 [.agg s.cells,.agg [.int .i64 hr,Az 1 true nG (G.map iv),.int .i64 own,.int .i64 fuel,Az 1 true nL (L.map iv),Az 5 true nO (O.map Ab.cells)],.agg d.cells] []
  (zB s.cons.length (IntKind.i64.wrap (hr+1)) (Xp s d hr x G L O own) (G6 s d hr x G L O fuel).2 (G6 s d hr x G L O fuel).1 (L7 s d hr x G L O) (T2 s d hr G L O).2.1 (T2 s d hr G L O).2.2 (W3 s d hr G L O) (A4 s d hr x G L O) (F5 s d hr x G L O)):=by
 have hlen:=K.len
 have hp:0<s.cons.length:=adQ.2 K.ne
 have hGn:G≠[]:=fun e=>by rw[e]at hG;simp at hG;omega
 have hLn:L≠[]:=fun e=>by rw[e]at hL;simp at hL;omega
 obtain⟨hO1,rfl⟩:=hO
 have hsl:Az 5 true false (O.map Ab.cells)=.nils:=by rw[hO1];rfl
 have hc1:=Rl (l:=G) (by omega) hGn
 have hc2:=Rl (l:=L) (by omega) hLn
 have hct:Bl.call (.fn 103) [.nils] []=some (.ret .nils,[]):=kK
 have hb7:=mV 7
 simp only[qL,vA,acQ,acI]at hb7
 rw[hG]at hc1
 rw[hL]at hc2
 rw[jF (n:=1) (fl:=true) (nn:=nG) (eQ hGn),jF (n:=1) (fl:=true) (nn:=nL) (eQ hLn)]
 refine Nj rfl Tryz.func64 rfl rfl ?_
 simp only[Tryz.f64]
 (have hb:=trivial;with_reducible repeat' (first|simp only[hb,Vc.down,seval,aZ.down,hc1,hc2,hct,hsl,An.cells,hb7,acI]|refine Ai ?_ ?_<;>intro hb|refine fd ?_|fail))
 refine Dm (Sj 66 vA (fun i (_:Unit) t h=>t 8=.ptr 7 0 0∧t 6=.ptr 3 0 0∧t 7=.ptr 4 0 0∧t 42=.agg (vA.map (qL 7))∧t 43=.int .i64 i∧al0 h∧StS s d hr own fuel x G L O 7 i h) (fun _ _=>()) (fun _ e t h=>e=.exit 0∧t 8=.ptr 7 0 0∧t 6=.ptr 3 0 0∧t 7=.ptr 4 0 0∧al0 h∧StS s d hr own fuel x G L O 7 7 h) ?_ ?_ () _ _ ?_) (fun e t h hk=>?_)
 ·rintro _ t h Q' kQ ⟨h8,h6,h7,h42,h43,hF,hS⟩
  rw[show vA.length=7 from rfl]at h43 hS
  have h77:decide (((7:Nat):Int)<7)=false:=by decide
  (have hb:=trivial;with_reducible repeat' (first|simp only[hb,Vc.down,seval,aZ.down,h43,h77]|refine Ai ?_ ?_<;>intro hb|refine fd ?_|fail))
  exact kQ _ _ _ ⟨rfl,by simp[up,h8],by simp[up,h6],by simp[up,h7],hF,hS⟩
 ·rintro f rest i _ t h J Q' kJ kQ hx hi ⟨h8,h6,h7,h42,h43,hF,hS⟩
  have hi7:i<7:=hi
  have hd:decide ((i:Int)<7)=true:=decide_eq_true (by omega)
  have hw:IntKind.i64.wrap ((i:Int)+1)=((i+1:Nat):Int):=Ak (n:=7) hi7 (by unfold maxLen;omega)
  obtain⟨es,e,hB,hS'⟩:=ah1 K hx hS
  have hii:((i:Int)<7)=True:=eq_true (by omega)
  (have hb:=trivial;with_reducible repeat' (first|simp only[hb,Vc.down,seval,aZ.down,h42,h43,hd,hw,arM,hii,Nat.mul_one,hx,e]|refine Ai ?_ ?_<;>intro hb|refine fd ?_|fail))
  refine Aq (kJ _ _ () ⟨?_,?_,?_,?_,?_,?_,hS'⟩ rfl)
  ·simp[up,h8]
  ·simp[up,h6]
  ·simp[up,h7]
  ·simp[up,h42,qL]
  ·simp[up]
  ·exact⟨by obtain⟨⟨fl,w,hw1⟩,_⟩:=hF;exact⟨fl,w,by rw[hB 3 (by omega)];exact hw1⟩,by obtain⟨_,fl,w,hw1⟩:=hF;exact⟨fl,w,by rw[hB 4 (by omega)];exact hw1⟩⟩
 ·refine⟨by simp[up],by simp[up],by simp[up],by simp[up,vA,qL],by simp[up],⟨⟨_,_,rfl⟩,⟨_,_,rfl⟩⟩,?_⟩
  exact⟨by omega,hG,hL,_,_,_,_,_,rfl,rfl,rfl,.inl ⟨hO1,rfl⟩,.inl ⟨rfl,rfl⟩⟩
 ·obtain⟨rfl,h8,h6,h7,⟨⟨f3,v3,h3⟩,f4,v4,h4⟩,H⟩:=hk
  obtain⟨r,hqr⟩:∃r:Nat,r=7:=⟨_,rfl⟩
  replace h8:t 8=.ptr r 0 0:=by rw[hqr];exact h8
  replace H:StS s d hr own fuel x G L O r 7 h:=by rw[hqr];exact H
  obtain⟨hr6,hG',hL',hWl,hAl,hFl,w,w1,w2,ov,rv,iw,ia,jf,w4,w6,w7,hR,hg,h6b,hov,hrv,hw,hw6,ha,ha6,hf,hf6,d01,d02,d12⟩:=H
  clear hqr
  have hsr:aU r 7 r=1000:=by unfold aU;rw[if_neg (by omega)];omega
  have l1:=Eb hR
  have y1:=eq_true l1
  have y2:=eq_true (Eb h3)
  have y3:=eq_true (Eb h4)
  have z1:(r=3)=False:=eq_false (by omega)
  have z2:(r=4)=False:=eq_false (by omega)
  have z3:∀k,6<k→(3=k)=False:=fun k hk=>eq_false (by omega)
  have z4:∀k,6<k→(4=k)=False:=fun k hk=>eq_false (by omega)
  have zr:=z3 r hr6
  have zr':=z4 r hr6
  have zw:=z3 iw hw6
  have zw':=z4 iw hw6
  have za:=z3 ia ha6
  have za':=z4 ia ha6
  have zf:=z3 jf hf6
  have zf':=z4 jf hf6
  rcases hov with⟨hO2,rfl⟩|⟨io,w3,rfl,hio,hio6⟩<;>rcases hrv with⟨hR2,rfl⟩|⟨iq,w5,hRn,rfl,hiq,hiq6,hqx⟩
  ·have n_0_1:(r=5)=False:=eq_false (by omega)
   have n_0_2:(r=6)=False:=eq_false (by omega)
   have n_0_3:(r=iw)=False:=eq_false fun e=>by subst e;rw[hR]at hw;simp at hw
   have qn_0_3:r≠iw:=of_eq_false n_0_3
   have n_0_4:(r=ia)=False:=eq_false fun e=>by subst e;rw[hR]at ha;simp at ha
   have qn_0_4:r≠ia:=of_eq_false n_0_4
   have n_0_5:(r=jf)=False:=eq_false fun e=>by subst e;rw[hR]at hf;simp at hf
   have qn_0_5:r≠jf:=of_eq_false n_0_5
   have n_1_3:(5=iw)=False:=eq_false (by omega)
   have n_1_4:(5=ia)=False:=eq_false (by omega)
   have n_1_5:(5=jf)=False:=eq_false (by omega)
   have n_2_3:(6=iw)=False:=eq_false (by omega)
   have n_2_4:(6=ia)=False:=eq_false (by omega)
   have n_2_5:(6=jf)=False:=eq_false (by omega)
   have n_3_4:(iw=ia)=False:=eq_false d01
   have qn_3_4:iw≠ia:=of_eq_false n_3_4
   have n_3_5:(iw=jf)=False:=eq_false d02
   have qn_3_5:iw≠jf:=of_eq_false n_3_5
   have n_4_5:(ia=jf)=False:=eq_false d12
   have qn_4_5:ia≠jf:=of_eq_false n_4_5
   (have hb:=trivial;with_reducible repeat' (first|simp only[hb,Vc.down,seval,aZ.down,h8,h6,h7,h3,h4,acR,acV,hR,hg,h6b,hw,ha,hf,n_0_1,n_0_2,n_0_3,n_0_4,n_0_5,n_1_3,n_1_4,n_1_5,n_2_3,n_2_4,n_2_5,n_3_4,n_3_5,n_4_5,y1,y2,y3,z1,z2,zr,zr',zw,zw',za,za',zf,zf']|refine Ai ?_ ?_<;>intro hb|((refine Hg (r) 7 ?_ ?_);(simp (discharger:=decide) only[Gz,Et,acQ,acI,Dv,He,Hj,Hf,Hi,Du,Es,Ew,aa9,adG,hsr];kernel_rfl);intro _)|refine lU ?_|fail))
   exact⟨w1,w2,w4,w6,w7,false,false,.inl ⟨hO2,hR2,rfl,rfl⟩⟩
  ·have n_0_1:(r=5)=False:=eq_false (by omega)
   have n_0_2:(r=6)=False:=eq_false (by omega)
   have n_0_3:(r=iw)=False:=eq_false fun e=>by subst e;rw[hR]at hw;simp at hw
   have qn_0_3:r≠iw:=of_eq_false n_0_3
   have n_0_4:(r=ia)=False:=eq_false fun e=>by subst e;rw[hR]at ha;simp at ha
   have qn_0_4:r≠ia:=of_eq_false n_0_4
   have n_0_5:(r=jf)=False:=eq_false fun e=>by subst e;rw[hR]at hf;simp at hf
   have qn_0_5:r≠jf:=of_eq_false n_0_5
   have n_0_6:(r=iq)=False:=eq_false fun e=>by subst e;rw[hR]at hiq;simp at hiq
   have qn_0_6:r≠iq:=of_eq_false n_0_6
   have n_1_3:(5=iw)=False:=eq_false (by omega)
   have n_1_4:(5=ia)=False:=eq_false (by omega)
   have n_1_5:(5=jf)=False:=eq_false (by omega)
   have n_1_6:(5=iq)=False:=eq_false (by omega)
   have n_2_3:(6=iw)=False:=eq_false (by omega)
   have n_2_4:(6=ia)=False:=eq_false (by omega)
   have n_2_5:(6=jf)=False:=eq_false (by omega)
   have n_2_6:(6=iq)=False:=eq_false (by omega)
   have n_3_4:(iw=ia)=False:=eq_false d01
   have qn_3_4:iw≠ia:=of_eq_false n_3_4
   have n_3_5:(iw=jf)=False:=eq_false d02
   have qn_3_5:iw≠jf:=of_eq_false n_3_5
   have n_3_6:(iw=iq)=False:=eq_false fun e=>by subst e;simp at hqx
   have qn_3_6:iw≠iq:=of_eq_false n_3_6
   have n_4_5:(ia=jf)=False:=eq_false d12
   have qn_4_5:ia≠jf:=of_eq_false n_4_5
   have n_4_6:(ia=iq)=False:=eq_false fun e=>by subst e;simp at hqx
   have qn_4_6:ia≠iq:=of_eq_false n_4_6
   have n_5_6:(jf=iq)=False:=eq_false fun e=>by subst e;simp at hqx
   have qn_5_6:jf≠iq:=of_eq_false n_5_6
   have l5:=Eb hiq
   have zq:=z3 iq hiq6
   have zq':=z4 iq hiq6
   (have hb:=trivial;with_reducible repeat' (first|simp only[hb,Vc.down,seval,aZ.down,h8,h6,h7,h3,h4,acR,acV,hR,hg,h6b,hw,ha,hf,hiq,n_0_1,n_0_2,n_0_3,n_0_4,n_0_5,n_0_6,n_1_3,n_1_4,n_1_5,n_1_6,n_2_3,n_2_4,n_2_5,n_2_6,n_3_4,n_3_5,n_3_6,n_4_5,n_4_6,n_5_6,y1,y2,y3,z1,z2,zr,zr',zw,zw',za,za',zf,zf',zq,zq']|refine Ai ?_ ?_<;>intro hb|((refine Hg (r) 7 ?_ ?_);(simp (discharger:=decide) only[Gz,Et,acQ,acI,Dv,He,Hj,Hf,Hi,Du,Es,Ew,aa9,adG,hsr];kernel_rfl);intro _)|refine lU ?_|fail))
   exact⟨w1,w2,w4,w6,w7,false,w5,.inr (.inr (.inl ⟨hO2,hRn,rfl,rfl⟩))⟩
  ·have n_0_1:(r=5)=False:=eq_false (by omega)
   have n_0_2:(r=6)=False:=eq_false (by omega)
   have n_0_3:(r=io)=False:=eq_false fun e=>by subst e;rw[hR]at hio;simp at hio
   have qn_0_3:r≠io:=of_eq_false n_0_3
   have n_0_4:(r=iw)=False:=eq_false fun e=>by subst e;rw[hR]at hw;simp at hw
   have qn_0_4:r≠iw:=of_eq_false n_0_4
   have n_0_5:(r=ia)=False:=eq_false fun e=>by subst e;rw[hR]at ha;simp at ha
   have qn_0_5:r≠ia:=of_eq_false n_0_5
   have n_0_6:(r=jf)=False:=eq_false fun e=>by subst e;rw[hR]at hf;simp at hf
   have qn_0_6:r≠jf:=of_eq_false n_0_6
   have n_1_3:(5=io)=False:=eq_false (by omega)
   have n_1_4:(5=iw)=False:=eq_false (by omega)
   have n_1_5:(5=ia)=False:=eq_false (by omega)
   have n_1_6:(5=jf)=False:=eq_false (by omega)
   have n_2_3:(6=io)=False:=eq_false (by omega)
   have n_2_4:(6=iw)=False:=eq_false (by omega)
   have n_2_5:(6=ia)=False:=eq_false (by omega)
   have n_2_6:(6=jf)=False:=eq_false (by omega)
   have n_3_4:(io=iw)=False:=eq_false fun e=>by subst e;rw[hio]at hw;simp at hw
   have qn_3_4:io≠iw:=of_eq_false n_3_4
   have n_3_5:(io=ia)=False:=eq_false fun e=>by subst e;rw[hio]at ha;simp at ha
   have qn_3_5:io≠ia:=of_eq_false n_3_5
   have n_3_6:(io=jf)=False:=eq_false fun e=>by subst e;rw[hio]at hf;simp at hf
   have qn_3_6:io≠jf:=of_eq_false n_3_6
   have n_4_5:(iw=ia)=False:=eq_false d01
   have qn_4_5:iw≠ia:=of_eq_false n_4_5
   have n_4_6:(iw=jf)=False:=eq_false d02
   have qn_4_6:iw≠jf:=of_eq_false n_4_6
   have n_5_6:(ia=jf)=False:=eq_false d12
   have qn_5_6:ia≠jf:=of_eq_false n_5_6
   have l4:=Eb hio
   have zo:=z3 io hio6
   have zo':=z4 io hio6
   (have hb:=trivial;with_reducible repeat' (first|simp only[hb,Vc.down,seval,aZ.down,h8,h6,h7,h3,h4,acR,acV,hR,hg,h6b,hio,hw,ha,hf,n_0_1,n_0_2,n_0_3,n_0_4,n_0_5,n_0_6,n_1_3,n_1_4,n_1_5,n_1_6,n_2_3,n_2_4,n_2_5,n_2_6,n_3_4,n_3_5,n_3_6,n_4_5,n_4_6,n_5_6,y1,y2,y3,z1,z2,zr,zr',zw,zw',za,za',zf,zf',zo,zo']|refine Ai ?_ ?_<;>intro hb|((refine Hg (r) 7 ?_ ?_);(simp (discharger:=decide) only[Gz,Et,acQ,acI,Dv,He,Hj,Hf,Hi,Du,Es,Ew,aa9,adG,hsr];kernel_rfl);intro _)|refine lU ?_|fail))
   exact⟨w1,w2,w4,w6,w7,w3,false,.inr (.inl ⟨hR2,rfl,rfl⟩)⟩
  ·have n_0_1:(r=5)=False:=eq_false (by omega)
   have n_0_2:(r=6)=False:=eq_false (by omega)
   have n_0_3:(r=io)=False:=eq_false fun e=>by subst e;rw[hR]at hio;simp at hio
   have qn_0_3:r≠io:=of_eq_false n_0_3
   have n_0_4:(r=iw)=False:=eq_false fun e=>by subst e;rw[hR]at hw;simp at hw
   have qn_0_4:r≠iw:=of_eq_false n_0_4
   have n_0_5:(r=ia)=False:=eq_false fun e=>by subst e;rw[hR]at ha;simp at ha
   have qn_0_5:r≠ia:=of_eq_false n_0_5
   have n_0_6:(r=jf)=False:=eq_false fun e=>by subst e;rw[hR]at hf;simp at hf
   have qn_0_6:r≠jf:=of_eq_false n_0_6
   have n_0_7:(r=iq)=False:=eq_false fun e=>by subst e;rw[hR]at hiq;simp at hiq
   have qn_0_7:r≠iq:=of_eq_false n_0_7
   have n_1_3:(5=io)=False:=eq_false (by omega)
   have n_1_4:(5=iw)=False:=eq_false (by omega)
   have n_1_5:(5=ia)=False:=eq_false (by omega)
   have n_1_6:(5=jf)=False:=eq_false (by omega)
   have n_1_7:(5=iq)=False:=eq_false (by omega)
   have n_2_3:(6=io)=False:=eq_false (by omega)
   have n_2_4:(6=iw)=False:=eq_false (by omega)
   have n_2_5:(6=ia)=False:=eq_false (by omega)
   have n_2_6:(6=jf)=False:=eq_false (by omega)
   have n_2_7:(6=iq)=False:=eq_false (by omega)
   have n_3_4:(io=iw)=False:=eq_false fun e=>by subst e;rw[hio]at hw;simp at hw
   have qn_3_4:io≠iw:=of_eq_false n_3_4
   have n_3_5:(io=ia)=False:=eq_false fun e=>by subst e;rw[hio]at ha;simp at ha
   have qn_3_5:io≠ia:=of_eq_false n_3_5
   have n_3_6:(io=jf)=False:=eq_false fun e=>by subst e;rw[hio]at hf;simp at hf
   have qn_3_6:io≠jf:=of_eq_false n_3_6
   have n_3_7:(io=iq)=False:=eq_false fun e=>by subst e;rw[hio]at hiq;simp at hiq
   have qn_3_7:io≠iq:=of_eq_false n_3_7
   have n_4_5:(iw=ia)=False:=eq_false d01
   have qn_4_5:iw≠ia:=of_eq_false n_4_5
   have n_4_6:(iw=jf)=False:=eq_false d02
   have qn_4_6:iw≠jf:=of_eq_false n_4_6
   have n_4_7:(iw=iq)=False:=eq_false fun e=>by subst e;simp at hqx
   have qn_4_7:iw≠iq:=of_eq_false n_4_7
   have n_5_6:(ia=jf)=False:=eq_false d12
   have qn_5_6:ia≠jf:=of_eq_false n_5_6
   have n_5_7:(ia=iq)=False:=eq_false fun e=>by subst e;simp at hqx
   have qn_5_7:ia≠iq:=of_eq_false n_5_7
   have n_6_7:(jf=iq)=False:=eq_false fun e=>by subst e;simp at hqx
   have qn_6_7:jf≠iq:=of_eq_false n_6_7
   have l4:=Eb hio
   have l5:=Eb hiq
   have zo:=z3 io hio6
   have zo':=z4 io hio6
   have zq:=z3 iq hiq6
   have zq':=z4 iq hiq6
   (have hb:=trivial;with_reducible repeat' (first|simp only[hb,Vc.down,seval,aZ.down,h8,h6,h7,h3,h4,acR,acV,hR,hg,h6b,hio,hw,ha,hf,hiq,n_0_1,n_0_2,n_0_3,n_0_4,n_0_5,n_0_6,n_0_7,n_1_3,n_1_4,n_1_5,n_1_6,n_1_7,n_2_3,n_2_4,n_2_5,n_2_6,n_2_7,n_3_4,n_3_5,n_3_6,n_3_7,n_4_5,n_4_6,n_4_7,n_5_6,n_5_7,n_6_7,y1,y2,y3,z1,z2,zr,zr',zw,zw',za,za',zf,zf',zo,zo',zq,zq']|refine Ai ?_ ?_<;>intro hb|((refine Hg (r) 7 ?_ ?_);(simp (discharger:=decide) only[Gz,Et,acQ,acI,Dv,He,Hj,Hf,Hi,Du,Es,Ew,aa9,adG,hsr];kernel_rfl);intro _)|refine lU ?_|fail))
   exact⟨w1,w2,w4,w6,w7,w3,w5,.inr (.inr (.inr ⟨hRn,rfl,rfl⟩))⟩
theorem anF{s:Ac}{d:An}{hr own fuel:Int}{x:Au}{G L:List Int}{O:List Ab}{nG nL nO:Bool}(K:eT s d hr x O)(hG:G.length=s.cons.length)(hL:L.length=s.cons.length)(hO:¬(O=[]∧nO=false)):
 Vg Bl 64 [.agg s.cells,.agg [.int .i64 hr,Az 1 true nG (G.map iv),.int .i64 own,.int .i64 fuel,Az 1 true nL (L.map iv),Az 5 true nO (O.map Ab.cells)],.agg d.cells] []
  (zB s.cons.length (IntKind.i64.wrap (hr+1)) (Xp s d hr x G L O own) (G6 s d hr x G L O fuel).2 (G6 s d hr x G L O fuel).1 (L7 s d hr x G L O) (T2 s d hr G L O).2.1 (T2 s d hr G L O).2.2 (W3 s d hr G L O) (A4 s d hr x G L O) (F5 s d hr x G L O)):=by
 have hlen:=K.len
 have hp:0<s.cons.length:=adQ.2 K.ne
 have hGn:G≠[]:=fun e=>by rw[e]at hG;simp at hG;omega
 have hLn:L≠[]:=fun e=>by rw[e]at hL;simp at hL;omega
 skip
 have hc1:=Rl (l:=G) (by omega) hGn
 have hc2:=Rl (l:=L) (by omega) hLn
 have hct:=nC (l:=O) (nn:=nO) K.owed hO
 have hb7:=mV 8
 simp only[qL,vA,acQ,acI]at hb7
 rw[hG]at hc1
 rw[hL]at hc2
 rw[jF (n:=1) (fl:=true) (nn:=nG) (eQ hGn),jF (n:=1) (fl:=true) (nn:=nL) (eQ hLn)]
 refine Nj rfl Tryz.func64 rfl rfl ?_
 simp only[Tryz.f64]
 (have hb:=trivial;with_reducible repeat' (first|simp only[hb,Vc.down,seval,aZ.down,hc1,hc2,hct,hct,An.cells,hb7,acI]|refine Ai ?_ ?_<;>intro hb|refine fd ?_|fail))
 refine Dm (Sj 66 vA (fun i (_:Unit) t h=>t 8=.ptr 8 0 0∧t 6=.ptr 3 0 0∧t 7=.ptr 4 0 0∧t 42=.agg (vA.map (qL 8))∧t 43=.int .i64 i∧al0 h∧StS s d hr own fuel x G L O 8 i h) (fun _ _=>()) (fun _ e t h=>e=.exit 0∧t 8=.ptr 8 0 0∧t 6=.ptr 3 0 0∧t 7=.ptr 4 0 0∧al0 h∧StS s d hr own fuel x G L O 8 7 h) ?_ ?_ () _ _ ?_) (fun e t h hk=>?_)
 ·rintro _ t h Q' kQ ⟨h8,h6,h7,h42,h43,hF,hS⟩
  rw[show vA.length=7 from rfl]at h43 hS
  have h77:decide (((7:Nat):Int)<7)=false:=by decide
  (have hb:=trivial;with_reducible repeat' (first|simp only[hb,Vc.down,seval,aZ.down,h43,h77]|refine Ai ?_ ?_<;>intro hb|refine fd ?_|fail))
  exact kQ _ _ _ ⟨rfl,by simp[up,h8],by simp[up,h6],by simp[up,h7],hF,hS⟩
 ·rintro f rest i _ t h J Q' kJ kQ hx hi ⟨h8,h6,h7,h42,h43,hF,hS⟩
  have hi7:i<7:=hi
  have hd:decide ((i:Int)<7)=true:=decide_eq_true (by omega)
  have hw:IntKind.i64.wrap ((i:Int)+1)=((i+1:Nat):Int):=Ak (n:=7) hi7 (by unfold maxLen;omega)
  obtain⟨es,e,hB,hS'⟩:=ah1 K hx hS
  have hii:((i:Int)<7)=True:=eq_true (by omega)
  (have hb:=trivial;with_reducible repeat' (first|simp only[hb,Vc.down,seval,aZ.down,h42,h43,hd,hw,arM,hii,Nat.mul_one,hx,e]|refine Ai ?_ ?_<;>intro hb|refine fd ?_|fail))
  refine Aq (kJ _ _ () ⟨?_,?_,?_,?_,?_,?_,hS'⟩ rfl)
  ·simp[up,h8]
  ·simp[up,h6]
  ·simp[up,h7]
  ·simp[up,h42,qL]
  ·simp[up]
  ·exact⟨by obtain⟨⟨fl,w,hw1⟩,_⟩:=hF;exact⟨fl,w,by rw[hB 3 (by omega)];exact hw1⟩,by obtain⟨_,fl,w,hw1⟩:=hF;exact⟨fl,w,by rw[hB 4 (by omega)];exact hw1⟩⟩
 ·refine⟨by simp[up],by simp[up],by simp[up],by simp[up,vA,qL],by simp[up],⟨⟨_,_,rfl⟩,⟨_,_,rfl⟩⟩,?_⟩
  exact⟨by omega,hG,hL,_,_,_,_,_,rfl,rfl,rfl,.inr ⟨7,false,rfl,rfl,by omega⟩,.inl ⟨rfl,rfl⟩⟩
 ·obtain⟨rfl,h8,h6,h7,⟨⟨f3,v3,h3⟩,f4,v4,h4⟩,H⟩:=hk
  obtain⟨r,hqr⟩:∃r:Nat,r=8:=⟨_,rfl⟩
  replace h8:t 8=.ptr r 0 0:=by rw[hqr];exact h8
  replace H:StS s d hr own fuel x G L O r 7 h:=by rw[hqr];exact H
  obtain⟨hr6,hG',hL',hWl,hAl,hFl,w,w1,w2,ov,rv,iw,ia,jf,w4,w6,w7,hR,hg,h6b,hov,hrv,hw,hw6,ha,ha6,hf,hf6,d01,d02,d12⟩:=H
  clear hqr
  have hsr:aU r 7 r=1000:=by unfold aU;rw[if_neg (by omega)];omega
  have l1:=Eb hR
  have y1:=eq_true l1
  have y2:=eq_true (Eb h3)
  have y3:=eq_true (Eb h4)
  have z1:(r=3)=False:=eq_false (by omega)
  have z2:(r=4)=False:=eq_false (by omega)
  have z3:∀k,6<k→(3=k)=False:=fun k hk=>eq_false (by omega)
  have z4:∀k,6<k→(4=k)=False:=fun k hk=>eq_false (by omega)
  have zr:=z3 r hr6
  have zr':=z4 r hr6
  have zw:=z3 iw hw6
  have zw':=z4 iw hw6
  have za:=z3 ia ha6
  have za':=z4 ia ha6
  have zf:=z3 jf hf6
  have zf':=z4 jf hf6
  rcases hov with⟨hO2,rfl⟩|⟨io,w3,rfl,hio,hio6⟩<;>rcases hrv with⟨hR2,rfl⟩|⟨iq,w5,hRn,rfl,hiq,hiq6,hqx⟩
  ·have n_0_1:(r=5)=False:=eq_false (by omega)
   have n_0_2:(r=6)=False:=eq_false (by omega)
   have n_0_3:(r=iw)=False:=eq_false fun e=>by subst e;rw[hR]at hw;simp at hw
   have qn_0_3:r≠iw:=of_eq_false n_0_3
   have n_0_4:(r=ia)=False:=eq_false fun e=>by subst e;rw[hR]at ha;simp at ha
   have qn_0_4:r≠ia:=of_eq_false n_0_4
   have n_0_5:(r=jf)=False:=eq_false fun e=>by subst e;rw[hR]at hf;simp at hf
   have qn_0_5:r≠jf:=of_eq_false n_0_5
   have n_1_3:(5=iw)=False:=eq_false (by omega)
   have n_1_4:(5=ia)=False:=eq_false (by omega)
   have n_1_5:(5=jf)=False:=eq_false (by omega)
   have n_2_3:(6=iw)=False:=eq_false (by omega)
   have n_2_4:(6=ia)=False:=eq_false (by omega)
   have n_2_5:(6=jf)=False:=eq_false (by omega)
   have n_3_4:(iw=ia)=False:=eq_false d01
   have qn_3_4:iw≠ia:=of_eq_false n_3_4
   have n_3_5:(iw=jf)=False:=eq_false d02
   have qn_3_5:iw≠jf:=of_eq_false n_3_5
   have n_4_5:(ia=jf)=False:=eq_false d12
   have qn_4_5:ia≠jf:=of_eq_false n_4_5
   (have hb:=trivial;with_reducible repeat' (first|simp only[hb,Vc.down,seval,aZ.down,h8,h6,h7,h3,h4,acR,acV,hR,hg,h6b,hw,ha,hf,n_0_1,n_0_2,n_0_3,n_0_4,n_0_5,n_1_3,n_1_4,n_1_5,n_2_3,n_2_4,n_2_5,n_3_4,n_3_5,n_4_5,y1,y2,y3,z1,z2,zr,zr',zw,zw',za,za',zf,zf']|refine Ai ?_ ?_<;>intro hb|((refine Hg (r) 7 ?_ ?_);(simp (discharger:=decide) only[Gz,Et,acQ,acI,Dv,He,Hj,Hf,Hi,Du,Es,Ew,aa9,adG,hsr];kernel_rfl);intro _)|refine lU ?_|fail))
   exact⟨w1,w2,w4,w6,w7,false,false,.inl ⟨hO2,hR2,rfl,rfl⟩⟩
  ·have n_0_1:(r=5)=False:=eq_false (by omega)
   have n_0_2:(r=6)=False:=eq_false (by omega)
   have n_0_3:(r=iw)=False:=eq_false fun e=>by subst e;rw[hR]at hw;simp at hw
   have qn_0_3:r≠iw:=of_eq_false n_0_3
   have n_0_4:(r=ia)=False:=eq_false fun e=>by subst e;rw[hR]at ha;simp at ha
   have qn_0_4:r≠ia:=of_eq_false n_0_4
   have n_0_5:(r=jf)=False:=eq_false fun e=>by subst e;rw[hR]at hf;simp at hf
   have qn_0_5:r≠jf:=of_eq_false n_0_5
   have n_0_6:(r=iq)=False:=eq_false fun e=>by subst e;rw[hR]at hiq;simp at hiq
   have qn_0_6:r≠iq:=of_eq_false n_0_6
   have n_1_3:(5=iw)=False:=eq_false (by omega)
   have n_1_4:(5=ia)=False:=eq_false (by omega)
   have n_1_5:(5=jf)=False:=eq_false (by omega)
   have n_1_6:(5=iq)=False:=eq_false (by omega)
   have n_2_3:(6=iw)=False:=eq_false (by omega)
   have n_2_4:(6=ia)=False:=eq_false (by omega)
   have n_2_5:(6=jf)=False:=eq_false (by omega)
   have n_2_6:(6=iq)=False:=eq_false (by omega)
   have n_3_4:(iw=ia)=False:=eq_false d01
   have qn_3_4:iw≠ia:=of_eq_false n_3_4
   have n_3_5:(iw=jf)=False:=eq_false d02
   have qn_3_5:iw≠jf:=of_eq_false n_3_5
   have n_3_6:(iw=iq)=False:=eq_false fun e=>by subst e;simp at hqx
   have qn_3_6:iw≠iq:=of_eq_false n_3_6
   have n_4_5:(ia=jf)=False:=eq_false d12
   have qn_4_5:ia≠jf:=of_eq_false n_4_5
   have n_4_6:(ia=iq)=False:=eq_false fun e=>by subst e;simp at hqx
   have qn_4_6:ia≠iq:=of_eq_false n_4_6
   have n_5_6:(jf=iq)=False:=eq_false fun e=>by subst e;simp at hqx
   have qn_5_6:jf≠iq:=of_eq_false n_5_6
   have l5:=Eb hiq
   have zq:=z3 iq hiq6
   have zq':=z4 iq hiq6
   (have hb:=trivial;with_reducible repeat' (first|simp only[hb,Vc.down,seval,aZ.down,h8,h6,h7,h3,h4,acR,acV,hR,hg,h6b,hw,ha,hf,hiq,n_0_1,n_0_2,n_0_3,n_0_4,n_0_5,n_0_6,n_1_3,n_1_4,n_1_5,n_1_6,n_2_3,n_2_4,n_2_5,n_2_6,n_3_4,n_3_5,n_3_6,n_4_5,n_4_6,n_5_6,y1,y2,y3,z1,z2,zr,zr',zw,zw',za,za',zf,zf',zq,zq']|refine Ai ?_ ?_<;>intro hb|((refine Hg (r) 7 ?_ ?_);(simp (discharger:=decide) only[Gz,Et,acQ,acI,Dv,He,Hj,Hf,Hi,Du,Es,Ew,aa9,adG,hsr];kernel_rfl);intro _)|refine lU ?_|fail))
   exact⟨w1,w2,w4,w6,w7,false,w5,.inr (.inr (.inl ⟨hO2,hRn,rfl,rfl⟩))⟩
  ·have n_0_1:(r=5)=False:=eq_false (by omega)
   have n_0_2:(r=6)=False:=eq_false (by omega)
   have n_0_3:(r=io)=False:=eq_false fun e=>by subst e;rw[hR]at hio;simp at hio
   have qn_0_3:r≠io:=of_eq_false n_0_3
   have n_0_4:(r=iw)=False:=eq_false fun e=>by subst e;rw[hR]at hw;simp at hw
   have qn_0_4:r≠iw:=of_eq_false n_0_4
   have n_0_5:(r=ia)=False:=eq_false fun e=>by subst e;rw[hR]at ha;simp at ha
   have qn_0_5:r≠ia:=of_eq_false n_0_5
   have n_0_6:(r=jf)=False:=eq_false fun e=>by subst e;rw[hR]at hf;simp at hf
   have qn_0_6:r≠jf:=of_eq_false n_0_6
   have n_1_3:(5=io)=False:=eq_false (by omega)
   have n_1_4:(5=iw)=False:=eq_false (by omega)
   have n_1_5:(5=ia)=False:=eq_false (by omega)
   have n_1_6:(5=jf)=False:=eq_false (by omega)
   have n_2_3:(6=io)=False:=eq_false (by omega)
   have n_2_4:(6=iw)=False:=eq_false (by omega)
   have n_2_5:(6=ia)=False:=eq_false (by omega)
   have n_2_6:(6=jf)=False:=eq_false (by omega)
   have n_3_4:(io=iw)=False:=eq_false fun e=>by subst e;rw[hio]at hw;simp at hw
   have qn_3_4:io≠iw:=of_eq_false n_3_4
   have n_3_5:(io=ia)=False:=eq_false fun e=>by subst e;rw[hio]at ha;simp at ha
   have qn_3_5:io≠ia:=of_eq_false n_3_5
   have n_3_6:(io=jf)=False:=eq_false fun e=>by subst e;rw[hio]at hf;simp at hf
   have qn_3_6:io≠jf:=of_eq_false n_3_6
   have n_4_5:(iw=ia)=False:=eq_false d01
   have qn_4_5:iw≠ia:=of_eq_false n_4_5
   have n_4_6:(iw=jf)=False:=eq_false d02
   have qn_4_6:iw≠jf:=of_eq_false n_4_6
   have n_5_6:(ia=jf)=False:=eq_false d12
   have qn_5_6:ia≠jf:=of_eq_false n_5_6
   have l4:=Eb hio
   have zo:=z3 io hio6
   have zo':=z4 io hio6
   (have hb:=trivial;with_reducible repeat' (first|simp only[hb,Vc.down,seval,aZ.down,h8,h6,h7,h3,h4,acR,acV,hR,hg,h6b,hio,hw,ha,hf,n_0_1,n_0_2,n_0_3,n_0_4,n_0_5,n_0_6,n_1_3,n_1_4,n_1_5,n_1_6,n_2_3,n_2_4,n_2_5,n_2_6,n_3_4,n_3_5,n_3_6,n_4_5,n_4_6,n_5_6,y1,y2,y3,z1,z2,zr,zr',zw,zw',za,za',zf,zf',zo,zo']|refine Ai ?_ ?_<;>intro hb|((refine Hg (r) 7 ?_ ?_);(simp (discharger:=decide) only[Gz,Et,acQ,acI,Dv,He,Hj,Hf,Hi,Du,Es,Ew,aa9,adG,hsr];kernel_rfl);intro _)|refine lU ?_|fail))
   exact⟨w1,w2,w4,w6,w7,w3,false,.inr (.inl ⟨hR2,rfl,rfl⟩)⟩
  ·have n_0_1:(r=5)=False:=eq_false (by omega)
   have n_0_2:(r=6)=False:=eq_false (by omega)
   have n_0_3:(r=io)=False:=eq_false fun e=>by subst e;rw[hR]at hio;simp at hio
   have qn_0_3:r≠io:=of_eq_false n_0_3
   have n_0_4:(r=iw)=False:=eq_false fun e=>by subst e;rw[hR]at hw;simp at hw
   have qn_0_4:r≠iw:=of_eq_false n_0_4
   have n_0_5:(r=ia)=False:=eq_false fun e=>by subst e;rw[hR]at ha;simp at ha
   have qn_0_5:r≠ia:=of_eq_false n_0_5
   have n_0_6:(r=jf)=False:=eq_false fun e=>by subst e;rw[hR]at hf;simp at hf
   have qn_0_6:r≠jf:=of_eq_false n_0_6
   have n_0_7:(r=iq)=False:=eq_false fun e=>by subst e;rw[hR]at hiq;simp at hiq
   have qn_0_7:r≠iq:=of_eq_false n_0_7
   have n_1_3:(5=io)=False:=eq_false (by omega)
   have n_1_4:(5=iw)=False:=eq_false (by omega)
   have n_1_5:(5=ia)=False:=eq_false (by omega)
   have n_1_6:(5=jf)=False:=eq_false (by omega)
   have n_1_7:(5=iq)=False:=eq_false (by omega)
   have n_2_3:(6=io)=False:=eq_false (by omega)
   have n_2_4:(6=iw)=False:=eq_false (by omega)
   have n_2_5:(6=ia)=False:=eq_false (by omega)
   have n_2_6:(6=jf)=False:=eq_false (by omega)
   have n_2_7:(6=iq)=False:=eq_false (by omega)
   have n_3_4:(io=iw)=False:=eq_false fun e=>by subst e;rw[hio]at hw;simp at hw
   have qn_3_4:io≠iw:=of_eq_false n_3_4
   have n_3_5:(io=ia)=False:=eq_false fun e=>by subst e;rw[hio]at ha;simp at ha
   have qn_3_5:io≠ia:=of_eq_false n_3_5
   have n_3_6:(io=jf)=False:=eq_false fun e=>by subst e;rw[hio]at hf;simp at hf
   have qn_3_6:io≠jf:=of_eq_false n_3_6
   have n_3_7:(io=iq)=False:=eq_false fun e=>by subst e;rw[hio]at hiq;simp at hiq
   have qn_3_7:io≠iq:=of_eq_false n_3_7
   have n_4_5:(iw=ia)=False:=eq_false d01
   have qn_4_5:iw≠ia:=of_eq_false n_4_5
   have n_4_6:(iw=jf)=False:=eq_false d02
   have qn_4_6:iw≠jf:=of_eq_false n_4_6
   have n_4_7:(iw=iq)=False:=eq_false fun e=>by subst e;simp at hqx
   have qn_4_7:iw≠iq:=of_eq_false n_4_7
   have n_5_6:(ia=jf)=False:=eq_false d12
   have qn_5_6:ia≠jf:=of_eq_false n_5_6
   have n_5_7:(ia=iq)=False:=eq_false fun e=>by subst e;simp at hqx
   have qn_5_7:ia≠iq:=of_eq_false n_5_7
   have n_6_7:(jf=iq)=False:=eq_false fun e=>by subst e;simp at hqx
   have qn_6_7:jf≠iq:=of_eq_false n_6_7
   have l4:=Eb hio
   have l5:=Eb hiq
   have zo:=z3 io hio6
   have zo':=z4 io hio6
   have zq:=z3 iq hiq6
   have zq':=z4 iq hiq6
   (have hb:=trivial;with_reducible repeat' (first|simp only[hb,Vc.down,seval,aZ.down,h8,h6,h7,h3,h4,acR,acV,hR,hg,h6b,hio,hw,ha,hf,hiq,n_0_1,n_0_2,n_0_3,n_0_4,n_0_5,n_0_6,n_0_7,n_1_3,n_1_4,n_1_5,n_1_6,n_1_7,n_2_3,n_2_4,n_2_5,n_2_6,n_2_7,n_3_4,n_3_5,n_3_6,n_3_7,n_4_5,n_4_6,n_4_7,n_5_6,n_5_7,n_6_7,y1,y2,y3,z1,z2,zr,zr',zw,zw',za,za',zf,zf',zo,zo',zq,zq']|refine Ai ?_ ?_<;>intro hb|((refine Hg (r) 7 ?_ ?_);(simp (discharger:=decide) only[Gz,Et,acQ,acI,Dv,He,Hj,Hf,Hi,Du,Es,Ew,aa9,adG,hsr];kernel_rfl);intro _)|refine lU ?_|fail))
   exact⟨w1,w2,w4,w6,w7,w3,w5,.inr (.inr (.inr ⟨hRn,rfl,rfl⟩))⟩
def Kx(n:Int)(t:Ab):Bool:=Gp t.hour 0 47&&(t.back== -1||Gp t.back (IntKind.i64.wrap (t.hour+1)) 47)&&Gp t.frm 0 (IntKind.i64.wrap (n-1))&&Gp t.to 0 (IntKind.i64.wrap (n-1))&& !(t.frm==t.to)&&Gp t.amount 1 100000000
theorem alA(t:Ab)(n:Int):Bl.call (.fn 101) [.agg [.int .i64 t.hour,.int .i64 t.back,.int .i64 t.frm,.int .i64 t.to,.int .i64 t.amount],.int .i64 n] []=some (.ret (.bool (Kx n t)),[]):=by
 (refine ce Tryz.func101 ?_;simp only[Tryz.f101];(have hb:=trivial;with_reducible repeat' (first|simp only[hb,Vc.down,seval,at0.down,lY]|refine Ai ?_ ?_<;>intro hb|refine fd ?_|fail)))
 all_goals (refine congrArg (fun b=>(Ea.ret (AV.bool b),([]:Aa))) ?_;simp_all[Kx])
theorem xP(t:Ab)(n:Int):Bl.call (.fn 61) [.agg [.int .i64 t.hour,.int .i64 t.back,.int .i64 t.frm,.int .i64 t.to,.int .i64 t.amount],.int .i64 n] []=some (.ret (.bool (Kx n t)),[]):=by
 have key:Kx n t=(Gp t.hour 0 47&&(t.back== -1||(decide (t.hour<t.back)&&Gp t.back 0 47))&&Gp t.frm 0 (IntKind.i64.wrap (n-1))&&Gp t.to 0 (IntKind.i64.wrap (n-1))&& !(t.frm==t.to)&&Gp t.amount 1 100000000):=by
  unfold Kx
  cases h:Gp t.hour 0 47 with
  |false=>simp
  |true=>
   simp only[Gp,abQ,decide_eq_true_eq]at h
   have e:Gp t.back (IntKind.i64.wrap (t.hour+1)) 47=(decide (t.hour<t.back)&&Gp t.back 0 47):=by
    rw[Ag (by omega) (by omega)]
    simp only[Gp]
    rw[aeY]
    simp only[abQ,decide_eq_true_eq]
    omega
   rw[e]
 rw[key]
 (refine ce Tryz.func61 ?_;simp only[Tryz.f61];(have hb:=trivial;with_reducible repeat' (first|simp only[hb,Vc.down,seval,axZ.down,gX,wI]|refine Ai ?_ ?_<;>intro hb|refine fd ?_|fail)))
 all_goals (refine congrArg (fun b=>(Ea.ret (AV.bool b),([]:Aa))) ?_;clear key;simp_all)
def Vw(h:Au):Bool:=Gp h.inn 0 800000000&&Gp h.out 0 800000000&&Gp h.flowIn 0 800000000&&Gp h.flowOut 0 800000000
theorem aq1(h:Au):Bl.call (.fn 98) [.agg [.int .i64 h.inn,.int .i64 h.out,.int .i64 h.flowIn,.int .i64 h.flowOut]] []=some (.ret (.bool (!Vw h)),[]):=by
 have hg:=xO (l:=[h.inn,h.out,h.flowIn,h.flowOut]) (nn:=true) (by simp[maxLen])
 rw[Bh]at hg
 simp only[acQ,acI,iv,adN,List.all_nil,Bool.and_true]at hg
 (refine ce Tryz.func98 ?_;simp only[Tryz.f98];(have hb:=trivial;with_reducible repeat' (first|simp only[hb,Vc.down,seval,axL.down,hg]|refine Ai ?_ ?_<;>intro hb|refine fd ?_|fail)))
 all_goals simp[Vw,Bool.and_assoc]
theorem ap8(t:Ab)(n:Int):Bl.call (.fn 100) [.agg [.int .i64 t.hour,.int .i64 t.back,.int .i64 t.frm,.int .i64 t.to,.int .i64 t.amount],.ptr 0 0 0] [.live 1 true false [[.int .i64 n]]]=some (.ret (.bool (!Kx n t)),[.live 1 true false [[.int .i64 n]]]):=by
 (refine ce Tryz.func100 ?_;simp only[Tryz.f100];(have hb:=trivial;with_reducible repeat' (first|simp only[hb,Vc.down,seval,awL.down,alA]|refine Ai ?_ ?_<;>intro hb|refine fd ?_|fail)))
theorem ajE{l:List Au}{nn:Bool}{g:Nat}{cap:List AV}{p:Au→Bool}(hc:cap.all (Ba 8)=true)(hc7:cap.all (Ba 7)=true)(hp:∀x∈l,Bl.call (.fn g) (.agg [.int .i64 x.inn,.int .i64 x.out,.int .i64 x.flowIn,.int .i64 x.flowOut]::cap) []=some (.ret (.bool (p x)),[]))(hl:l.length≤maxLen):
 Bl.call (.fn 128) [Az 4 true nn (l.map Au.cells),.func (.func g) [] cap] []=some (.ret (.int .i64 (kG p l 0)),[]):=by
 (refine ce Tryz.func128 ?_;simp only[Tryz.f128];(have hb:=trivial;with_reducible repeat' (first|simp only[hb,Vc.down,seval,tN.down,acL]|refine Ai ?_ ?_<;>intro hb|refine fd ?_|fail)))
 refine Dm (Sj 19 l (fun i (s:Int) t h=>s=i∧h=[]∧t 0=Az 4 true nn (l.map Au.cells)∧t 1=.func (.func g) [] cap∧t 7=.int .i64 l.length∧t 8=.int .i64 i)
  (fun rest s=>kG p rest s) (fun r e t h=>h=[]∧((e=.exit 0∧r= -1)∨(e=.ret∧t 4=.int .i64 r))) ?_ ?_ 0 _ _ ?_) (fun e t h hk=>?_)
 ·rintro s t h Q' kQ ⟨rfl,rfl,h0,h1,h7,h8⟩
  (have hb:=trivial;with_reducible repeat' (first|simp only[hb,Vc.down,seval,tN.down,h0,h1,h7,h8,adJ,decide_false]|refine Ai ?_ ?_<;>intro hb|refine fd ?_|fail))
  exact kQ _ _ _ ⟨rfl,.inl ⟨rfl,rfl⟩⟩
 ·rintro x rest i s t h J Q' kJ kQ hx hi ⟨rfl,rfl,h0,h1,h7,h8⟩
  have hpx:=hp x (ae4 hx)
  have hd:decide ((i:Int)<(l.length:Int))=true:=by simpa using hi
  (have hb:=trivial;with_reducible repeat' (first|simp only[hb,Vc.down,seval,tN.down,h0,h1,h7,h8,hd,hx,Au.cells,hc,hc7,hpx,Ak hi hl]|refine Ai ?_ ?_<;>intro hb|refine fd ?_|fail))
  ·exact kQ _ _ _ ⟨rfl,.inr ⟨rfl,by simp[up,kG,hb]⟩⟩
  ·exact Aq (kJ _ _ (i+1) ⟨by simp,rfl,by simp[up,h0],by simp[up,h1],by simp[up,h7],by simp[up]⟩ (by simp[kG,hb]))
 ·exact⟨rfl,rfl,by simp[up,Dj],by simp[up,Dj],by simp[up],by simp[up]⟩
 ·obtain⟨rfl,⟨rfl,hi⟩|⟨rfl,hi⟩⟩:=hk
  ·(have hb:=trivial;with_reducible repeat' (first|simp only[hb,Vc.down,seval,tN.down]|refine Ai ?_ ?_<;>intro hb|refine fd ?_|fail))
   rw[hi]
  ·(have hb:=trivial;with_reducible repeat' (first|simp only[hb,Vc.down,seval,tN.down,hi]|refine Ai ?_ ?_<;>intro hb|refine fd ?_|fail))
theorem adE{l:List Au}{nn:Bool}{g:Nat}{cap:List AV}{p:Au→Bool}(hc:cap.all (Ba 8)=true)(hc7:cap.all (Ba 7)=true)(hp:∀x∈l,Bl.call (.fn g) (.agg [.int .i64 x.inn,.int .i64 x.out,.int .i64 x.flowIn,.int .i64 x.flowOut]::cap) []=some (.ret (.bool (p x)),[]))(hl:l.length≤maxLen):
 Bl.call (.fn 97) [Az 4 true nn (l.map Au.cells),.func (.func g) [] cap] []=some (.ret (.bool (l.any p)),[]):=by
 (refine ce Tryz.func97 ?_;simp only[Tryz.f97];(have hb:=trivial;with_reducible repeat' (first|simp only[hb,Vc.down,seval,ajE hc hc7 hp hl,hc,hc7,Zr p l 0 (adO 0)]|refine Ai ?_ ?_<;>intro hb|refine fd ?_|fail)))
theorem acT{l:List Ab}{nn:Bool}{g bs:Nat}{brows:List (List AV)}{p:Ab→Bool}(hp:∀x∈l,Bl.call (.fn g) (.agg [.int .i64 x.hour,.int .i64 x.back,.int .i64 x.frm,.int .i64 x.to,.int .i64 x.amount]::[.ptr 0 0 0]) [.live bs true false brows]=some (.ret (.bool (p x)),[.live bs true false brows]))(hl:l.length≤maxLen):
 Bl.call (.fn 129) [Az 5 true nn (l.map Ab.cells),.func (.func g) [] [.ptr 0 0 0]] [.live bs true false brows]=some (.ret (.int .i64 (kG p l 0)),[.live bs true false brows]):=by
 (refine ce Tryz.func129 ?_;simp only[Tryz.f129];(have hb:=trivial;with_reducible repeat' (first|simp only[hb,Vc.down,seval,rR.down,acL]|refine Ai ?_ ?_<;>intro hb|refine fd ?_|fail)))
 refine Dm (Sj 19 l (fun i (s:Int) t h=>s=i∧h=[.live bs true false brows]∧t 0=Az 5 true nn (l.map Ab.cells)∧t 1=.func (.func g) [] [.ptr 0 0 0]∧t 7=.int .i64 l.length∧t 8=.int .i64 i)
  (fun rest s=>kG p rest s) (fun r e t h=>h=[.live bs true false brows]∧((e=.exit 0∧r= -1)∨(e=.ret∧t 4=.int .i64 r))) ?_ ?_ 0 _ _ ?_) (fun e t h hk=>?_)
 ·rintro s t h Q' kQ ⟨rfl,rfl,h0,h1,h7,h8⟩
  (have hb:=trivial;with_reducible repeat' (first|simp only[hb,Vc.down,seval,rR.down,h0,h1,h7,h8,adJ,decide_false]|refine Ai ?_ ?_<;>intro hb|refine fd ?_|fail))
  exact kQ _ _ _ ⟨rfl,.inl ⟨rfl,rfl⟩⟩
 ·rintro x rest i s t h J Q' kJ kQ hx hi ⟨rfl,rfl,h0,h1,h7,h8⟩
  have hpx:=hp x (ae4 hx)
  have hd:decide ((i:Int)<(l.length:Int))=true:=by simpa using hi
  (have hb:=trivial;with_reducible repeat' (first|simp only[hb,Vc.down,seval,rR.down,h0,h1,h7,h8,hd,hx,Ab.cells,hpx,Ak hi hl]|refine Ai ?_ ?_<;>intro hb|refine fd ?_|fail))
  ·exact kQ _ _ _ ⟨rfl,.inr ⟨rfl,by simp[up,kG,hb]⟩⟩
  ·exact Aq (kJ _ _ (i+1) ⟨by simp,rfl,by simp[up,h0],by simp[up,h1],by simp[up,h7],by simp[up]⟩ (by simp[kG,hb]))
 ·exact⟨rfl,rfl,by simp[up,Dj],by simp[up,Dj],by simp[up],by simp[up]⟩
 ·obtain⟨rfl,⟨rfl,hi⟩|⟨rfl,hi⟩⟩:=hk
  ·(have hb:=trivial;with_reducible repeat' (first|simp only[hb,Vc.down,seval,rR.down]|refine Ai ?_ ?_<;>intro hb|refine fd ?_|fail))
   rw[hi]
  ·(have hb:=trivial;with_reducible repeat' (first|simp only[hb,Vc.down,seval,rR.down,hi]|refine Ai ?_ ?_<;>intro hb|refine fd ?_|fail))
theorem wP{l:List Ab}{nn:Bool}{g bs:Nat}{brows:List (List AV)}{p:Ab→Bool}(hp:∀x∈l,Bl.call (.fn g) (.agg [.int .i64 x.hour,.int .i64 x.back,.int .i64 x.frm,.int .i64 x.to,.int .i64 x.amount]::[.ptr 0 0 0]) [.live bs true false brows]=some (.ret (.bool (p x)),[.live bs true false brows]))(hl:l.length≤maxLen):
 Bl.call (.fn 99) [Az 5 true nn (l.map Ab.cells),.func (.func g) [] [.ptr 0 0 0]] [.live bs true false brows]=some (.ret (.bool (l.any p)),[.live bs true false brows]):=by
 (refine ce Tryz.func99 ?_;simp only[Tryz.f99];(have hb:=trivial;with_reducible repeat' (first|simp only[hb,Vc.down,seval,acT hp hl,Zr p l 0 (adO 0)]|refine Ai ?_ ?_<;>intro hb|refine fd ?_|fail)))
def Kz(n:Int)(d:An):Bool:=decide (d.hours.length≤48)&&decide (d.noms.length≤200)&&decide (d.trades.length≤50)&&d.hours.all Vw&&d.noms.all (Yt n)&&d.trades.all (Kx n)
structure An.small(d:An):Prop where
 hours:d.hours.length≤maxLen
 noms:d.noms.length≤maxLen
 trades:d.trades.length≤maxLen
theorem atT(d:An)(hs:d.small)(n:Int):Bl.call (.fn 62) [.agg d.cells,.int .i64 n] []=some (.ret (.bool (Kz n d)),[]):=by
 have c1:=adE (l:=d.hours) (nn:=d.nh) (g:=98) (cap:=[]) (p:=fun h=> !Vw h) rfl rfl (fun x _=>aq1 x) hs.hours
 have c2:=qQ (l:=d.noms) (nn:=d.nn) n hs.noms
 have c3:=wP (l:=d.trades) (nn:=d.nt) (g:=100) (bs:=1) (brows:=[[.int .i64 n]]) (p:=fun t=> !Kx n t) (fun x _=>ap8 x n) hs.trades
 have l1:decide ((d.hours.length:Int)≤48)=decide (d.hours.length≤48):=by rw[decide_eq_decide];omega
 have l2:decide ((d.noms.length:Int)≤200)=decide (d.noms.length≤200):=by rw[decide_eq_decide];omega
 have l3:decide ((d.trades.length:Int)≤50)=decide (d.trades.length≤50):=by rw[decide_eq_decide];omega
 have k:Kz n d=(decide (d.hours.length≤48)&&decide (d.noms.length≤200)&&decide (d.trades.length≤50)&& !(d.hours.any fun h=> !Vw h)&&d.noms.all (Yt n)&& !(d.trades.any fun t=> !Kx n t)):=by
  simp[Kz,List.all_eq_not_any_not]
 rw[k]
 (refine ce Tryz.func62 ?_;simp only[Tryz.f62];(have hb:=trivial;with_reducible repeat' (first|simp only[hb,Vc.down,seval,ax8.down,An.cells,acL,c1,c2,c3,l1,l2,l3]|refine Ai ?_ ?_<;>intro hb|refine fd ?_|fail)))
 all_goals (refine congrArg (fun b=>(Ea.ret (AV.bool b),([]:Aa))) ?_;clear k c1 c2 c3;simp_all)
structure Gh where
 hour:Int
 nG:Bool
 gas:List Int
 own:Int
 fuel:Int
 nL:Bool
 bills:List Int
 nO:Bool
 owed:List Ab
abbrev Gh.cells(x:Gh):List AV:=[.int .i64 x.hour,Az 1 true x.nG (x.gas.map iv),.int .i64 x.own,.int .i64 x.fuel,Az 1 true x.nL (x.bills.map iv),Az 5 true x.nO (x.owed.map Ab.cells)]
theorem anX(d:An)(hs:d.small)(n:Int):Bl.call (.fn 24) [.agg d.cells,.int .i64 n] []=some (.ret (.bool (Kz n d)),[]):=by
 have c2:=aqS (l:=d.noms) (nn:=d.nn) n hs.noms
 have l1:decide ((d.hours.length:Int)≤48)=decide (d.hours.length≤48):=by rw[decide_eq_decide];omega
 have l2:decide ((d.noms.length:Int)≤200)=decide (d.noms.length≤200):=by rw[decide_eq_decide];omega
 have l3:decide ((d.trades.length:Int)≤50)=decide (d.trades.length≤50):=by rw[decide_eq_decide];omega
 have k:Kz n d=(d.hours.all Vw&&d.trades.all (Kx n)&&decide (d.hours.length≤48)&&decide (d.noms.length≤200)&&decide (d.trades.length≤50)&&d.noms.all (Yt n)):=by
  unfold Kz
  rw[aeY]
  simp only[abQ]
  constructor<;>(intro h;simp only[h,and_self])
 rw[k]
 (refine ce Tryz.func24 ?_;simp only[Tryz.f24];(have hb:=trivial;with_reducible repeat' (first|simp only[hb,Vc.down,seval,jZ.down,An.cells,acL]|refine Ai ?_ ?_<;>intro hb|refine fd ?_|fail)))
 refine Dm (Sj 79 d.hours (fun i (zz:Unit) t h=>t 1=.int .i64 n∧t 2=.ptr 0 0 0∧t 5=.int .i64 i∧(h[0]?=some (.live 3 false false [d.cells]))) (fun rest zz=>rest.all Vw) (fun r e t h=>(if r=true then e=.exit 0∧t 1=.int .i64 n∧t 2=.ptr 0 0 0∧h[0]?=some (.live 3 false false [d.cells])else e=.ret∧t 4=.bool false)) ?_ ?_ () _ _ ?_) (fun e t h hk=>?_)
 ·rintro _ t h Q' kQ ⟨h1,h2,h5,hA⟩
  (have hb:=trivial;with_reducible repeat' (first|simp only[hb,Vc.down,seval,jZ.down,h1,h2,h5,adJ,decide_false,hA,acL]|refine Ai ?_ ?_<;>intro hb|refine fd ?_|fail))
  exact kQ _ _ _ (by rw[if_pos (by rfl)];exact⟨rfl,by simp[up,h1],by simp[up,h2],hA⟩)
 ·rintro x rest i _ t h J Q' kJ kQ hx hi ⟨h1,h2,h5,hA⟩
  have hd:decide ((i:Int)<(d.hours.length:Int))=true:=decide_eq_true (by omega)
  have hw:=Ak hi hs.hours
  have hA1:=Bv hA
  cases c0:Vw x with
  |false=>
   have c0':=c0
   simp only[Vw,Bool.and_eq_false_iff]at c0'
   (have hb:=trivial;with_reducible repeat' (first|simp only[hb,Vc.down,seval,jZ.down,h1,h2,h5,hd,hx,hw,hA,hA1,pJ,Au.cells,acL]|refine Ai ?_ ?_<;>intro hb|refine fd ?_|fail))
   all_goals first
    |exact kQ _ _ _ (by rw[if_neg (by simp[c0])];exact⟨rfl,by simp[up]⟩)
    |(exfalso;simp_all)
  |true=>
   have c0':=c0
   simp only[Vw,abQ]at c0'
   obtain⟨⟨⟨u1,u2⟩,u3⟩,u4⟩:=c0'
   (have hb:=trivial;with_reducible repeat' (first|simp only[hb,Vc.down,seval,jZ.down,h1,h2,h5,hd,hx,hw,hA,hA1,pJ,u1,u2,u3,u4,Au.cells,acL]|refine Ai ?_ ?_<;>intro hb|refine fd ?_|fail))
   (refine Aq (kJ _ _ () ⟨?_,?_,?_,hA1 _⟩ ?_);(simp[up,h1]);(simp[up,h2]);(simp[up]);(simp[c0]))
 ·exact⟨by simp[up,Dj],by simp[up,Dj],by simp[up],rfl⟩
 ·split at hk
  ·obtain⟨rfl,h1,h2,hA⟩:=hk
   rename_i hr1
   (have hb:=trivial;with_reducible repeat' (first|simp only[hb,Vc.down,seval,jZ.down,h1,h2,hA]|refine Ai ?_ ?_<;>intro hb|refine fd ?_|fail))
   refine Dm (Sj 79 d.trades (fun i (zz:Unit) t h=>t 1=.int .i64 n∧t 2=.ptr 0 0 0∧t 7=.int .i64 i∧(h[0]?=some (.live 3 false false [d.cells]))) (fun rest zz=>rest.all (Kx n)) (fun r e t h=>(if r=true then e=.exit 2∧t 1=.int .i64 n∧t 2=.ptr 0 0 0∧h[0]?=some (.live 3 false false [d.cells])else e=.ret∧t 4=.bool false)) ?_ ?_ () _ _ ?_) (fun e t h hk=>?_)
   ·rintro _ t h Q' kQ ⟨h1,h2,h7,hA⟩
    (have hb:=trivial;with_reducible repeat' (first|simp only[hb,Vc.down,seval,jZ.down,h1,h2,h7,adJ,decide_false,hA,acL]|refine Ai ?_ ?_<;>intro hb|refine fd ?_|fail))
    exact kQ _ _ _ (by rw[if_pos (by rfl)];exact⟨rfl,by simp[up,h1],by simp[up,h2],hA⟩)
   ·rintro x rest i _ t h J Q' kJ kQ hx hi ⟨h1,h2,h7,hA⟩
    have hd:decide ((i:Int)<(d.trades.length:Int))=true:=decide_eq_true (by omega)
    have hw:=Ak hi hs.trades
    cases c0:Kx n x with
    |false=>
     (have hb:=trivial;with_reducible repeat' (first|simp only[hb,Vc.down,seval,jZ.down,h1,h2,h7,hd,hx,hw,hA,xP,c0,Ab.cells,acL]|refine Ai ?_ ?_<;>intro hb|refine fd ?_|fail))
     exact kQ _ _ _ (by rw[if_neg (by simp[c0])];exact⟨rfl,by simp[up]⟩)
    |true=>
     (have hb:=trivial;with_reducible repeat' (first|simp only[hb,Vc.down,seval,jZ.down,h1,h2,h7,hd,hx,hw,hA,xP,c0,Ab.cells,acL]|refine Ai ?_ ?_<;>intro hb|refine fd ?_|fail))
     (refine Aq (kJ _ _ () ⟨?_,?_,?_,hA⟩ ?_);(simp[up,h1]);(simp[up,h2]);(simp[up]);(simp[c0]))
   ·exact⟨by simp[up,Dj,h1,h2],by simp[up,Dj,h1,h2],by simp[up],hA⟩
   ·split at hk
    ·obtain⟨rfl,h1,h2,hA⟩:=hk
     rename_i hr2
     (have hb:=trivial;with_reducible repeat' (first|simp only[hb,Vc.down,seval,jZ.down,h1,h2,hA,c2,l1,l2,l3,acL]|refine Ai ?_ ?_<;>intro hb|refine fd ?_|fail))
     all_goals (refine congrArg (fun b=>(Ea.ret (AV.bool b),([]:Aa))) ?_;clear k c2;simp_all)
    ·obtain⟨rfl,h4⟩:=hk
     rename_i hr2
     (have hb:=trivial;with_reducible repeat' (first|simp only[hb,Vc.down,seval,jZ.down,h4]|refine Ai ?_ ?_<;>intro hb|refine fd ?_|fail))
     simp[hr2]
  ·obtain⟨rfl,h4⟩:=hk
   rename_i hr1
   (have hb:=trivial;with_reducible repeat' (first|simp only[hb,Vc.down,seval,jZ.down,h4]|refine Ai ?_ ?_<;>intro hb|refine fd ?_|fail))
   simp[hr1]
theorem oV{l l':List Ab}{nn nn':Bool}(hl:l.length≤maxLen)(hl':l'.length≤maxLen)(heq:l=l'):Bl.call (.fn 65) [Az 5 true nn (l.map Ab.cells),Az 5 true nn' (l'.map Ab.cells)] []=some (.ret (.bool true),[]):=by
 subst heq
 (refine ce Tryz.func65 ?_;simp only[Tryz.f65];(have hb:=trivial;with_reducible repeat' (first|simp only[hb,Vc.down,seval,amP.down,acL,cT,Bool.not_true]|refine Ai ?_ ?_<;>intro hb|refine fd ?_|fail)))
 refine Dm (Sj 26 l (fun i (zz:Unit) t h=>t 0=Az 5 true nn (l.map Ab.cells)∧t 1=Az 5 true nn' (l.map Ab.cells)∧t 5=.int .i64 i) (fun rest zz=>()) (fun r e t h=>e=.exit 0) ?_ ?_ () _ _ ?_) (fun e t h hk=>?_)
 ·rintro _ t h Q' kQ ⟨h0,h1,h5⟩
  (have hb:=trivial;with_reducible repeat' (first|simp only[hb,Vc.down,seval,amP.down,h0,h1,h5,adJ,decide_false]|refine Ai ?_ ?_<;>intro hb|refine fd ?_|fail))
  exact kQ _ _ _ rfl
 ·rintro x rest i _ t h J Q' kJ kQ hx hi ⟨h0,h1,h5⟩
  have hd:decide ((i:Int)<(l.length:Int))=true:=decide_eq_true (by omega)
  have hw:=Ak hi hl
  (have hb:=trivial;with_reducible repeat' (first|simp only[hb,Vc.down,seval,amP.down,h0,h1,h5,hd,hx,hw,Ab.cells,acL,cT,Bool.not_true,Bool.and_self]|refine Ai ?_ ?_<;>intro hb|refine fd ?_|fail))
  (refine Aq (kJ _ _ () ⟨?_,?_,?_⟩ ?_);(simp[up,h0]);(simp[up,h1]);(simp[up]);exact rfl)
 ·exact⟨by simp[up,Dj],by simp[up,Dj],by simp[up]⟩
 ·obtain rfl:=hk
  (have hb:=trivial;with_reducible repeat' (first|simp only[hb,Vc.down,seval,amP.down]|refine Ai ?_ ?_<;>intro hb|refine fd ?_|fail))
theorem arO{c:Ah}{w:Int}(h: -1000000000≤w∧w≤1000000000):amW c w=gY c w:=by
 unfold amW gY Jf
 split
 ·rw[Int.sub_self];exact Om
 ·rw[Int.sub_zero];exact Ag (by omega) (by omega)
theorem aoD:∀{cs:List Ah} {l:List Int},(∀w∈l,-1000000000≤w∧w≤1000000000)→qJ cs l=Pl cs l
 | [],_,_=>rfl
 |_::_,[],_=>rfl
 |c::cs,w::l,h=>by
  have ih:=aoD (cs:=cs) (l:=l) (fun x hx=>h x (adL _ hx))
  simp only[qJ,Pl,List.zipWith_cons_cons]at ih ⊢
  rw[ih,arO (h w (adK ..))]
theorem rI{cs:List Ah}{l:List Int}(h:∀w∈l,-1000000000≤w∧w≤1000000000)(m:Int):Ft cs l m=Wz cs l m:=by
 unfold Ft Wz
 rw[aoD h]
theorem aq9{x:Int}(h:Gp x (-100000000) 100000000=true):0≤Db x∧Db x≤100000000:=by
 simp only[Gp,abQ,decide_eq_true_eq]at h
 unfold Db;split<;>omega
theorem arA{x:Int}(h:Gp x (-100000000) 100000000=true):0≤Do x∧Do x≤100000000:=by
 simp only[Gp,abQ,decide_eq_true_eq]at h
 unfold Do Db;rw[Ag (by omega) (by omega)];split<;>omega
theorem qZ{cs:List Ah}{l:List Int}(h:wF l=true)(a b:Int):Gk Ft cs l a b=Gk Wz cs l a b:=by
 simp only[wF,ajX]at h
 unfold Gk
 rw[rI (fun w hw=>by
  obtain⟨x,hx,rfl⟩:=List.mem_map.1 hw
  have:=aq9 (h x hx);omega),rI (fun w hw=>by
  obtain⟨x,hx,rfl⟩:=List.mem_map.1 hw
  have:=arA (h x hx);omega)]
theorem Zl{l l':List Int}{nn nn':Bool}(hl:l.length≤maxLen)(hl':l'.length≤maxLen):Bl.call (.fn 20) [Az 1 true nn (l.map iv),Az 1 true nn' (l'.map iv)] []=some (.ret (.bool (decide (l=l'))),[]):=as6 hl hl'
theorem uG{hr own fuel:Int}{G L:List Int}{O:List Ab}{g1 g2 l1 l2 o1 o2:Bool}(hG:G.length≤maxLen)(hL:L.length≤maxLen)(hO:O.length≤maxLen):
 Bl.call (.fn 27) [.agg [.int .i64 hr,Az 1 true g1 (G.map iv),.int .i64 own,.int .i64 fuel,Az 1 true l1 (L.map iv),Az 5 true o1 (O.map Ab.cells)],.agg [.int .i64 hr,Az 1 true g2 (G.map iv),.int .i64 own,.int .i64 fuel,Az 1 true l2 (L.map iv),Az 5 true o2 (O.map Ab.cells)]] []=some (.ret (.bool true),[]):=by
 have s1:=Zl (l:=G) (l':=G) (nn:=g1) (nn':=g2) hG hG
 have s2:=Zl (l:=L) (l':=L) (nn:=l1) (nn':=l2) hL hL
 have s3:=oV (l:=O) (l':=O) (nn:=o1) (nn':=o2) hO hO rfl
 (refine ce Tryz.func27 ?_;simp only[Tryz.f27];(have hb:=trivial;with_reducible repeat' (first|simp only[hb,Vc.down,seval,axY.down,s1,s2,s3,cT,decide_true]|refine Ai ?_ ?_<;>intro hb|refine fd ?_|fail)))
theorem vC{W A F R:List Int}{w1 w2 a1 a2 f1 f2 r1 r2:Bool}(hW:W.length≤maxLen)(hA:A.length≤maxLen)(hF:F.length≤maxLen)(hR:R.length≤maxLen):
 Bl.call (.fn 28) [.agg [Az 1 true w1 (W.map iv),Az 1 true a1 (A.map iv),Az 1 true f1 (F.map iv),Az 1 true r1 (R.map iv)],.agg [Az 1 true w2 (W.map iv),Az 1 true a2 (A.map iv),Az 1 true f2 (F.map iv),Az 1 true r2 (R.map iv)]] []=some (.ret (.bool true),[]):=by
 have s1:=Zl (l:=W) (l':=W) (nn:=w1) (nn':=w2) hW hW
 have s2:=Zl (l:=A) (l':=A) (nn:=a1) (nn':=a2) hA hA
 have s3:=Zl (l:=F) (l':=F) (nn:=f1) (nn':=f2) hF hF
 have s4:=Zl (l:=R) (l':=R) (nn:=r1) (nn':=r2) hR hR
 (refine ce Tryz.func28 ?_;simp only[Tryz.f28];(have hb:=trivial;with_reducible repeat' (first|simp only[hb,Vc.down,seval,ayJ.down,s1,s2,s3,s4,decide_true]|refine Ai ?_ ?_<;>intro hb|refine fd ?_|fail)))
def inR(c:Ah):Int:=(c.rates.head?.map Bi.inn).getD 0
def ah0(c:Ah):Int:=(c.rates.getLast?.map Bi.out).getD 0
def aqJ(h:Int)(c:Ah):Bool:=c.firm&&Gp h c.lo c.hi
def inS(h:Int):List Ah→Int
 | []=>0
 |c::l=>(if aqJ h c=true then inR c else 0)+inS h l
def aaY(h:Int):List Ah→Int
 | []=>0
 |c::l=>(if aqJ h c=true then ah0 c else 0)+aaY h l
def spS:List Ah→Int
 | []=>0
 |c::l=>c.space+spS l
theorem Wq:∀{l:List Bi} {p:Option Bi} {r:Bi},Is l p=true→r∈l→0≤r.inn∧r.inn≤100000000∧0≤r.out∧r.out≤100000000
 |x::l,p,r,h,hr=>by
  simp only[Is,abQ]at h
  rcases List.mem_cons.1 hr with rfl|hr
  ·have:=h.1
   simp only[Rk,Gp,abQ,decide_eq_true_eq]at this
   omega
  ·exact Wq h.2 hr
structure jD(c:Ah):Prop where
 inn:0≤inR c∧inR c≤100000000
 out:0≤ah0 c∧ah0 c≤100000000
 space:1≤c.space∧c.space≤100000000
 fixed:0≤c.fixed∧c.fixed≤10000
 hours:0≤c.lo∧c.lo≤c.hi∧c.hi<48
 rates:c.rates≠[]∧c.rates.length≤6
theorem Vf{c:Ah}(h:Ig c=true):jD c:=by
 have h0:=h
 simp only[Ig,abQ,Gp,dI,decide_eq_true_eq,adN]at h
 obtain⟨⟨⟨⟨⟨h1,h2⟩,h3⟩,h4⟩,h5⟩,h6⟩:=h
 have hr:c.rates≠[]:=fun e=>by rw[e]at h4;simp at h4
 refine⟨?_,?_,h2,h6.1,?_,hr,by omega⟩
 ·unfold inR
  cases hh:c.rates.head? with
  |none=>simp
  |some r=>have:=Wq h1 (List.mem_of_head? hh);simp;omega
 ·unfold ah0
  cases hh:c.rates.getLast? with
  |none=>simp
  |some r=>have:=Wq h1 (List.mem_of_getLast? hh);simp;omega
 ·omega
theorem au0{l:List Ah}(h:l.all Ig=true):∀c∈l,jD c:=fun c hc=>Vf (ajX.1 h c hc)
theorem cK{h:Int}:∀{l:List Ah} {a b:Int},(∀c∈l,jD c)→0≤a→0≤b→a+100000000*l.length<2 ^ 62→b+100000000*l.length<2 ^ 62→Pz h l (a,b)=(a+inS h l,b+aaY h l)
 | [],a,b,_,_,_,_,_=>by simp[Pz,inS,aaY]
 |c::l,a,b,hl,ha,hb,h1,h2=>by
  have c1:=(hl c (adK ..)).inn
  have c2:=(hl c (adK ..)).out
  simp only[aa9]at h1 h2
  have ht:∀c∈l,jD c:=fun c hc=>hl c (adL _ hc)
  simp only[Pz,lM,inS,aaY]
  cases hx:aqJ h c with
  |true=>
   have hx':(c.firm&&Gp h c.lo c.hi)=true:=hx
   rw[if_pos hx',if_pos rfl,if_pos rfl]
   change Pz h l (IntKind.i64.wrap (a+inR c),IntKind.i64.wrap (b+ah0 c))=_
   rw[Ag (by omega) (by omega),Ag (by omega) (by omega),cK ht (by omega) (by omega) (by omega) (by omega)]
   simp only[Int.add_assoc]
  |false=>
   have hx':(c.firm&&Gp h c.lo c.hi)=false:=hx
   rw[if_neg (by rw[hx'];simp),if_neg (by simp),if_neg (by simp),cK ht (by omega) (by omega) (by omega) (by omega)]
   simp
theorem jG:∀{l:List Ah} {a:Int},(∀c∈l,jD c)→0≤a→a+100000000*l.length<2 ^ 62→Jd l a=a+spS l
 | [],a,_,_,_=>by simp[Jd,spS]
 |c::l,a,hl,ha,h1=>by
  have c1:=(hl c (adK ..)).space
  simp only[aa9]at h1
  simp only[Jd,spS]
  rw[Ag (by omega) (by omega),jG (fun c hc=>hl c (adL _ hc)) (by omega) (by omega)]
  omega
theorem lO{p:Int→Bool}:∀{n:Nat},n≤48→(Jb p n=true↔∀h:Int,48-n≤h→h<48→p h=true)
 |0,_=>⟨fun _ h h1 h2=>by omega,fun _=>rfl⟩
 |n+1,hn=>by
  simp only[Jb,abQ,lO (n:=n) (by omega)]
  constructor
  ·rintro⟨h1,h2⟩ h h3 h4
   by_cases he:h=48-((n+1:Nat):Int)
   ·rw[he];exact h1
   ·exact h2 h (by omega) h4
  ·exact fun hk=>⟨hk _ (by omega) (by omega),fun h h3 h4=>hk h (by omega) h4⟩
theorem aaR{s:Ac}{l:List Ah}(hl:∀c∈l,jD c)(hn:l.length≤1000):fQ s l=true↔(∀h:Int,0≤h→h<48→inS h l≤s.inn∧aaY h l≤s.out)∧spS l≤s.space:=by
 simp only[fQ,abQ,decide_eq_true_eq,lO (Nat.le_refl 48)]
 rw[jG hl (by omega) (by omega)]
 simp only[okH,abQ,decide_eq_true_eq]
 constructor
 ·rintro⟨h1,h2⟩
  refine⟨fun h h3 h4=>?_,by omega⟩
  have:=h1 h (by omega) h4
  rw[cK hl (by omega) (by omega) (by omega) (by omega)]at this
  simpa using this
 ·rintro⟨h1,h2⟩
  refine⟨fun h h3 h4=>?_,by omega⟩
  rw[cK hl (by omega) (by omega) (by omega) (by omega)]
  simpa using h1 h (by omega) h4
structure akL(s:Ac):Prop where
 space:0≤s.space∧s.space≤800000000
 inn:0≤s.inn∧s.inn≤800000000
 out:0≤s.out∧s.out≤800000000
 lead:0≤s.lead∧s.lead≤48
 fuel:0≤s.fuel∧s.fuel≤1000
 len:s.cons.length≤8
 cons:∀c∈s.cons,jD c
 once:(∀h:Int,0≤h→h<48→inS h s.cons≤s.inn∧aaY h s.cons≤s.out)∧spS s.cons≤s.space
theorem Ss{s:Ac}(h:Fj s=true):akL s:=by
 have h1:=au0 (Rj h)
 have h2:=rZ h
 simp only[Fj,abQ,Gp,decide_eq_true_eq,adN]at h
 exact⟨h.1.1.1.1.1.1,h.1.1.1.1.1.2.1,h.1.1.1.1.1.2.2.1,h.1.1.1.1.2,h.1.1.1.2,h2,h1,(aaR h1 (by omega)).1 h.2⟩
theorem lP{n:Nat}(hn:n≤1000){t:Ab}(h:Kx n t=true):t.ok n∧t.frm≠t.to∧1≤t.amount∧t.amount≤100000000∧(t.back= -1∨0≤t.back):=by
 simp only[Kx,Gp,abQ,Bool.or_eq_true,decide_eq_true_eq,beq_iff_eq,Bool.not_eq_true',beq_eq_false_iff_ne]at h
 obtain⟨⟨⟨⟨⟨h1,h2⟩,h3⟩,h4⟩,h5⟩,h6⟩:=h
 rw[Ag (by omega) (by omega)]at h2 h3 h4
 exact⟨⟨⟨h3.1,by omega⟩,h4.1,by omega⟩,h5,h6.1,h6.2,by omega⟩
theorem aqN{s:Ac}{d:An}{x:Au}{y:Gh}(K:eT s d y.hour x y.owed)(hG:y.gas.length=s.cons.length)(hL:y.bills.length=s.cons.length):
 Vg Bl 64 [.agg s.cells,.agg y.cells,.agg d.cells] []
  (zB s.cons.length (IntKind.i64.wrap (y.hour+1)) (Xp s d y.hour x y.gas y.bills y.owed y.own) (G6 s d y.hour x y.gas y.bills y.owed y.fuel).2 (G6 s d y.hour x y.gas y.bills y.owed y.fuel).1 (L7 s d y.hour x y.gas y.bills y.owed) (T2 s d y.hour y.gas y.bills y.owed).2.1 (T2 s d y.hour y.gas y.bills y.owed).2.2 (W3 s d y.hour y.gas y.bills y.owed) (A4 s d y.hour x y.gas y.bills y.owed) (F5 s d y.hour x y.gas y.bills y.owed)):=by
 by_cases h:y.owed=[]∧y.nO=false
 ·exact alD K hG hL h
 ·exact anF K hG hL h
theorem ah2{t:Ab}:Kx 0 t=false:=by
 rw[←Bool.not_eq_true]
 intro h
 have T:=(lP (n:=0) (by omega) (t:=t) (by simpa using h)).1
 have t1:=T.1.1;have t2:=T.1.2
 omega
theorem alL{s:Ac}{d:An}{x:Au}{y:Gh}(K:ZOK s d y.hour x)(hG:y.gas=[])(hL:y.bills=[])(hO:y.owed=[]):
 Vg Bl 64 [.agg s.cells,.agg y.cells,.agg d.cells] [] (ZQ (IntKind.i64.wrap (y.hour+1)) (cX [] x y.own) y.fuel):=by
 obtain⟨hr,nG,gas,own,fuel,nL,bills,nO,owed⟩:=y
 simp only at hG hL hO
 subst hG hL hO
 simp only[An.cells]at *
 exact ajG K
def sM(cs:List Ah)(t:Ab)(G:List Int):Int:=IntKind.i64.wrap (IntKind.i64.wrap (t.amount-mn t.amount (gI G t.to))*bG cs t.to)
def oZ(cs:List Ah)(t:Ab)(G:List Int):Int:=mn (mn t.amount (gI G t.to)) (IntKind.i64.wrap (Ie cs t.frm-gI G t.frm))
def aj2(cs:List Ah)(t:Ab)(G:List Int):List Int:=sI (sI G t.to (IntKind.i64.wrap (gI G t.to-oZ cs t G))) t.frm (IntKind.i64.wrap (gI G t.frm+oZ cs t G))
def alU(cs:List Ah)(t:Ab)(G L:List Int):List Int:=sI (sI L t.to (IntKind.i64.wrap (gI L t.to+sM cs t G))) t.frm (IntKind.i64.wrap (gI L t.frm-sM cs t G))
def aaO(cs:List Ah)(hr:Int):List Ab→List Int × List Int × List Ab→List Int × List Int × List Ab
 | [],a=>a
 |t::rest,(G,L,p)=>if(t.back==hr)=true then aaO cs hr rest (aj2 cs t G,alU cs t G L,p)else aaO cs hr rest (G,L,p++[t])
theorem rL{l:List Int}{i j:Int}(hi:0≤i)(hj:0≤j)(h:i≠j)(v:Int):gI (sI l i v) j=gI l j:=by
 unfold gI sI
 rw[List.getElem?_set_ne (by omega)]
theorem gA{t:Ab}{G:List Int}{n:Nat}(h:t.ok n)(hne:t.frm≠t.to):Kv t G=sI (sI G t.frm (IntKind.i64.wrap (gI G t.frm-t.amount))) t.to (IntKind.i64.wrap (gI G t.to+t.amount)):=by
 unfold Kv
 rw[rL h.1.1 h.2.1 hne]
def sY(c:Ah)(n g:Int):Int:=jV (jV (mn (mn n (Tf c g).inn) (IntKind.i64.wrap (c.space-g))) (IntKind.i64.wrap (0-(Tf c g).out))) (IntKind.i64.wrap (0-g))
def Wh(s:Ac)(d:An)(hr:Int)(G:List Int)(i:Nat)(c:Ah):Int:=
 if(decide (0≤Ed s.lead d.noms i hr d.noms (0,-1))&&Gp hr c.lo c.hi)=true then sY c (Rr d.noms (Ed s.lead d.noms i hr d.noms (0,-1))) (gI G i)else 0
def Qj(s:Ac)(d:An)(hr:Int)(G:List Int):List Ah→Nat→List Int
 | [],_=>[]
 |c::rest,i=>Wh s d hr G i c::Qj s d hr G rest (i+1)
theorem Rm(s:Ac)(d:An)(hr:Int)(G:List Int):∀(l:List Ah) (i:Nat),(Qj s d hr G l i).length=l.length
 | [],_=>rfl
 |c::rest,i=>by simp[Qj,Rm s d hr G rest]
def vM(l:List Ah)(i:Nat):Ah:=(l[i]?).getD ⟨false,0,0,0,false,[],0,0,0,0,0,0⟩
def Gn(f:Int):Int:=jV 0 f
def Jj(f:Int):Int:=jV 0 (IntKind.i64.wrap (0-f))
def Nq(s:Ac)(f:Int):Int:=IntKind.i64.wrap ((IntKind.i64.wrap (Gn f*s.fuel)).tdiv 1000)
def acJ(s:Ac)(f g:Int):Int:=IntKind.i64.wrap (IntKind.i64.wrap (IntKind.i64.wrap (g+Gn f)-Nq s f)-Jj f)
def acK(c:Ah)(f b:Int):Int:=IntKind.i64.wrap (IntKind.i64.wrap (IntKind.i64.wrap (b+c.fixed)+IntKind.i64.wrap (c.inn*Gn f))+IntKind.i64.wrap (c.out*Jj f))
def apU(c:Ah)(w a b:Int):Int:=IntKind.i64.wrap (b-IntKind.i64.wrap (c.cut*jV (IntKind.i64.wrap (w-a)) (IntKind.i64.wrap (a-w))))
def rB(c:Ah)(hr f w a b:Int):Int:=if c.firm=true then apU c w a (if Gp hr c.lo c.hi=true then acK c f b else b)else(if Gp hr c.lo c.hi=true then acK c f b else b)
def mI(s:Ac)(hr:Int)(W A:List Int):List Int→Nat→List Int × Int × List Int→List Int × Int × List Int
 | [],_,a=>a
 |f::rest,i,(G,fu,L)=>mI s hr W A rest (i+1) (sI G i (acJ s f (gI G i)),IntKind.i64.wrap (fu+Nq s f),sI L i (rB (vM s.cons i) hr f (gI W i) (gI A i) (gI L i)))
def RG(s:Ac)(hr:Int)(G L:List Int)(O:List Ab):=aaO s.cons hr O (G,L,[])
def RT(s:Ac)(d:An)(hr:Int)(G L:List Int)(O:List Ab):=Bd s.cons hr d.trades 0 ((RG s hr G L O).1,(RG s hr G L O).2.2,[])
def RW(s:Ac)(d:An)(hr:Int)(G L:List Int)(O:List Ab):=Qj s d hr (RT s d hr G L O).1 s.cons 0
def RA(s:Ac)(d:An)(hr:Int)(x:Au)(G L:List Int)(O:List Ab):=Gk Wz s.cons (RW s d hr G L O) x.inn x.out
def RF(x:Au)(A:List Int):List Int:=List.zipWith Xr (Br (mn x.flowIn (Ax (A.map Db) 0)) (A.map Db)) (Br (mn x.flowOut (Ax (A.map Do) 0)) (A.map Do))
def agJ(x:Au)(A:List Int)(own:Int):Int:=IntKind.i64.wrap (IntKind.i64.wrap (IntKind.i64.wrap (IntKind.i64.wrap (own+x.flowIn)-mn x.flowIn (Ax (A.map Db) 0))-x.flowOut)+mn x.flowOut (Ax (A.map Do) 0))
structure ay7(s:Ac)(d:An)(hr:Int)(x:Au)(G L:List Int)(O:List Ab):Prop extends eT s d hr x O where
 flat:∀t∈d.trades,t.frm≠t.to∧(t.back= -1∨0≤t.back)
 fill:∀(i:Nat) c,s.cons[i]?=some c→(Rb c).fill≤ae6 c (gI (RT s d hr G L O).1 i)
 left:(RG s hr G L O).2.2.length≤1000
def Or(l:List Int):Prop:=∀w∈l,0≤w∧w≤100000000
theorem Or.tail{x:Int}{l:List Int}(h:Or (x::l)):Or l:=fun w hw=>h w (adL _ hw)
theorem Or.head{x:Int}{l:List Int}(h:Or (x::l)):0≤x∧x≤100000000:=h x (adK ..)
theorem Or.sum:∀{l:List Int},Or l→0≤l.sum∧l.sum≤100000000*l.length
 | [],_=>by simp
 |x::l,h=>by
  have:=Or.sum h.tail
  have:=h.head
  simp only[adM,aa9]
  omega
theorem aeQ{l:List Int}{a:Int}(h:Or l)(hl:l.length≤1000)(h0:0≤a)(h1:a≤1000000000000-100000000*l.length):Ax l a=a+l.sum:=by
 induction l generalizing a with
 |nil=>simp[Ax]
 |cons x l ih=>
  have:=h.head
  simp only[aa9]at hl h1
  rw[Ax,Ag (by omega) (by omega),ih h.tail (by omega) (by omega) (by omega),adM]
  omega
theorem Rq{l:List Int}(h:Or l)(hl:l.length≤1000):Ax l 0=l.sum:=by
 rw[aeQ h hl (by omega) (by omega)];omega
def Gl(amount whole:Int):List Int→Int→List Int
 | [],_=>[]
 |w::rest,so=>(amount*(so+w) / whole-amount*so / whole)::Gl amount whole rest (so+w)
theorem bB{a b c d:Int}(h0:0≤a)(h1:a≤c)(h2:0≤b)(h3:b≤d):0≤a*b∧a*b≤c*d:=
 ⟨Int.mul_nonneg h0 h2,Int.mul_le_mul h1 h3 h2 (by omega)⟩
theorem ad9{x y:Int}(h0:0≤x)(hy:0<y):0≤x / y∧x / y≤x:=⟨Int.ediv_nonneg h0 (by omega),Int.ediv_le_self _ h0⟩
theorem ai6{amount whole:Int}(ha:0≤amount)(ha':amount≤1000000000)(hw:0<whole){l:List Int}{so:Int}(h:Or l)(hl:l.length≤8)(h0:0≤so)(h1:so≤1000000000-100000000*l.length):Dn amount whole l so (amount*so / whole)=Gl amount whole l so:=by
 induction l generalizing so with
 |nil=>rfl
 |cons w l ih=>
  have hh:=h.head
  simp only[aa9]at hl h1
  have e1:IntKind.i64.wrap (so+w)=so+w:=Ag (by omega) (by omega)
  have m1:=bB ha ha' (b:=so+w) (d:=1000000000) (by omega) (by omega)
  have m2:=bB ha ha' (b:=so) (d:=1000000000) (by omega) (by omega)
  have d1:=ad9 m1.1 hw
  have d2:=ad9 m2.1 hw
  have e2:IntKind.i64.wrap (amount*(so+w))=amount*(so+w):=Ag (by omega) (by omega)
  have e3:(amount*(so+w)).tdiv whole=amount*(so+w) / whole:=Int.tdiv_eq_ediv_of_nonneg m1.1
  have e4:IntKind.i64.wrap (amount*(so+w) / whole)=amount*(so+w) / whole:=Ag (by omega) (by omega)
  have e5:IntKind.i64.wrap (amount*(so+w) / whole-amount*so / whole)=amount*(so+w) / whole-amount*so / whole:=Ag (by omega) (by omega)
  have e6:amount*so / whole+(amount*(so+w) / whole-amount*so / whole)=amount*(so+w) / whole:=by omega
  simp only[Dn,Gl,Ey,hw,if_true,e1,e2,e3,e4,e5,e6]
  rw[ih h.tail (by omega) (by omega) (by omega)]
theorem cQ{amount whole:Int}(ha:0≤amount)(ha':amount≤1000000000)(hw:0<whole){l:List Int}(h:Or l)(hl:l.length≤8):Dn amount whole l 0 0=Gl amount whole l 0:=by
 have:=ai6 ha ha' hw h hl (adO 0) (by omega)
 simpa using this
theorem Yc{amount whole:Int}(hw:¬0<whole):∀(l:List Int) (so:Int),Dn amount whole l so 0=List.replicate l.length 0
 | [],_=>rfl
 |w::l,so=>by
  simp only[Dn,Ey,hw,if_false,aa9,List.replicate_succ]
  rw[show IntKind.i64.wrap (0+0)=0 from by decide,Yc hw l]
theorem ac7{amount whole so w:Int}(hw:0<whole):(amount*(so+w) / whole-amount*so / whole)*whole-amount*w<whole∧ -whole<(amount*(so+w) / whole-amount*so / whole)*whole-amount*w:=by
 have a1:=ajY (amount*(so+w)) whole
 have a2:=ajY (amount*so) whole
 have b1:=ajZ (amount*(so+w)) (by omega:whole≠0)
 have b2:=ajZ (amount*so) (by omega:whole≠0)
 have c1:=aj0 (amount*(so+w)) hw
 have c2:=aj0 (amount*so) hw
 have e:amount*(so+w)=amount*so+amount*w:=Int.mul_add ..
 rw[Int.sub_mul,adP (amount*(so+w) / whole),adP (amount*so / whole)]
 constructor<;>omega
theorem al6{amount whole so w:Int}(ha:0≤amount)(haw:amount≤whole)(hw:0<whole)(hw0:0≤w):0≤amount*(so+w) / whole-amount*so / whole∧amount*(so+w) / whole-amount*so / whole≤w:=by
 have e:amount*(so+w)=amount*so+amount*w:=Int.mul_add ..
 have p:0≤amount*w:=Int.mul_nonneg ha hw0
 have q:amount*w≤whole*w:=Int.mul_le_mul_of_nonneg_right haw hw0
 have m1:amount*so / whole≤amount*(so+w) / whole:=aj1 hw (by omega)
 have m2:amount*(so+w) / whole≤(amount*so+w*whole) / whole:=aj1 hw (by rw[adP w];omega)
 rw[Int.add_mul_ediv_right _ _ (by omega)]at m2
 omega
theorem Wp{amount whole:Int}(ha:0≤amount)(haw:amount≤whole)(hw:0<whole):∀{l:List Int} {so:Int},Or l→∀{i:Nat} {x w:Int},(Gl amount whole l so)[i]?=some x→l[i]?=some w→0≤x∧x≤w∧x*whole-amount*w<whole∧ -whole<x*whole-amount*w
 | [],_,_,i,x,w,hx,_=>by simp[Gl]at hx
 |y::l,so,h,0,x,w,hx,hw'=>by
  simp only[Gl,List.getElem?_cons_zero,Option.some.injEq]at hx hw'
  subst hx hw'
  have:=al6 (so:=so) ha haw hw h.head.1
  have:=ac7 (amount:=amount) (so:=so) (w:=y) hw
  exact⟨by omega,by omega,by omega,by omega⟩
 |y::l,so,h,i+1,x,w,hx,hw'=>by
  simp only[Gl,List.getElem?_cons_succ]at hx hw'
  exact Wp ha haw hw h.tail hx hw'
theorem Hz(amount whole:Int):∀(l:List Int) (so:Int),(Gl amount whole l so).length=l.length
 | [],_=>rfl
 |x::l,so=>by simp[Gl,Hz amount whole l]
theorem lK(amount whole:Int):∀(l:List Int) (so:Int),(Gl amount whole l so).sum=amount*(so+l.sum) / whole-amount*so / whole
 | [],so=>by simp[Gl]
 |w::l,so=>by
  rw[Gl,adM,lK,adM,Int.add_assoc so]
  omega
theorem aO{amount:Int}{l:List Int}(hw:0<l.sum):(Gl amount l.sum l 0).sum=amount:=by
 rw[lK];simp[Int.mul_ediv_cancel _ (by omega:l.sum≠0)]
end Go.Proofs.YtdbiogihimdpcaaGreatDoor
