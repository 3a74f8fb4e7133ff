/- The functions of the layer, walked. -/
import Derived.Test.YtdbiogihimdpcaaGreatDoorPartAG
import Derived.Test.YtdbiogihimdpcaaGreatDoorPartAB
import Derived.Test.YtdbiogihimdpcaaGreatDoorPartAC
open List renaming length_cons→aaF,map_nil→aaV,map_cons→abL,length_map→abT,getElem?_set→acK,length_set→acY,length_nil→acZ,zipWith→ac2,mem_of_getElem?→ac3,zipWith_cons_cons→ac4,sum_cons→ac5,getElem?_eq_getElem→aeG,mem_cons_self→aeO,mem_cons_of_mem→ai6,all_cons→ai8,mem_cons→ai9,getElem?_zipWith→ajA,getElem?_eq_some_iff→ajB,length_pos_iff→ajY,all_eq_true→am3,getElem?_eq_none→anC
open Bool renaming and_eq_true→aaR,false_eq_true→ai7,eq_iff_iff→am2
open Int renaming mul_comm→adA,lt_irrefl→aiT,le_refl→ai5,emod_add_mul_ediv→am4,emod_nonneg→am5,emod_lt_of_pos→am6,ediv_le_ediv→am8
set_option linter.unusedSimpArgs false
set_option linter.unusedVariables false
namespace Go.Proofs.YtdbiogihimdpcaaGreatDoor
open Go.Ev Go
set_option maxRecDepth 100000
set_option maxHeartbeats 16000000
def stO(n:Nat)(hr own fuel:Int)(ov wv av fv rv:AV):Dx:=.ret (.tup [.agg [.int .i64 hr,.slr 1 0 0 n,.int .i64 own,.int .i64 fuel,.slr 1 1 0 n,ov],.agg [wv,av,fv,rv]])
def gY(w:Bool)(l:List Int):CB:=.live 1 true w (l.map iv)
def lv5(w:Bool)(l:List Ab):CB:=.live 5 true w (l.map Ab.cells)
def xO(n:Nat)(hr own fuel:Int)(G L:List Int)(O:List Ab)(R W A F:List Int)(o:Dx)(h:Aa):Prop:=
 ∃w1 w2 w3 w4 w5 w6 w7:Bool,
  (O=[]∧R=[]∧o=stO n hr own fuel .nils (.slr 1 2 0 n) (.slr 1 3 0 n) (.slr 1 4 0 n) .nils∧h=[gY w1 G,gY w2 L,gY w3 W,gY w4 A,gY w5 F])∨
  (R=[]∧o=stO n hr own fuel (.slr 5 2 0 O.length) (.slr 1 3 0 n) (.slr 1 4 0 n) (.slr 1 5 0 n) .nils∧h=[gY w1 G,gY w2 L,lv5 w6 O,gY w3 W,gY w4 A,gY w5 F])∨
  (O=[]∧R≠[]∧o=stO n hr own fuel .nils (.slr 1 2 0 n) (.slr 1 3 0 n) (.slr 1 4 0 n) (.slr 1 5 0 R.length)∧h=[gY w1 G,gY w2 L,gY w3 W,gY w4 A,gY w5 F,gY w7 R])∨
  (R≠[]∧o=stO n hr own fuel (.slr 5 2 0 O.length) (.slr 1 3 0 n) (.slr 1 4 0 n) (.slr 1 5 0 n) (.slr 1 6 0 R.length)∧h=[gY w1 G,gY w2 L,lv5 w6 O,gY w3 W,gY w4 A,gY w5 F,gY w7 R])
theorem alC{s:Ac}{d:Aq}{hr own fuel:Int}{x:Au}{G L:List Int}{O:List Ab}{nG nL nO:Bool}(K:cZ s d hr x O)(hG:G.length=s.cons.length)(hL:L.length=s.cons.length)(hO:O=[]∧nO=false):
 Uu Bn 64 [.agg s.cells,.agg [.int .i64 hr,Bj 1 true nG (G.map iv),.int .i64 own,.int .i64 fuel,Bj 1 true nL (L.map iv),Bj 5 true nO (O.map Ab.cells)],.agg d.cells] []
  (xO s.cons.length (IntKind.i64.wrap (hr+1)) (aR s d hr x G L O own) (G6 s d hr x G L O fuel).2 (G6 s d hr x G L O fuel).1 (L7 s d hr x G L O) (T2 s d hr G L O).2.1 (T2 s d hr G L O).2.2 (W3 s d hr G L O) (A4 s d hr x G L O) (F5 s d hr x G L O)):=by
 have hlen:=K.len
 have hp:0<s.cons.length:=ajY.2 K.ne
 have hGn:G≠[]:=fun e=>by rw[e]at hG;simp at hG;omega
 have hLn:L≠[]:=fun e=>by rw[e]at hL;simp at hL;omega
 obtain⟨hO1,rfl⟩:=hO
 have hsl:Bj 5 true false (O.map Ab.cells)=.nils:=by rw[hO1];rfl
 have hc1:=Qx (l:=G) (by omega) hGn
 have hc2:=Qx (l:=L) (by omega) hLn
 have hct:Bn.call (.fn 103) [.nils] []=some (.ret .nils,[]):=lI
 have hb7:=mP 7
 simp only[pW,uL,abL,aaV]at hb7
 rw[hG]at hc1
 rw[hL]at hc2
 rw[jD (n:=1) (fl:=true) (nn:=nG) (dH hGn),jD (n:=1) (fl:=true) (nn:=nL) (dH hLn)]
 refine Na rfl Tryz.func64 rfl rfl ?_
 simp only[Tryz.f64]
 (have hb:=trivial;with_reducible repeat' (first|simp only[hb,Vc.down,seval,bA.down,hc1,hc2,hct,hsl,Aq.cells,hb7,aaV]|refine Aj ?_ ?_<;>intro hb|refine fd ?_|fail))
 refine Di (Rm 66 uL (fun i (_:Unit) t h=>t 8=.ptr 7 0 0∧t 6=.ptr 3 0 0∧t 7=.ptr 4 0 0∧t 42=.agg (uL.map (pW 7))∧t 43=.int .i64 i∧amD h∧StS s d hr own fuel x G L O 7 i h) (fun _ _=>()) (fun _ e t h=>e=.exit 0∧t 8=.ptr 7 0 0∧t 6=.ptr 3 0 0∧t 7=.ptr 4 0 0∧amD h∧StS s d hr own fuel x G L O 7 7 h) ?_ ?_ () _ _ ?_) (fun e t h hk=>?_)
 ·rintro _ t h Q' kQ ⟨h8,h6,h7,h42,h43,hF,hS⟩
  rw[show uL.length=7 from rfl]at h43 hS
  have h77:decide (((7:Nat):Int)<7)=false:=by decide
  (have hb:=trivial;with_reducible repeat' (first|simp only[hb,Vc.down,seval,bA.down,h43,h77]|refine Aj ?_ ?_<;>intro hb|refine fd ?_|fail))
  exact kQ _ _ _ ⟨rfl,by simp[up,h8],by simp[up,h6],by simp[up,h7],hF,hS⟩
 ·rintro f rest i _ t h J Q' kJ kQ hx hi ⟨h8,h6,h7,h42,h43,hF,hS⟩
  have hi7:i<7:=hi
  have hd:decide ((i:Int)<7)=true:=decide_eq_true (by omega)
  have hw:IntKind.i64.wrap ((i:Int)+1)=((i+1:Nat):Int):=Ak (n:=7) hi7 (by unfold maxLen;omega)
  obtain⟨es,e,hB,hS'⟩:=ahK K hx hS
  have hii:((i:Int)<7)=True:=eq_true (by omega)
  (have hb:=trivial;with_reducible repeat' (first|simp only[hb,Vc.down,seval,bA.down,h42,h43,hd,hw,apN,hii,Nat.mul_one,hx,e]|refine Aj ?_ ?_<;>intro hb|refine fd ?_|fail))
  refine Ao (kJ _ _ () ⟨?_,?_,?_,?_,?_,?_,hS'⟩ rfl)
  ·simp[up,h8]
  ·simp[up,h6]
  ·simp[up,h7]
  ·simp[up,h42,pW]
  ·simp[up]
  ·exact⟨by obtain⟨⟨fl,w,hw1⟩,_⟩:=hF;exact⟨fl,w,by rw[hB 3 (by omega)];exact hw1⟩,by obtain⟨_,fl,w,hw1⟩:=hF;exact⟨fl,w,by rw[hB 4 (by omega)];exact hw1⟩⟩
 ·refine⟨by simp[up],by simp[up],by simp[up],by simp[up,uL,pW],by simp[up],⟨⟨_,_,rfl⟩,⟨_,_,rfl⟩⟩,?_⟩
  exact⟨by omega,hG,hL,_,_,_,_,_,rfl,rfl,rfl,.inl ⟨hO1,rfl⟩,.inl ⟨rfl,rfl⟩⟩
 ·obtain⟨rfl,h8,h6,h7,⟨⟨f3,v3,h3⟩,f4,v4,h4⟩,H⟩:=hk
  obtain⟨r,hqr⟩:∃r:Nat,r=7:=⟨_,rfl⟩
  replace h8:t 8=.ptr r 0 0:=by rw[hqr];exact h8
  replace H:StS s d hr own fuel x G L O r 7 h:=by rw[hqr];exact H
  obtain⟨hr6,hG',hL',hWl,hAl,hFl,w,w1,w2,ov,rv,iw,ia,jf,w4,w6,w7,hR,hg,h6b,hov,hrv,hw,hw6,ha,ha6,hf,hf6,d01,d02,d12⟩:=H
  clear hqr
  have hsr:Zx r 7 r=1000:=by unfold Zx;rw[if_neg (by omega)];omega
  have l1:=Dy hR
  have y1:=eq_true l1
  have y2:=eq_true (Dy h3)
  have y3:=eq_true (Dy h4)
  have z1:(r=3)=False:=eq_false (by omega)
  have z2:(r=4)=False:=eq_false (by omega)
  have z3:∀k,6<k→(3=k)=False:=fun k hk=>eq_false (by omega)
  have z4:∀k,6<k→(4=k)=False:=fun k hk=>eq_false (by omega)
  have zr:=z3 r hr6
  have zr':=z4 r hr6
  have zw:=z3 iw hw6
  have zw':=z4 iw hw6
  have za:=z3 ia ha6
  have za':=z4 ia ha6
  have zf:=z3 jf hf6
  have zf':=z4 jf hf6
  rcases hov with⟨hO2,rfl⟩|⟨io,w3,rfl,hio,hio6⟩<;>rcases hrv with⟨hR2,rfl⟩|⟨iq,w5,hRn,rfl,hiq,hiq6,hqx⟩
  ·have n_0_1:(r=5)=False:=eq_false (by omega)
   have n_0_2:(r=6)=False:=eq_false (by omega)
   have n_0_3:(r=iw)=False:=eq_false fun e=>by subst e;rw[hR]at hw;simp at hw
   have qn_0_3:r≠iw:=of_eq_false n_0_3
   have n_0_4:(r=ia)=False:=eq_false fun e=>by subst e;rw[hR]at ha;simp at ha
   have qn_0_4:r≠ia:=of_eq_false n_0_4
   have n_0_5:(r=jf)=False:=eq_false fun e=>by subst e;rw[hR]at hf;simp at hf
   have qn_0_5:r≠jf:=of_eq_false n_0_5
   have n_1_3:(5=iw)=False:=eq_false (by omega)
   have n_1_4:(5=ia)=False:=eq_false (by omega)
   have n_1_5:(5=jf)=False:=eq_false (by omega)
   have n_2_3:(6=iw)=False:=eq_false (by omega)
   have n_2_4:(6=ia)=False:=eq_false (by omega)
   have n_2_5:(6=jf)=False:=eq_false (by omega)
   have n_3_4:(iw=ia)=False:=eq_false d01
   have qn_3_4:iw≠ia:=of_eq_false n_3_4
   have n_3_5:(iw=jf)=False:=eq_false d02
   have qn_3_5:iw≠jf:=of_eq_false n_3_5
   have n_4_5:(ia=jf)=False:=eq_false d12
   have qn_4_5:ia≠jf:=of_eq_false n_4_5
   (have hb:=trivial;with_reducible repeat' (first|simp only[hb,Vc.down,seval,bA.down,h8,h6,h7,h3,h4,acK,acY,hR,hg,h6b,hw,ha,hf,n_0_1,n_0_2,n_0_3,n_0_4,n_0_5,n_1_3,n_1_4,n_1_5,n_2_3,n_2_4,n_2_5,n_3_4,n_3_5,n_4_5,y1,y2,y3,z1,z2,zr,zr',zw,zw',za,za',zf,zf']|refine Aj ?_ ?_<;>intro hb|((refine Gy (r) 7 ?_ ?_);(simp (discharger:=decide) only[Hg,Ep,abL,aaV,Dq,Hi,Hh,Hf,Ha,Dp,Eo,Es,aaF,acZ,hsr];kernel_rfl);intro _)|refine lM ?_|fail))
   exact⟨w1,w2,w4,w6,w7,false,false,.inl ⟨hO2,hR2,rfl,rfl⟩⟩
  ·have n_0_1:(r=5)=False:=eq_false (by omega)
   have n_0_2:(r=6)=False:=eq_false (by omega)
   have n_0_3:(r=iw)=False:=eq_false fun e=>by subst e;rw[hR]at hw;simp at hw
   have qn_0_3:r≠iw:=of_eq_false n_0_3
   have n_0_4:(r=ia)=False:=eq_false fun e=>by subst e;rw[hR]at ha;simp at ha
   have qn_0_4:r≠ia:=of_eq_false n_0_4
   have n_0_5:(r=jf)=False:=eq_false fun e=>by subst e;rw[hR]at hf;simp at hf
   have qn_0_5:r≠jf:=of_eq_false n_0_5
   have n_0_6:(r=iq)=False:=eq_false fun e=>by subst e;rw[hR]at hiq;simp at hiq
   have qn_0_6:r≠iq:=of_eq_false n_0_6
   have n_1_3:(5=iw)=False:=eq_false (by omega)
   have n_1_4:(5=ia)=False:=eq_false (by omega)
   have n_1_5:(5=jf)=False:=eq_false (by omega)
   have n_1_6:(5=iq)=False:=eq_false (by omega)
   have n_2_3:(6=iw)=False:=eq_false (by omega)
   have n_2_4:(6=ia)=False:=eq_false (by omega)
   have n_2_5:(6=jf)=False:=eq_false (by omega)
   have n_2_6:(6=iq)=False:=eq_false (by omega)
   have n_3_4:(iw=ia)=False:=eq_false d01
   have qn_3_4:iw≠ia:=of_eq_false n_3_4
   have n_3_5:(iw=jf)=False:=eq_false d02
   have qn_3_5:iw≠jf:=of_eq_false n_3_5
   have n_3_6:(iw=iq)=False:=eq_false fun e=>by subst e;simp at hqx
   have qn_3_6:iw≠iq:=of_eq_false n_3_6
   have n_4_5:(ia=jf)=False:=eq_false d12
   have qn_4_5:ia≠jf:=of_eq_false n_4_5
   have n_4_6:(ia=iq)=False:=eq_false fun e=>by subst e;simp at hqx
   have qn_4_6:ia≠iq:=of_eq_false n_4_6
   have n_5_6:(jf=iq)=False:=eq_false fun e=>by subst e;simp at hqx
   have qn_5_6:jf≠iq:=of_eq_false n_5_6
   have l5:=Dy hiq
   have zq:=z3 iq hiq6
   have zq':=z4 iq hiq6
   (have hb:=trivial;with_reducible repeat' (first|simp only[hb,Vc.down,seval,bA.down,h8,h6,h7,h3,h4,acK,acY,hR,hg,h6b,hw,ha,hf,hiq,n_0_1,n_0_2,n_0_3,n_0_4,n_0_5,n_0_6,n_1_3,n_1_4,n_1_5,n_1_6,n_2_3,n_2_4,n_2_5,n_2_6,n_3_4,n_3_5,n_3_6,n_4_5,n_4_6,n_5_6,y1,y2,y3,z1,z2,zr,zr',zw,zw',za,za',zf,zf',zq,zq']|refine Aj ?_ ?_<;>intro hb|((refine Gy (r) 7 ?_ ?_);(simp (discharger:=decide) only[Hg,Ep,abL,aaV,Dq,Hi,Hh,Hf,Ha,Dp,Eo,Es,aaF,acZ,hsr];kernel_rfl);intro _)|refine lM ?_|fail))
   exact⟨w1,w2,w4,w6,w7,false,w5,.inr (.inr (.inl ⟨hO2,hRn,rfl,rfl⟩))⟩
  ·have n_0_1:(r=5)=False:=eq_false (by omega)
   have n_0_2:(r=6)=False:=eq_false (by omega)
   have n_0_3:(r=io)=False:=eq_false fun e=>by subst e;rw[hR]at hio;simp at hio
   have qn_0_3:r≠io:=of_eq_false n_0_3
   have n_0_4:(r=iw)=False:=eq_false fun e=>by subst e;rw[hR]at hw;simp at hw
   have qn_0_4:r≠iw:=of_eq_false n_0_4
   have n_0_5:(r=ia)=False:=eq_false fun e=>by subst e;rw[hR]at ha;simp at ha
   have qn_0_5:r≠ia:=of_eq_false n_0_5
   have n_0_6:(r=jf)=False:=eq_false fun e=>by subst e;rw[hR]at hf;simp at hf
   have qn_0_6:r≠jf:=of_eq_false n_0_6
   have n_1_3:(5=io)=False:=eq_false (by omega)
   have n_1_4:(5=iw)=False:=eq_false (by omega)
   have n_1_5:(5=ia)=False:=eq_false (by omega)
   have n_1_6:(5=jf)=False:=eq_false (by omega)
   have n_2_3:(6=io)=False:=eq_false (by omega)
   have n_2_4:(6=iw)=False:=eq_false (by omega)
   have n_2_5:(6=ia)=False:=eq_false (by omega)
   have n_2_6:(6=jf)=False:=eq_false (by omega)
   have n_3_4:(io=iw)=False:=eq_false fun e=>by subst e;rw[hio]at hw;simp at hw
   have qn_3_4:io≠iw:=of_eq_false n_3_4
   have n_3_5:(io=ia)=False:=eq_false fun e=>by subst e;rw[hio]at ha;simp at ha
   have qn_3_5:io≠ia:=of_eq_false n_3_5
   have n_3_6:(io=jf)=False:=eq_false fun e=>by subst e;rw[hio]at hf;simp at hf
   have qn_3_6:io≠jf:=of_eq_false n_3_6
   have n_4_5:(iw=ia)=False:=eq_false d01
   have qn_4_5:iw≠ia:=of_eq_false n_4_5
   have n_4_6:(iw=jf)=False:=eq_false d02
   have qn_4_6:iw≠jf:=of_eq_false n_4_6
   have n_5_6:(ia=jf)=False:=eq_false d12
   have qn_5_6:ia≠jf:=of_eq_false n_5_6
   have l4:=Dy hio
   have zo:=z3 io hio6
   have zo':=z4 io hio6
   (have hb:=trivial;with_reducible repeat' (first|simp only[hb,Vc.down,seval,bA.down,h8,h6,h7,h3,h4,acK,acY,hR,hg,h6b,hio,hw,ha,hf,n_0_1,n_0_2,n_0_3,n_0_4,n_0_5,n_0_6,n_1_3,n_1_4,n_1_5,n_1_6,n_2_3,n_2_4,n_2_5,n_2_6,n_3_4,n_3_5,n_3_6,n_4_5,n_4_6,n_5_6,y1,y2,y3,z1,z2,zr,zr',zw,zw',za,za',zf,zf',zo,zo']|refine Aj ?_ ?_<;>intro hb|((refine Gy (r) 7 ?_ ?_);(simp (discharger:=decide) only[Hg,Ep,abL,aaV,Dq,Hi,Hh,Hf,Ha,Dp,Eo,Es,aaF,acZ,hsr];kernel_rfl);intro _)|refine lM ?_|fail))
   exact⟨w1,w2,w4,w6,w7,w3,false,.inr (.inl ⟨hR2,rfl,rfl⟩)⟩
  ·have n_0_1:(r=5)=False:=eq_false (by omega)
   have n_0_2:(r=6)=False:=eq_false (by omega)
   have n_0_3:(r=io)=False:=eq_false fun e=>by subst e;rw[hR]at hio;simp at hio
   have qn_0_3:r≠io:=of_eq_false n_0_3
   have n_0_4:(r=iw)=False:=eq_false fun e=>by subst e;rw[hR]at hw;simp at hw
   have qn_0_4:r≠iw:=of_eq_false n_0_4
   have n_0_5:(r=ia)=False:=eq_false fun e=>by subst e;rw[hR]at ha;simp at ha
   have qn_0_5:r≠ia:=of_eq_false n_0_5
   have n_0_6:(r=jf)=False:=eq_false fun e=>by subst e;rw[hR]at hf;simp at hf
   have qn_0_6:r≠jf:=of_eq_false n_0_6
   have n_0_7:(r=iq)=False:=eq_false fun e=>by subst e;rw[hR]at hiq;simp at hiq
   have qn_0_7:r≠iq:=of_eq_false n_0_7
   have n_1_3:(5=io)=False:=eq_false (by omega)
   have n_1_4:(5=iw)=False:=eq_false (by omega)
   have n_1_5:(5=ia)=False:=eq_false (by omega)
   have n_1_6:(5=jf)=False:=eq_false (by omega)
   have n_1_7:(5=iq)=False:=eq_false (by omega)
   have n_2_3:(6=io)=False:=eq_false (by omega)
   have n_2_4:(6=iw)=False:=eq_false (by omega)
   have n_2_5:(6=ia)=False:=eq_false (by omega)
   have n_2_6:(6=jf)=False:=eq_false (by omega)
   have n_2_7:(6=iq)=False:=eq_false (by omega)
   have n_3_4:(io=iw)=False:=eq_false fun e=>by subst e;rw[hio]at hw;simp at hw
   have qn_3_4:io≠iw:=of_eq_false n_3_4
   have n_3_5:(io=ia)=False:=eq_false fun e=>by subst e;rw[hio]at ha;simp at ha
   have qn_3_5:io≠ia:=of_eq_false n_3_5
   have n_3_6:(io=jf)=False:=eq_false fun e=>by subst e;rw[hio]at hf;simp at hf
   have qn_3_6:io≠jf:=of_eq_false n_3_6
   have n_3_7:(io=iq)=False:=eq_false fun e=>by subst e;rw[hio]at hiq;simp at hiq
   have qn_3_7:io≠iq:=of_eq_false n_3_7
   have n_4_5:(iw=ia)=False:=eq_false d01
   have qn_4_5:iw≠ia:=of_eq_false n_4_5
   have n_4_6:(iw=jf)=False:=eq_false d02
   have qn_4_6:iw≠jf:=of_eq_false n_4_6
   have n_4_7:(iw=iq)=False:=eq_false fun e=>by subst e;simp at hqx
   have qn_4_7:iw≠iq:=of_eq_false n_4_7
   have n_5_6:(ia=jf)=False:=eq_false d12
   have qn_5_6:ia≠jf:=of_eq_false n_5_6
   have n_5_7:(ia=iq)=False:=eq_false fun e=>by subst e;simp at hqx
   have qn_5_7:ia≠iq:=of_eq_false n_5_7
   have n_6_7:(jf=iq)=False:=eq_false fun e=>by subst e;simp at hqx
   have qn_6_7:jf≠iq:=of_eq_false n_6_7
   have l4:=Dy hio
   have l5:=Dy hiq
   have zo:=z3 io hio6
   have zo':=z4 io hio6
   have zq:=z3 iq hiq6
   have zq':=z4 iq hiq6
   (have hb:=trivial;with_reducible repeat' (first|simp only[hb,Vc.down,seval,bA.down,h8,h6,h7,h3,h4,acK,acY,hR,hg,h6b,hio,hw,ha,hf,hiq,n_0_1,n_0_2,n_0_3,n_0_4,n_0_5,n_0_6,n_0_7,n_1_3,n_1_4,n_1_5,n_1_6,n_1_7,n_2_3,n_2_4,n_2_5,n_2_6,n_2_7,n_3_4,n_3_5,n_3_6,n_3_7,n_4_5,n_4_6,n_4_7,n_5_6,n_5_7,n_6_7,y1,y2,y3,z1,z2,zr,zr',zw,zw',za,za',zf,zf',zo,zo',zq,zq']|refine Aj ?_ ?_<;>intro hb|((refine Gy (r) 7 ?_ ?_);(simp (discharger:=decide) only[Hg,Ep,abL,aaV,Dq,Hi,Hh,Hf,Ha,Dp,Eo,Es,aaF,acZ,hsr];kernel_rfl);intro _)|refine lM ?_|fail))
   exact⟨w1,w2,w4,w6,w7,w3,w5,.inr (.inr (.inr ⟨hRn,rfl,rfl⟩))⟩
theorem amB{s:Ac}{d:Aq}{hr own fuel:Int}{x:Au}{G L:List Int}{O:List Ab}{nG nL nO:Bool}(K:cZ s d hr x O)(hG:G.length=s.cons.length)(hL:L.length=s.cons.length)(hO:¬(O=[]∧nO=false)):
 Uu Bn 64 [.agg s.cells,.agg [.int .i64 hr,Bj 1 true nG (G.map iv),.int .i64 own,.int .i64 fuel,Bj 1 true nL (L.map iv),Bj 5 true nO (O.map Ab.cells)],.agg d.cells] []
  (xO s.cons.length (IntKind.i64.wrap (hr+1)) (aR s d hr x G L O own) (G6 s d hr x G L O fuel).2 (G6 s d hr x G L O fuel).1 (L7 s d hr x G L O) (T2 s d hr G L O).2.1 (T2 s d hr G L O).2.2 (W3 s d hr G L O) (A4 s d hr x G L O) (F5 s d hr x G L O)):=by
 have hlen:=K.len
 have hp:0<s.cons.length:=ajY.2 K.ne
 have hGn:G≠[]:=fun e=>by rw[e]at hG;simp at hG;omega
 have hLn:L≠[]:=fun e=>by rw[e]at hL;simp at hL;omega
 skip
 have hc1:=Qx (l:=G) (by omega) hGn
 have hc2:=Qx (l:=L) (by omega) hLn
 have hct:=nN (l:=O) (nn:=nO) K.owed hO
 have hb7:=mP 8
 simp only[pW,uL,abL,aaV]at hb7
 rw[hG]at hc1
 rw[hL]at hc2
 rw[jD (n:=1) (fl:=true) (nn:=nG) (dH hGn),jD (n:=1) (fl:=true) (nn:=nL) (dH hLn)]
 refine Na rfl Tryz.func64 rfl rfl ?_
 simp only[Tryz.f64]
 (have hb:=trivial;with_reducible repeat' (first|simp only[hb,Vc.down,seval,bA.down,hc1,hc2,hct,hct,Aq.cells,hb7,aaV]|refine Aj ?_ ?_<;>intro hb|refine fd ?_|fail))
 refine Di (Rm 66 uL (fun i (_:Unit) t h=>t 8=.ptr 8 0 0∧t 6=.ptr 3 0 0∧t 7=.ptr 4 0 0∧t 42=.agg (uL.map (pW 8))∧t 43=.int .i64 i∧amD h∧StS s d hr own fuel x G L O 8 i h) (fun _ _=>()) (fun _ e t h=>e=.exit 0∧t 8=.ptr 8 0 0∧t 6=.ptr 3 0 0∧t 7=.ptr 4 0 0∧amD h∧StS s d hr own fuel x G L O 8 7 h) ?_ ?_ () _ _ ?_) (fun e t h hk=>?_)
 ·rintro _ t h Q' kQ ⟨h8,h6,h7,h42,h43,hF,hS⟩
  rw[show uL.length=7 from rfl]at h43 hS
  have h77:decide (((7:Nat):Int)<7)=false:=by decide
  (have hb:=trivial;with_reducible repeat' (first|simp only[hb,Vc.down,seval,bA.down,h43,h77]|refine Aj ?_ ?_<;>intro hb|refine fd ?_|fail))
  exact kQ _ _ _ ⟨rfl,by simp[up,h8],by simp[up,h6],by simp[up,h7],hF,hS⟩
 ·rintro f rest i _ t h J Q' kJ kQ hx hi ⟨h8,h6,h7,h42,h43,hF,hS⟩
  have hi7:i<7:=hi
  have hd:decide ((i:Int)<7)=true:=decide_eq_true (by omega)
  have hw:IntKind.i64.wrap ((i:Int)+1)=((i+1:Nat):Int):=Ak (n:=7) hi7 (by unfold maxLen;omega)
  obtain⟨es,e,hB,hS'⟩:=ahK K hx hS
  have hii:((i:Int)<7)=True:=eq_true (by omega)
  (have hb:=trivial;with_reducible repeat' (first|simp only[hb,Vc.down,seval,bA.down,h42,h43,hd,hw,apN,hii,Nat.mul_one,hx,e]|refine Aj ?_ ?_<;>intro hb|refine fd ?_|fail))
  refine Ao (kJ _ _ () ⟨?_,?_,?_,?_,?_,?_,hS'⟩ rfl)
  ·simp[up,h8]
  ·simp[up,h6]
  ·simp[up,h7]
  ·simp[up,h42,pW]
  ·simp[up]
  ·exact⟨by obtain⟨⟨fl,w,hw1⟩,_⟩:=hF;exact⟨fl,w,by rw[hB 3 (by omega)];exact hw1⟩,by obtain⟨_,fl,w,hw1⟩:=hF;exact⟨fl,w,by rw[hB 4 (by omega)];exact hw1⟩⟩
 ·refine⟨by simp[up],by simp[up],by simp[up],by simp[up,uL,pW],by simp[up],⟨⟨_,_,rfl⟩,⟨_,_,rfl⟩⟩,?_⟩
  exact⟨by omega,hG,hL,_,_,_,_,_,rfl,rfl,rfl,.inr ⟨7,false,rfl,rfl,by omega⟩,.inl ⟨rfl,rfl⟩⟩
 ·obtain⟨rfl,h8,h6,h7,⟨⟨f3,v3,h3⟩,f4,v4,h4⟩,H⟩:=hk
  obtain⟨r,hqr⟩:∃r:Nat,r=8:=⟨_,rfl⟩
  replace h8:t 8=.ptr r 0 0:=by rw[hqr];exact h8
  replace H:StS s d hr own fuel x G L O r 7 h:=by rw[hqr];exact H
  obtain⟨hr6,hG',hL',hWl,hAl,hFl,w,w1,w2,ov,rv,iw,ia,jf,w4,w6,w7,hR,hg,h6b,hov,hrv,hw,hw6,ha,ha6,hf,hf6,d01,d02,d12⟩:=H
  clear hqr
  have hsr:Zx r 7 r=1000:=by unfold Zx;rw[if_neg (by omega)];omega
  have l1:=Dy hR
  have y1:=eq_true l1
  have y2:=eq_true (Dy h3)
  have y3:=eq_true (Dy h4)
  have z1:(r=3)=False:=eq_false (by omega)
  have z2:(r=4)=False:=eq_false (by omega)
  have z3:∀k,6<k→(3=k)=False:=fun k hk=>eq_false (by omega)
  have z4:∀k,6<k→(4=k)=False:=fun k hk=>eq_false (by omega)
  have zr:=z3 r hr6
  have zr':=z4 r hr6
  have zw:=z3 iw hw6
  have zw':=z4 iw hw6
  have za:=z3 ia ha6
  have za':=z4 ia ha6
  have zf:=z3 jf hf6
  have zf':=z4 jf hf6
  rcases hov with⟨hO2,rfl⟩|⟨io,w3,rfl,hio,hio6⟩<;>rcases hrv with⟨hR2,rfl⟩|⟨iq,w5,hRn,rfl,hiq,hiq6,hqx⟩
  ·have n_0_1:(r=5)=False:=eq_false (by omega)
   have n_0_2:(r=6)=False:=eq_false (by omega)
   have n_0_3:(r=iw)=False:=eq_false fun e=>by subst e;rw[hR]at hw;simp at hw
   have qn_0_3:r≠iw:=of_eq_false n_0_3
   have n_0_4:(r=ia)=False:=eq_false fun e=>by subst e;rw[hR]at ha;simp at ha
   have qn_0_4:r≠ia:=of_eq_false n_0_4
   have n_0_5:(r=jf)=False:=eq_false fun e=>by subst e;rw[hR]at hf;simp at hf
   have qn_0_5:r≠jf:=of_eq_false n_0_5
   have n_1_3:(5=iw)=False:=eq_false (by omega)
   have n_1_4:(5=ia)=False:=eq_false (by omega)
   have n_1_5:(5=jf)=False:=eq_false (by omega)
   have n_2_3:(6=iw)=False:=eq_false (by omega)
   have n_2_4:(6=ia)=False:=eq_false (by omega)
   have n_2_5:(6=jf)=False:=eq_false (by omega)
   have n_3_4:(iw=ia)=False:=eq_false d01
   have qn_3_4:iw≠ia:=of_eq_false n_3_4
   have n_3_5:(iw=jf)=False:=eq_false d02
   have qn_3_5:iw≠jf:=of_eq_false n_3_5
   have n_4_5:(ia=jf)=False:=eq_false d12
   have qn_4_5:ia≠jf:=of_eq_false n_4_5
   (have hb:=trivial;with_reducible repeat' (first|simp only[hb,Vc.down,seval,bA.down,h8,h6,h7,h3,h4,acK,acY,hR,hg,h6b,hw,ha,hf,n_0_1,n_0_2,n_0_3,n_0_4,n_0_5,n_1_3,n_1_4,n_1_5,n_2_3,n_2_4,n_2_5,n_3_4,n_3_5,n_4_5,y1,y2,y3,z1,z2,zr,zr',zw,zw',za,za',zf,zf']|refine Aj ?_ ?_<;>intro hb|((refine Gy (r) 7 ?_ ?_);(simp (discharger:=decide) only[Hg,Ep,abL,aaV,Dq,Hi,Hh,Hf,Ha,Dp,Eo,Es,aaF,acZ,hsr];kernel_rfl);intro _)|refine lM ?_|fail))
   exact⟨w1,w2,w4,w6,w7,false,false,.inl ⟨hO2,hR2,rfl,rfl⟩⟩
  ·have n_0_1:(r=5)=False:=eq_false (by omega)
   have n_0_2:(r=6)=False:=eq_false (by omega)
   have n_0_3:(r=iw)=False:=eq_false fun e=>by subst e;rw[hR]at hw;simp at hw
   have qn_0_3:r≠iw:=of_eq_false n_0_3
   have n_0_4:(r=ia)=False:=eq_false fun e=>by subst e;rw[hR]at ha;simp at ha
   have qn_0_4:r≠ia:=of_eq_false n_0_4
   have n_0_5:(r=jf)=False:=eq_false fun e=>by subst e;rw[hR]at hf;simp at hf
   have qn_0_5:r≠jf:=of_eq_false n_0_5
   have n_0_6:(r=iq)=False:=eq_false fun e=>by subst e;rw[hR]at hiq;simp at hiq
   have qn_0_6:r≠iq:=of_eq_false n_0_6
   have n_1_3:(5=iw)=False:=eq_false (by omega)
   have n_1_4:(5=ia)=False:=eq_false (by omega)
   have n_1_5:(5=jf)=False:=eq_false (by omega)
   have n_1_6:(5=iq)=False:=eq_false (by omega)
   have n_2_3:(6=iw)=False:=eq_false (by omega)
   have n_2_4:(6=ia)=False:=eq_false (by omega)
   have n_2_5:(6=jf)=False:=eq_false (by omega)
   have n_2_6:(6=iq)=False:=eq_false (by omega)
   have n_3_4:(iw=ia)=False:=eq_false d01
   have qn_3_4:iw≠ia:=of_eq_false n_3_4
   have n_3_5:(iw=jf)=False:=eq_false d02
   have qn_3_5:iw≠jf:=of_eq_false n_3_5
   have n_3_6:(iw=iq)=False:=eq_false fun e=>by subst e;simp at hqx
   have qn_3_6:iw≠iq:=of_eq_false n_3_6
   have n_4_5:(ia=jf)=False:=eq_false d12
   have qn_4_5:ia≠jf:=of_eq_false n_4_5
   have n_4_6:(ia=iq)=False:=eq_false fun e=>by subst e;simp at hqx
   have qn_4_6:ia≠iq:=of_eq_false n_4_6
   have n_5_6:(jf=iq)=False:=eq_false fun e=>by subst e;simp at hqx
   have qn_5_6:jf≠iq:=of_eq_false n_5_6
   have l5:=Dy hiq
   have zq:=z3 iq hiq6
   have zq':=z4 iq hiq6
   (have hb:=trivial;with_reducible repeat' (first|simp only[hb,Vc.down,seval,bA.down,h8,h6,h7,h3,h4,acK,acY,hR,hg,h6b,hw,ha,hf,hiq,n_0_1,n_0_2,n_0_3,n_0_4,n_0_5,n_0_6,n_1_3,n_1_4,n_1_5,n_1_6,n_2_3,n_2_4,n_2_5,n_2_6,n_3_4,n_3_5,n_3_6,n_4_5,n_4_6,n_5_6,y1,y2,y3,z1,z2,zr,zr',zw,zw',za,za',zf,zf',zq,zq']|refine Aj ?_ ?_<;>intro hb|((refine Gy (r) 7 ?_ ?_);(simp (discharger:=decide) only[Hg,Ep,abL,aaV,Dq,Hi,Hh,Hf,Ha,Dp,Eo,Es,aaF,acZ,hsr];kernel_rfl);intro _)|refine lM ?_|fail))
   exact⟨w1,w2,w4,w6,w7,false,w5,.inr (.inr (.inl ⟨hO2,hRn,rfl,rfl⟩))⟩
  ·have n_0_1:(r=5)=False:=eq_false (by omega)
   have n_0_2:(r=6)=False:=eq_false (by omega)
   have n_0_3:(r=io)=False:=eq_false fun e=>by subst e;rw[hR]at hio;simp at hio
   have qn_0_3:r≠io:=of_eq_false n_0_3
   have n_0_4:(r=iw)=False:=eq_false fun e=>by subst e;rw[hR]at hw;simp at hw
   have qn_0_4:r≠iw:=of_eq_false n_0_4
   have n_0_5:(r=ia)=False:=eq_false fun e=>by subst e;rw[hR]at ha;simp at ha
   have qn_0_5:r≠ia:=of_eq_false n_0_5
   have n_0_6:(r=jf)=False:=eq_false fun e=>by subst e;rw[hR]at hf;simp at hf
   have qn_0_6:r≠jf:=of_eq_false n_0_6
   have n_1_3:(5=io)=False:=eq_false (by omega)
   have n_1_4:(5=iw)=False:=eq_false (by omega)
   have n_1_5:(5=ia)=False:=eq_false (by omega)
   have n_1_6:(5=jf)=False:=eq_false (by omega)
   have n_2_3:(6=io)=False:=eq_false (by omega)
   have n_2_4:(6=iw)=False:=eq_false (by omega)
   have n_2_5:(6=ia)=False:=eq_false (by omega)
   have n_2_6:(6=jf)=False:=eq_false (by omega)
   have n_3_4:(io=iw)=False:=eq_false fun e=>by subst e;rw[hio]at hw;simp at hw
   have qn_3_4:io≠iw:=of_eq_false n_3_4
   have n_3_5:(io=ia)=False:=eq_false fun e=>by subst e;rw[hio]at ha;simp at ha
   have qn_3_5:io≠ia:=of_eq_false n_3_5
   have n_3_6:(io=jf)=False:=eq_false fun e=>by subst e;rw[hio]at hf;simp at hf
   have qn_3_6:io≠jf:=of_eq_false n_3_6
   have n_4_5:(iw=ia)=False:=eq_false d01
   have qn_4_5:iw≠ia:=of_eq_false n_4_5
   have n_4_6:(iw=jf)=False:=eq_false d02
   have qn_4_6:iw≠jf:=of_eq_false n_4_6
   have n_5_6:(ia=jf)=False:=eq_false d12
   have qn_5_6:ia≠jf:=of_eq_false n_5_6
   have l4:=Dy hio
   have zo:=z3 io hio6
   have zo':=z4 io hio6
   (have hb:=trivial;with_reducible repeat' (first|simp only[hb,Vc.down,seval,bA.down,h8,h6,h7,h3,h4,acK,acY,hR,hg,h6b,hio,hw,ha,hf,n_0_1,n_0_2,n_0_3,n_0_4,n_0_5,n_0_6,n_1_3,n_1_4,n_1_5,n_1_6,n_2_3,n_2_4,n_2_5,n_2_6,n_3_4,n_3_5,n_3_6,n_4_5,n_4_6,n_5_6,y1,y2,y3,z1,z2,zr,zr',zw,zw',za,za',zf,zf',zo,zo']|refine Aj ?_ ?_<;>intro hb|((refine Gy (r) 7 ?_ ?_);(simp (discharger:=decide) only[Hg,Ep,abL,aaV,Dq,Hi,Hh,Hf,Ha,Dp,Eo,Es,aaF,acZ,hsr];kernel_rfl);intro _)|refine lM ?_|fail))
   exact⟨w1,w2,w4,w6,w7,w3,false,.inr (.inl ⟨hR2,rfl,rfl⟩)⟩
  ·have n_0_1:(r=5)=False:=eq_false (by omega)
   have n_0_2:(r=6)=False:=eq_false (by omega)
   have n_0_3:(r=io)=False:=eq_false fun e=>by subst e;rw[hR]at hio;simp at hio
   have qn_0_3:r≠io:=of_eq_false n_0_3
   have n_0_4:(r=iw)=False:=eq_false fun e=>by subst e;rw[hR]at hw;simp at hw
   have qn_0_4:r≠iw:=of_eq_false n_0_4
   have n_0_5:(r=ia)=False:=eq_false fun e=>by subst e;rw[hR]at ha;simp at ha
   have qn_0_5:r≠ia:=of_eq_false n_0_5
   have n_0_6:(r=jf)=False:=eq_false fun e=>by subst e;rw[hR]at hf;simp at hf
   have qn_0_6:r≠jf:=of_eq_false n_0_6
   have n_0_7:(r=iq)=False:=eq_false fun e=>by subst e;rw[hR]at hiq;simp at hiq
   have qn_0_7:r≠iq:=of_eq_false n_0_7
   have n_1_3:(5=io)=False:=eq_false (by omega)
   have n_1_4:(5=iw)=False:=eq_false (by omega)
   have n_1_5:(5=ia)=False:=eq_false (by omega)
   have n_1_6:(5=jf)=False:=eq_false (by omega)
   have n_1_7:(5=iq)=False:=eq_false (by omega)
   have n_2_3:(6=io)=False:=eq_false (by omega)
   have n_2_4:(6=iw)=False:=eq_false (by omega)
   have n_2_5:(6=ia)=False:=eq_false (by omega)
   have n_2_6:(6=jf)=False:=eq_false (by omega)
   have n_2_7:(6=iq)=False:=eq_false (by omega)
   have n_3_4:(io=iw)=False:=eq_false fun e=>by subst e;rw[hio]at hw;simp at hw
   have qn_3_4:io≠iw:=of_eq_false n_3_4
   have n_3_5:(io=ia)=False:=eq_false fun e=>by subst e;rw[hio]at ha;simp at ha
   have qn_3_5:io≠ia:=of_eq_false n_3_5
   have n_3_6:(io=jf)=False:=eq_false fun e=>by subst e;rw[hio]at hf;simp at hf
   have qn_3_6:io≠jf:=of_eq_false n_3_6
   have n_3_7:(io=iq)=False:=eq_false fun e=>by subst e;rw[hio]at hiq;simp at hiq
   have qn_3_7:io≠iq:=of_eq_false n_3_7
   have n_4_5:(iw=ia)=False:=eq_false d01
   have qn_4_5:iw≠ia:=of_eq_false n_4_5
   have n_4_6:(iw=jf)=False:=eq_false d02
   have qn_4_6:iw≠jf:=of_eq_false n_4_6
   have n_4_7:(iw=iq)=False:=eq_false fun e=>by subst e;simp at hqx
   have qn_4_7:iw≠iq:=of_eq_false n_4_7
   have n_5_6:(ia=jf)=False:=eq_false d12
   have qn_5_6:ia≠jf:=of_eq_false n_5_6
   have n_5_7:(ia=iq)=False:=eq_false fun e=>by subst e;simp at hqx
   have qn_5_7:ia≠iq:=of_eq_false n_5_7
   have n_6_7:(jf=iq)=False:=eq_false fun e=>by subst e;simp at hqx
   have qn_6_7:jf≠iq:=of_eq_false n_6_7
   have l4:=Dy hio
   have l5:=Dy hiq
   have zo:=z3 io hio6
   have zo':=z4 io hio6
   have zq:=z3 iq hiq6
   have zq':=z4 iq hiq6
   (have hb:=trivial;with_reducible repeat' (first|simp only[hb,Vc.down,seval,bA.down,h8,h6,h7,h3,h4,acK,acY,hR,hg,h6b,hio,hw,ha,hf,hiq,n_0_1,n_0_2,n_0_3,n_0_4,n_0_5,n_0_6,n_0_7,n_1_3,n_1_4,n_1_5,n_1_6,n_1_7,n_2_3,n_2_4,n_2_5,n_2_6,n_2_7,n_3_4,n_3_5,n_3_6,n_3_7,n_4_5,n_4_6,n_4_7,n_5_6,n_5_7,n_6_7,y1,y2,y3,z1,z2,zr,zr',zw,zw',za,za',zf,zf',zo,zo',zq,zq']|refine Aj ?_ ?_<;>intro hb|((refine Gy (r) 7 ?_ ?_);(simp (discharger:=decide) only[Hg,Ep,abL,aaV,Dq,Hi,Hh,Hf,Ha,Dp,Eo,Es,aaF,acZ,hsr];kernel_rfl);intro _)|refine lM ?_|fail))
   exact⟨w1,w2,w4,w6,w7,w3,w5,.inr (.inr (.inr ⟨hRn,rfl,rfl⟩))⟩
def Ko(n:Int)(t:Ab):Bool:=Gm t.hour 0 47&&(t.back== -1||Gm t.back (IntKind.i64.wrap (t.hour+1)) 47)&&Gm t.frm 0 (IntKind.i64.wrap (n-1))&&Gm t.to 0 (IntKind.i64.wrap (n-1))&& !(t.frm==t.to)&&Gm t.amount 1 100000000
theorem alW(t:Ab)(n:Int):Bn.call (.fn 101) [.agg [.int .i64 t.hour,.int .i64 t.back,.int .i64 t.frm,.int .i64 t.to,.int .i64 t.amount],.int .i64 n] []=some (.ret (.bool (Ko n t)),[]):=by
 (refine ce Tryz.func101 ?_;simp only[Tryz.f101];(have hb:=trivial;with_reducible repeat' (first|simp only[hb,Vc.down,seval,asO.down,lV]|refine Aj ?_ ?_<;>intro hb|refine fd ?_|fail)))
 all_goals (refine congrArg (fun b=>(Dx.ret (AV.bool b),([]:Aa))) ?_;simp_all[Ko])
theorem xK(t:Ab)(n:Int):Bn.call (.fn 61) [.agg [.int .i64 t.hour,.int .i64 t.back,.int .i64 t.frm,.int .i64 t.to,.int .i64 t.amount],.int .i64 n] []=some (.ret (.bool (Ko n t)),[]):=by
 have key:Ko n t=(Gm t.hour 0 47&&(t.back== -1||(decide (t.hour<t.back)&&Gm t.back 0 47))&&Gm t.frm 0 (IntKind.i64.wrap (n-1))&&Gm t.to 0 (IntKind.i64.wrap (n-1))&& !(t.frm==t.to)&&Gm t.amount 1 100000000):=by
  unfold Ko
  cases h:Gm t.hour 0 47 with
  |false=>simp
  |true=>
   simp only[Gm,aaR,decide_eq_true_eq]at h
   have e:Gm t.back (IntKind.i64.wrap (t.hour+1)) 47=(decide (t.hour<t.back)&&Gm t.back 0 47):=by
    rw[Af (by omega) (by omega)]
    simp only[Gm]
    rw[am2]
    simp only[aaR,decide_eq_true_eq]
    omega
   rw[e]
 rw[key]
 (refine ce Tryz.func61 ?_;simp only[Tryz.f61];(have hb:=trivial;with_reducible repeat' (first|simp only[hb,Vc.down,seval,aw3.down,gA,vR]|refine Aj ?_ ?_<;>intro hb|refine fd ?_|fail)))
 all_goals (refine congrArg (fun b=>(Dx.ret (AV.bool b),([]:Aa))) ?_;clear key;simp_all)
def Su(h:Au):Bool:=Gm h.inn 0 800000000&&Gm h.out 0 800000000&&Gm h.flowIn 0 800000000&&Gm h.flowOut 0 800000000
theorem an0(h:Au):Bn.call (.fn 98) [.agg [.int .i64 h.inn,.int .i64 h.out,.int .i64 h.flowIn,.int .i64 h.flowOut]] []=some (.ret (.bool (!Su h)),[]):=by
 have hg:=xI (l:=[h.inn,h.out,h.flowIn,h.flowOut]) (nn:=true) (by simp[maxLen])
 rw[Bh]at hg
 simp only[abL,aaV,iv,ai8,List.all_nil,Bool.and_true]at hg
 (refine ce Tryz.func98 ?_;simp only[Tryz.f98];(have hb:=trivial;with_reducible repeat' (first|simp only[hb,Vc.down,seval,axF.down,hg]|refine Aj ?_ ?_<;>intro hb|refine fd ?_|fail)))
 all_goals simp[Su,Bool.and_assoc]
theorem ap1(t:Ab)(n:Int):Bn.call (.fn 100) [.agg [.int .i64 t.hour,.int .i64 t.back,.int .i64 t.frm,.int .i64 t.to,.int .i64 t.amount],.ptr 0 0 0] [.live 1 true false [[.int .i64 n]]]=some (.ret (.bool (!Ko n t)),[.live 1 true false [[.int .i64 n]]]):=by
 (refine ce Tryz.func100 ?_;simp only[Tryz.f100];(have hb:=trivial;with_reducible repeat' (first|simp only[hb,Vc.down,seval,au7.down,alW]|refine Aj ?_ ?_<;>intro hb|refine fd ?_|fail)))
theorem af6{l:List Au}{nn:Bool}{g:Nat}{cap:List AV}{p:Au→Bool}(hc:cap.all (Az 8)=true)(hc7:cap.all (Az 7)=true)(hp:∀x∈l,Bn.call (.fn g) (.agg [.int .i64 x.inn,.int .i64 x.out,.int .i64 x.flowIn,.int .i64 x.flowOut]::cap) []=some (.ret (.bool (p x)),[]))(hl:l.length≤maxLen):
 Bn.call (.fn 128) [Bj 4 true nn (l.map Au.cells),.func (.func g) [] cap] []=some (.ret (.int .i64 (lC p l 0)),[]):=by
 (refine ce Tryz.func128 ?_;simp only[Tryz.f128];(have hb:=trivial;with_reducible repeat' (first|simp only[hb,Vc.down,seval,sL.down,abT]|refine Aj ?_ ?_<;>intro hb|refine fd ?_|fail)))
 refine Di (Rm 19 l (fun i (s:Int) t h=>s=i∧h=[]∧t 0=Bj 4 true nn (l.map Au.cells)∧t 1=.func (.func g) [] cap∧t 7=.int .i64 l.length∧t 8=.int .i64 i)
  (fun rest s=>lC p rest s) (fun r e t h=>h=[]∧((e=.exit 0∧r= -1)∨(e=.ret∧t 4=.int .i64 r))) ?_ ?_ 0 _ _ ?_) (fun e t h hk=>?_)
 ·rintro s t h Q' kQ ⟨rfl,rfl,h0,h1,h7,h8⟩
  (have hb:=trivial;with_reducible repeat' (first|simp only[hb,Vc.down,seval,sL.down,h0,h1,h7,h8,aiT,decide_false]|refine Aj ?_ ?_<;>intro hb|refine fd ?_|fail))
  exact kQ _ _ _ ⟨rfl,.inl ⟨rfl,rfl⟩⟩
 ·rintro x rest i s t h J Q' kJ kQ hx hi ⟨rfl,rfl,h0,h1,h7,h8⟩
  have hpx:=hp x (ac3 hx)
  have hd:decide ((i:Int)<(l.length:Int))=true:=by simpa using hi
  (have hb:=trivial;with_reducible repeat' (first|simp only[hb,Vc.down,seval,sL.down,h0,h1,h7,h8,hd,hx,Au.cells,hc,hc7,hpx,Ak hi hl]|refine Aj ?_ ?_<;>intro hb|refine fd ?_|fail))
  ·exact kQ _ _ _ ⟨rfl,.inr ⟨rfl,by simp[up,lC,hb]⟩⟩
  ·exact Ao (kJ _ _ (i+1) ⟨by simp,rfl,by simp[up,h0],by simp[up,h1],by simp[up,h7],by simp[up]⟩ (by simp[lC,hb]))
 ·exact⟨rfl,rfl,by simp[up,Dh],by simp[up,Dh],by simp[up],by simp[up]⟩
 ·obtain⟨rfl,⟨rfl,hi⟩|⟨rfl,hi⟩⟩:=hk
  ·(have hb:=trivial;with_reducible repeat' (first|simp only[hb,Vc.down,seval,sL.down]|refine Aj ?_ ?_<;>intro hb|refine fd ?_|fail))
   rw[hi]
  ·(have hb:=trivial;with_reducible repeat' (first|simp only[hb,Vc.down,seval,sL.down,hi]|refine Aj ?_ ?_<;>intro hb|refine fd ?_|fail))
theorem aaG{l:List Au}{nn:Bool}{g:Nat}{cap:List AV}{p:Au→Bool}(hc:cap.all (Az 8)=true)(hc7:cap.all (Az 7)=true)(hp:∀x∈l,Bn.call (.fn g) (.agg [.int .i64 x.inn,.int .i64 x.out,.int .i64 x.flowIn,.int .i64 x.flowOut]::cap) []=some (.ret (.bool (p x)),[]))(hl:l.length≤maxLen):
 Bn.call (.fn 97) [Bj 4 true nn (l.map Au.cells),.func (.func g) [] cap] []=some (.ret (.bool (l.any p)),[]):=by
 (refine ce Tryz.func97 ?_;simp only[Tryz.f97];(have hb:=trivial;with_reducible repeat' (first|simp only[hb,Vc.down,seval,af6 hc hc7 hp hl,hc,hc7,Zb p l 0 (ai5 0)]|refine Aj ?_ ?_<;>intro hb|refine fd ?_|fail)))
theorem aaM{l:List Ab}{nn:Bool}{g bs:Nat}{brows:List (List AV)}{p:Ab→Bool}(hp:∀x∈l,Bn.call (.fn g) (.agg [.int .i64 x.hour,.int .i64 x.back,.int .i64 x.frm,.int .i64 x.to,.int .i64 x.amount]::[.ptr 0 0 0]) [.live bs true false brows]=some (.ret (.bool (p x)),[.live bs true false brows]))(hl:l.length≤maxLen):
 Bn.call (.fn 129) [Bj 5 true nn (l.map Ab.cells),.func (.func g) [] [.ptr 0 0 0]] [.live bs true false brows]=some (.ret (.int .i64 (lC p l 0)),[.live bs true false brows]):=by
 (refine ce Tryz.func129 ?_;simp only[Tryz.f129];(have hb:=trivial;with_reducible repeat' (first|simp only[hb,Vc.down,seval,qD.down,abT]|refine Aj ?_ ?_<;>intro hb|refine fd ?_|fail)))
 refine Di (Rm 19 l (fun i (s:Int) t h=>s=i∧h=[.live bs true false brows]∧t 0=Bj 5 true nn (l.map Ab.cells)∧t 1=.func (.func g) [] [.ptr 0 0 0]∧t 7=.int .i64 l.length∧t 8=.int .i64 i)
  (fun rest s=>lC p rest s) (fun r e t h=>h=[.live bs true false brows]∧((e=.exit 0∧r= -1)∨(e=.ret∧t 4=.int .i64 r))) ?_ ?_ 0 _ _ ?_) (fun e t h hk=>?_)
 ·rintro s t h Q' kQ ⟨rfl,rfl,h0,h1,h7,h8⟩
  (have hb:=trivial;with_reducible repeat' (first|simp only[hb,Vc.down,seval,qD.down,h0,h1,h7,h8,aiT,decide_false]|refine Aj ?_ ?_<;>intro hb|refine fd ?_|fail))
  exact kQ _ _ _ ⟨rfl,.inl ⟨rfl,rfl⟩⟩
 ·rintro x rest i s t h J Q' kJ kQ hx hi ⟨rfl,rfl,h0,h1,h7,h8⟩
  have hpx:=hp x (ac3 hx)
  have hd:decide ((i:Int)<(l.length:Int))=true:=by simpa using hi
  (have hb:=trivial;with_reducible repeat' (first|simp only[hb,Vc.down,seval,qD.down,h0,h1,h7,h8,hd,hx,Ab.cells,hpx,Ak hi hl]|refine Aj ?_ ?_<;>intro hb|refine fd ?_|fail))
  ·exact kQ _ _ _ ⟨rfl,.inr ⟨rfl,by simp[up,lC,hb]⟩⟩
  ·exact Ao (kJ _ _ (i+1) ⟨by simp,rfl,by simp[up,h0],by simp[up,h1],by simp[up,h7],by simp[up]⟩ (by simp[lC,hb]))
 ·exact⟨rfl,rfl,by simp[up,Dh],by simp[up,Dh],by simp[up],by simp[up]⟩
 ·obtain⟨rfl,⟨rfl,hi⟩|⟨rfl,hi⟩⟩:=hk
  ·(have hb:=trivial;with_reducible repeat' (first|simp only[hb,Vc.down,seval,qD.down]|refine Aj ?_ ?_<;>intro hb|refine fd ?_|fail))
   rw[hi]
  ·(have hb:=trivial;with_reducible repeat' (first|simp only[hb,Vc.down,seval,qD.down,hi]|refine Aj ?_ ?_<;>intro hb|refine fd ?_|fail))
theorem vZ{l:List Ab}{nn:Bool}{g bs:Nat}{brows:List (List AV)}{p:Ab→Bool}(hp:∀x∈l,Bn.call (.fn g) (.agg [.int .i64 x.hour,.int .i64 x.back,.int .i64 x.frm,.int .i64 x.to,.int .i64 x.amount]::[.ptr 0 0 0]) [.live bs true false brows]=some (.ret (.bool (p x)),[.live bs true false brows]))(hl:l.length≤maxLen):
 Bn.call (.fn 99) [Bj 5 true nn (l.map Ab.cells),.func (.func g) [] [.ptr 0 0 0]] [.live bs true false brows]=some (.ret (.bool (l.any p)),[.live bs true false brows]):=by
 (refine ce Tryz.func99 ?_;simp only[Tryz.f99];(have hb:=trivial;with_reducible repeat' (first|simp only[hb,Vc.down,seval,aaM hp hl,Zb p l 0 (ai5 0)]|refine Aj ?_ ?_<;>intro hb|refine fd ?_|fail)))
def Nb(n:Int)(d:Aq):Bool:=decide (d.hours.length≤48)&&decide (d.noms.length≤200)&&decide (d.trades.length≤50)&&d.hours.all Su&&d.noms.all (bE n)&&d.trades.all (Ko n)
structure Aq.small(d:Aq):Prop where
 hours:d.hours.length≤maxLen
 noms:d.noms.length≤maxLen
 trades:d.trades.length≤maxLen
theorem as7(d:Aq)(hs:d.small)(n:Int):Bn.call (.fn 62) [.agg d.cells,.int .i64 n] []=some (.ret (.bool (Nb n d)),[]):=by
 have c1:=aaG (l:=d.hours) (nn:=d.nh) (g:=98) (cap:=[]) (p:=fun h=> !Su h) rfl rfl (fun x _=>an0 x) hs.hours
 have c2:=rV (l:=d.noms) (nn:=d.nn) n hs.noms
 have c3:=vZ (l:=d.trades) (nn:=d.nt) (g:=100) (bs:=1) (brows:=[[.int .i64 n]]) (p:=fun t=> !Ko n t) (fun x _=>ap1 x n) hs.trades
 have l1:decide ((d.hours.length:Int)≤48)=decide (d.hours.length≤48):=by rw[decide_eq_decide];omega
 have l2:decide ((d.noms.length:Int)≤200)=decide (d.noms.length≤200):=by rw[decide_eq_decide];omega
 have l3:decide ((d.trades.length:Int)≤50)=decide (d.trades.length≤50):=by rw[decide_eq_decide];omega
 have k:Nb n d=(decide (d.hours.length≤48)&&decide (d.noms.length≤200)&&decide (d.trades.length≤50)&& !(d.hours.any fun h=> !Su h)&&d.noms.all (bE n)&& !(d.trades.any fun t=> !Ko n t)):=by
  simp[Nb,List.all_eq_not_any_not]
 rw[k]
 (refine ce Tryz.func62 ?_;simp only[Tryz.f62];(have hb:=trivial;with_reducible repeat' (first|simp only[hb,Vc.down,seval,axG.down,Aq.cells,abT,c1,c2,c3,l1,l2,l3]|refine Aj ?_ ?_<;>intro hb|refine fd ?_|fail)))
 all_goals (refine congrArg (fun b=>(Dx.ret (AV.bool b),([]:Aa))) ?_;clear k c1 c2 c3;simp_all)
structure Gf where
 hour:Int
 nG:Bool
 gas:List Int
 own:Int
 fuel:Int
 nL:Bool
 bills:List Int
 nO:Bool
 owed:List Ab
abbrev Gf.cells(x:Gf):List AV:=[.int .i64 x.hour,Bj 1 true x.nG (x.gas.map iv),.int .i64 x.own,.int .i64 x.fuel,Bj 1 true x.nL (x.bills.map iv),Bj 5 true x.nO (x.owed.map Ab.cells)]
theorem anR(d:Aq)(hs:d.small)(n:Int):Bn.call (.fn 24) [.agg d.cells,.int .i64 n] []=some (.ret (.bool (Nb n d)),[]):=by
 have c2:=aq3 (l:=d.noms) (nn:=d.nn) n hs.noms
 have l1:decide ((d.hours.length:Int)≤48)=decide (d.hours.length≤48):=by rw[decide_eq_decide];omega
 have l2:decide ((d.noms.length:Int)≤200)=decide (d.noms.length≤200):=by rw[decide_eq_decide];omega
 have l3:decide ((d.trades.length:Int)≤50)=decide (d.trades.length≤50):=by rw[decide_eq_decide];omega
 have k:Nb n d=(d.hours.all Su&&d.trades.all (Ko n)&&decide (d.hours.length≤48)&&decide (d.noms.length≤200)&&decide (d.trades.length≤50)&&d.noms.all (bE n)):=by
  unfold Nb
  rw[am2]
  simp only[aaR]
  constructor<;>(intro h;simp only[h,and_self])
 rw[k]
 (refine ce Tryz.func24 ?_;simp only[Tryz.f24];(have hb:=trivial;with_reducible repeat' (first|simp only[hb,Vc.down,seval,jS.down,Aq.cells,abT]|refine Aj ?_ ?_<;>intro hb|refine fd ?_|fail)))
 refine Di (Rm 79 d.hours (fun i (zz:Unit) t h=>t 1=.int .i64 n∧t 2=.ptr 0 0 0∧t 5=.int .i64 i∧(h[0]?=some (.live 3 false false [d.cells]))) (fun rest zz=>rest.all Su) (fun r e t h=>(if r=true then e=.exit 0∧t 1=.int .i64 n∧t 2=.ptr 0 0 0∧h[0]?=some (.live 3 false false [d.cells])else e=.ret∧t 4=.bool false)) ?_ ?_ () _ _ ?_) (fun e t h hk=>?_)
 ·rintro _ t h Q' kQ ⟨h1,h2,h5,hA⟩
  (have hb:=trivial;with_reducible repeat' (first|simp only[hb,Vc.down,seval,jS.down,h1,h2,h5,aiT,decide_false,hA,abT]|refine Aj ?_ ?_<;>intro hb|refine fd ?_|fail))
  exact kQ _ _ _ (by rw[if_pos (by rfl)];exact⟨rfl,by simp[up,h1],by simp[up,h2],hA⟩)
 ·rintro x rest i _ t h J Q' kJ kQ hx hi ⟨h1,h2,h5,hA⟩
  have hd:decide ((i:Int)<(d.hours.length:Int))=true:=decide_eq_true (by omega)
  have hw:=Ak hi hs.hours
  have hA1:=Ci hA
  cases c0:Su x with
  |false=>
   have c0':=c0
   simp only[Su,Bool.and_eq_false_iff]at c0'
   (have hb:=trivial;with_reducible repeat' (first|simp only[hb,Vc.down,seval,jS.down,h1,h2,h5,hd,hx,hw,hA,hA1,pH,Au.cells,abT]|refine Aj ?_ ?_<;>intro hb|refine fd ?_|fail))
   all_goals first
    |exact kQ _ _ _ (by rw[if_neg (by simp[c0])];exact⟨rfl,by simp[up]⟩)
    |(exfalso;simp_all)
  |true=>
   have c0':=c0
   simp only[Su,aaR]at c0'
   obtain⟨⟨⟨u1,u2⟩,u3⟩,u4⟩:=c0'
   (have hb:=trivial;with_reducible repeat' (first|simp only[hb,Vc.down,seval,jS.down,h1,h2,h5,hd,hx,hw,hA,hA1,pH,u1,u2,u3,u4,Au.cells,abT]|refine Aj ?_ ?_<;>intro hb|refine fd ?_|fail))
   (refine Ao (kJ _ _ () ⟨?_,?_,?_,hA1 _⟩ ?_);(simp[up,h1]);(simp[up,h2]);(simp[up]);(simp[c0]))
 ·exact⟨by simp[up,Dh],by simp[up,Dh],by simp[up],rfl⟩
 ·split at hk
  ·obtain⟨rfl,h1,h2,hA⟩:=hk
   rename_i hr1
   (have hb:=trivial;with_reducible repeat' (first|simp only[hb,Vc.down,seval,jS.down,h1,h2,hA]|refine Aj ?_ ?_<;>intro hb|refine fd ?_|fail))
   refine Di (Rm 79 d.trades (fun i (zz:Unit) t h=>t 1=.int .i64 n∧t 2=.ptr 0 0 0∧t 7=.int .i64 i∧(h[0]?=some (.live 3 false false [d.cells]))) (fun rest zz=>rest.all (Ko n)) (fun r e t h=>(if r=true then e=.exit 2∧t 1=.int .i64 n∧t 2=.ptr 0 0 0∧h[0]?=some (.live 3 false false [d.cells])else e=.ret∧t 4=.bool false)) ?_ ?_ () _ _ ?_) (fun e t h hk=>?_)
   ·rintro _ t h Q' kQ ⟨h1,h2,h7,hA⟩
    (have hb:=trivial;with_reducible repeat' (first|simp only[hb,Vc.down,seval,jS.down,h1,h2,h7,aiT,decide_false,hA,abT]|refine Aj ?_ ?_<;>intro hb|refine fd ?_|fail))
    exact kQ _ _ _ (by rw[if_pos (by rfl)];exact⟨rfl,by simp[up,h1],by simp[up,h2],hA⟩)
   ·rintro x rest i _ t h J Q' kJ kQ hx hi ⟨h1,h2,h7,hA⟩
    have hd:decide ((i:Int)<(d.trades.length:Int))=true:=decide_eq_true (by omega)
    have hw:=Ak hi hs.trades
    cases c0:Ko n x with
    |false=>
     (have hb:=trivial;with_reducible repeat' (first|simp only[hb,Vc.down,seval,jS.down,h1,h2,h7,hd,hx,hw,hA,xK,c0,Ab.cells,abT]|refine Aj ?_ ?_<;>intro hb|refine fd ?_|fail))
     exact kQ _ _ _ (by rw[if_neg (by simp[c0])];exact⟨rfl,by simp[up]⟩)
    |true=>
     (have hb:=trivial;with_reducible repeat' (first|simp only[hb,Vc.down,seval,jS.down,h1,h2,h7,hd,hx,hw,hA,xK,c0,Ab.cells,abT]|refine Aj ?_ ?_<;>intro hb|refine fd ?_|fail))
     (refine Ao (kJ _ _ () ⟨?_,?_,?_,hA⟩ ?_);(simp[up,h1]);(simp[up,h2]);(simp[up]);(simp[c0]))
   ·exact⟨by simp[up,Dh,h1,h2],by simp[up,Dh,h1,h2],by simp[up],hA⟩
   ·split at hk
    ·obtain⟨rfl,h1,h2,hA⟩:=hk
     rename_i hr2
     (have hb:=trivial;with_reducible repeat' (first|simp only[hb,Vc.down,seval,jS.down,h1,h2,hA,c2,l1,l2,l3,abT]|refine Aj ?_ ?_<;>intro hb|refine fd ?_|fail))
     all_goals (refine congrArg (fun b=>(Dx.ret (AV.bool b),([]:Aa))) ?_;clear k c2;simp_all)
    ·obtain⟨rfl,h4⟩:=hk
     rename_i hr2
     (have hb:=trivial;with_reducible repeat' (first|simp only[hb,Vc.down,seval,jS.down,h4]|refine Aj ?_ ?_<;>intro hb|refine fd ?_|fail))
     simp[hr2]
  ·obtain⟨rfl,h4⟩:=hk
   rename_i hr1
   (have hb:=trivial;with_reducible repeat' (first|simp only[hb,Vc.down,seval,jS.down,h4]|refine Aj ?_ ?_<;>intro hb|refine fd ?_|fail))
   simp[hr1]
theorem ar0{c:Ae}{w:Int}(h: -1000000000≤w∧w≤1000000000):alH c w=gC c w:=by
 unfold alH gC Fz
 split
 ·rw[Int.sub_self];exact Oh
 ·rw[Int.sub_zero];exact Af (by omega) (by omega)
theorem anV:∀{cs:List Ae} {l:List Int},(∀w∈l,-1000000000≤w∧w≤1000000000)→pV cs l=Pe cs l
 | [],_,_=>rfl
 |_::_,[],_=>rfl
 |c::cs,w::l,h=>by
  have ih:=anV (cs:=cs) (l:=l) (fun x hx=>h x (ai6 _ hx))
  simp only[pV,Pe,ac4]at ih ⊢
  rw[ih,ar0 (h w (aeO ..))]
theorem qC{cs:List Ae}{l:List Int}(h:∀w∈l,-1000000000≤w∧w≤1000000000)(m:Int):Fh cs l m=Re cs l m:=by
 unfold Fh Re
 rw[anV h]
theorem aqA{x:Int}(h:Gm x (-100000000) 100000000=true):0≤Cc x∧Cc x≤100000000:=by
 simp only[Gm,aaR,decide_eq_true_eq]at h
 unfold Cc;split<;>omega
theorem aoA{x:Int}(h:Gm x (-100000000) 100000000=true):0≤Df x∧Df x≤100000000:=by
 simp only[Gm,aaR,decide_eq_true_eq]at h
 unfold Df Cc;rw[Af (by omega) (by omega)];split<;>omega
theorem uA{cs:List Ae}{l:List Int}(h:wX l=true)(a b:Int):Fj Fh cs l a b=Fj Re cs l a b:=by
 simp only[wX,am3]at h
 unfold Fj
 rw[qC (fun w hw=>by
  obtain⟨x,hx,rfl⟩:=List.mem_map.1 hw
  have:=aqA (h x hx);omega),qC (fun w hw=>by
  obtain⟨x,hx,rfl⟩:=List.mem_map.1 hw
  have:=aoA (h x hx);omega)]
def inR(c:Ae):Int:=(c.rates.head?.map Bc.inn).getD 0
def kZ(c:Ae):Int:=(c.rates.getLast?.map Bc.out).getD 0
def dB(h:Int)(c:Ae):Bool:=c.firm&&Gm h c.lo c.hi
def inS(h:Int):List Ae→Int
 | []=>0
 |c::l=>(if dB h c=true then inR c else 0)+inS h l
def qZ(h:Int):List Ae→Int
 | []=>0
 |c::l=>(if dB h c=true then kZ c else 0)+qZ h l
def spS:List Ae→Int
 | []=>0
 |c::l=>c.space+spS l
theorem Vz:∀{l:List Bc} {p:Option Bc} {r:Bc},Fq l p=true→r∈l→0≤r.inn∧r.inn≤100000000∧0≤r.out∧r.out≤100000000
 |x::l,p,r,h,hr=>by
  simp only[Fq,aaR]at h
  rcases ai9.1 hr with rfl|hr
  ·have:=h.1
   simp only[Pz,Gm,aaR,decide_eq_true_eq]at this
   omega
  ·exact Vz h.2 hr
structure kH(c:Ae):Prop where
 inn:0≤inR c∧inR c≤100000000
 out:0≤kZ c∧kZ c≤100000000
 space:1≤c.space∧c.space≤100000000
 fixed:0≤c.fixed∧c.fixed≤10000
 hours:0≤c.lo∧c.lo≤c.hi∧c.hi<48
 rates:c.rates≠[]∧c.rates.length≤6
theorem Lm{c:Ae}(h:Gz c=true):kH c:=by
 have h0:=h
 simp only[Gz,aaR,Gm,dK,decide_eq_true_eq,ai8]at h
 obtain⟨⟨⟨⟨⟨h1,h2⟩,h3⟩,h4⟩,h5⟩,h6⟩:=h
 have hr:c.rates≠[]:=fun e=>by rw[e]at h4;simp at h4
 refine⟨?_,?_,h2,h6.1,?_,hr,by omega⟩
 ·unfold inR
  cases hh:c.rates.head? with
  |none=>simp
  |some r=>have:=Vz h1 (List.mem_of_head? hh);simp;omega
 ·unfold kZ
  cases hh:c.rates.getLast? with
  |none=>simp
  |some r=>have:=Vz h1 (List.mem_of_getLast? hh);simp;omega
 ·omega
theorem asX{l:List Ae}(h:l.all Gz=true):∀c∈l,kH c:=fun c hc=>Lm (am3.1 h c hc)
theorem bD{h:Int}:∀{l:List Ae} {a b:Int},(∀c∈l,kH c)→0≤a→0≤b→a+100000000*l.length<2 ^ 62→b+100000000*l.length<2 ^ 62→Pg h l (a,b)=(a+inS h l,b+qZ h l)
 | [],a,b,_,_,_,_,_=>by simp[Pg,inS,qZ]
 |c::l,a,b,hl,ha,hb,h1,h2=>by
  have c1:=(hl c (aeO ..)).inn
  have c2:=(hl c (aeO ..)).out
  simp only[aaF]at h1 h2
  have ht:∀c∈l,kH c:=fun c hc=>hl c (ai6 _ hc)
  simp only[Pg,kL,inS,qZ]
  cases hx:dB h c with
  |true=>
   have hx':(c.firm&&Gm h c.lo c.hi)=true:=hx
   rw[if_pos hx',if_pos rfl,if_pos rfl]
   change Pg h l (IntKind.i64.wrap (a+inR c),IntKind.i64.wrap (b+kZ c))=_
   rw[Af (by omega) (by omega),Af (by omega) (by omega),bD ht (by omega) (by omega) (by omega) (by omega)]
   simp only[Int.add_assoc]
  |false=>
   have hx':(c.firm&&Gm h c.lo c.hi)=false:=hx
   rw[if_neg (by rw[hx'];simp),if_neg (by simp),if_neg (by simp),bD ht (by omega) (by omega) (by omega) (by omega)]
   simp
theorem jI:∀{l:List Ae} {a:Int},(∀c∈l,kH c)→0≤a→a+100000000*l.length<2 ^ 62→Jc l a=a+spS l
 | [],a,_,_,_=>by simp[Jc,spS]
 |c::l,a,hl,ha,h1=>by
  have c1:=(hl c (aeO ..)).space
  simp only[aaF]at h1
  simp only[Jc,spS]
  rw[Af (by omega) (by omega),jI (fun c hc=>hl c (ai6 _ hc)) (by omega) (by omega)]
  omega
theorem lD{p:Int→Bool}:∀{n:Nat},n≤48→(Ja p n=true↔∀h:Int,48-n≤h→h<48→p h=true)
 |0,_=>⟨fun _ h h1 h2=>by omega,fun _=>rfl⟩
 |n+1,hn=>by
  simp only[Ja,aaR,lD (n:=n) (by omega)]
  constructor
  ·rintro⟨h1,h2⟩ h h3 h4
   by_cases he:h=48-((n+1:Nat):Int)
   ·rw[he];exact h1
   ·exact h2 h (by omega) h4
  ·exact fun hk=>⟨hk _ (by omega) (by omega),fun h h3 h4=>hk h (by omega) h4⟩
theorem abB{s:Ac}{l:List Ae}(hl:∀c∈l,kH c)(hn:l.length≤1000):eL s l=true↔(∀h:Int,0≤h→h<48→inS h l≤s.inn∧qZ h l≤s.out)∧spS l≤s.space:=by
 simp only[eL,aaR,decide_eq_true_eq,lD (Nat.le_refl 48)]
 rw[jI hl (by omega) (by omega)]
 simp only[okH,aaR,decide_eq_true_eq]
 constructor
 ·rintro⟨h1,h2⟩
  refine⟨fun h h3 h4=>?_,by omega⟩
  have:=h1 h (by omega) h4
  rw[bD hl (by omega) (by omega) (by omega) (by omega)]at this
  simpa using this
 ·rintro⟨h1,h2⟩
  refine⟨fun h h3 h4=>?_,by omega⟩
  rw[bD hl (by omega) (by omega) (by omega) (by omega)]
  simpa using h1 h (by omega) h4
structure ajU(s:Ac):Prop where
 space:0≤s.space∧s.space≤800000000
 inn:0≤s.inn∧s.inn≤800000000
 out:0≤s.out∧s.out≤800000000
 lead:0≤s.lead∧s.lead≤48
 fuel:0≤s.fuel∧s.fuel≤1000
 len:s.cons.length≤8
 cons:∀c∈s.cons,kH c
 once:(∀h:Int,0≤h→h<48→inS h s.cons≤s.inn∧qZ h s.cons≤s.out)∧spS s.cons≤s.space
theorem Vx{s:Ac}(h:Ft s=true):ajU s:=by
 have h1:=asX (Oq h)
 have h2:=tD h
 simp only[Ft,aaR,Gm,decide_eq_true_eq,ai8]at h
 exact⟨h.1.1.1.1.1.1,h.1.1.1.1.1.2.1,h.1.1.1.1.1.2.2.1,h.1.1.1.1.2,h.1.1.1.2,h2,h1,(abB h1 (by omega)).1 h.2⟩
theorem jE{n:Nat}(hn:n≤1000){t:Ab}(h:Ko n t=true):t.ok n∧t.frm≠t.to∧1≤t.amount∧t.amount≤100000000∧(t.back= -1∨0≤t.back):=by
 simp only[Ko,Gm,aaR,Bool.or_eq_true,decide_eq_true_eq,beq_iff_eq,Bool.not_eq_true',beq_eq_false_iff_ne]at h
 obtain⟨⟨⟨⟨⟨h1,h2⟩,h3⟩,h4⟩,h5⟩,h6⟩:=h
 rw[Af (by omega) (by omega)]at h2 h3 h4
 exact⟨⟨⟨h3.1,by omega⟩,h4.1,by omega⟩,h5,h6.1,h6.2,by omega⟩
theorem an6{s:Ac}{d:Aq}{x:Au}{y:Gf}(K:cZ s d y.hour x y.owed)(hG:y.gas.length=s.cons.length)(hL:y.bills.length=s.cons.length):
 Uu Bn 64 [.agg s.cells,.agg y.cells,.agg d.cells] []
  (xO s.cons.length (IntKind.i64.wrap (y.hour+1)) (aR s d y.hour x y.gas y.bills y.owed y.own) (G6 s d y.hour x y.gas y.bills y.owed y.fuel).2 (G6 s d y.hour x y.gas y.bills y.owed y.fuel).1 (L7 s d y.hour x y.gas y.bills y.owed) (T2 s d y.hour y.gas y.bills y.owed).2.1 (T2 s d y.hour y.gas y.bills y.owed).2.2 (W3 s d y.hour y.gas y.bills y.owed) (A4 s d y.hour x y.gas y.bills y.owed) (F5 s d y.hour x y.gas y.bills y.owed)):=by
 by_cases h:y.owed=[]∧y.nO=false
 ·exact alC K hG hL h
 ·exact amB K hG hL h
theorem aeX{t:Ab}:Ko 0 t=false:=by
 rw[←Bool.not_eq_true]
 intro h
 have T:=(jE (n:=0) (by omega) (t:=t) (by simpa using h)).1
 have t1:=T.1.1;have t2:=T.1.2
 omega
theorem akQ{s:Ac}{d:Aq}{x:Au}{y:Gf}(K:ZOK s d y.hour x)(hG:y.gas=[])(hL:y.bills=[])(hO:y.owed=[]):
 Uu Bn 64 [.agg s.cells,.agg y.cells,.agg d.cells] [] (ZQ (IntKind.i64.wrap (y.hour+1)) (cP [] x y.own) y.fuel):=by
 obtain⟨hr,nG,gas,own,fuel,nL,bills,nO,owed⟩:=y
 simp only at hG hL hO
 subst hG hL hO
 simp only[Aq.cells]at *
 exact agT K
def qF(cs:List Ae)(t:Ab)(G:List Int):Int:=IntKind.i64.wrap (IntKind.i64.wrap (t.amount-mn t.amount (gI G t.to))*aD cs t.to)
def pB(cs:List Ae)(t:Ab)(G:List Int):Int:=mn (mn t.amount (gI G t.to)) (IntKind.i64.wrap (Ic cs t.frm-gI G t.frm))
def ak2(cs:List Ae)(t:Ab)(G:List Int):List Int:=sI (sI G t.to (IntKind.i64.wrap (gI G t.to-pB cs t G))) t.frm (IntKind.i64.wrap (gI G t.frm+pB cs t G))
def akW(cs:List Ae)(t:Ab)(G L:List Int):List Int:=sI (sI L t.to (IntKind.i64.wrap (gI L t.to+qF cs t G))) t.frm (IntKind.i64.wrap (gI L t.frm-qF cs t G))
def acR(cs:List Ae)(hr:Int):List Ab→List Int × List Int × List Ab→List Int × List Int × List Ab
 | [],a=>a
 |t::rest,(G,L,p)=>if(t.back==hr)=true then acR cs hr rest (ak2 cs t G,akW cs t G L,p)else acR cs hr rest (G,L,p++[t])
theorem qB{l:List Int}{i j:Int}(hi:0≤i)(hj:0≤j)(h:i≠j)(v:Int):gI (sI l i v) j=gI l j:=by
 unfold gI sI
 rw[List.getElem?_set_ne (by omega)]
theorem fD{t:Ab}{G:List Int}{n:Nat}(h:t.ok n)(hne:t.frm≠t.to):Kq t G=sI (sI G t.frm (IntKind.i64.wrap (gI G t.frm-t.amount))) t.to (IntKind.i64.wrap (gI G t.to+t.amount)):=by
 unfold Kq
 rw[qB h.1.1 h.2.1 hne]
def fF(c:Ae)(n g:Int):Int:=iK (iK (mn (mn n (Ll c g).inn) (IntKind.i64.wrap (c.space-g))) (IntKind.i64.wrap (0-(Ll c g).out))) (IntKind.i64.wrap (0-g))
def Qy(s:Ac)(d:Aq)(hr:Int)(G:List Int)(i:Nat)(c:Ae):Int:=
 if(decide (0≤Kz s.lead d.noms i hr d.noms (0,-1))&&Gm hr c.lo c.hi)=true then fF c (Vn d.noms (Kz s.lead d.noms i hr d.noms (0,-1))) (gI G i)else 0
def Qk(s:Ac)(d:Aq)(hr:Int)(G:List Int):List Ae→Nat→List Int
 | [],_=>[]
 |c::rest,i=>Qy s d hr G i c::Qk s d hr G rest (i+1)
theorem Rk(s:Ac)(d:Aq)(hr:Int)(G:List Int):∀(l:List Ae) (i:Nat),(Qk s d hr G l i).length=l.length
 | [],_=>rfl
 |c::rest,i=>by simp[Qk,Rk s d hr G rest]
def vK(l:List Ae)(i:Nat):Ae:=(l[i]?).getD ⟨false,0,0,0,false,[],0,0,0,0,0,0⟩
def Gp(f:Int):Int:=iK 0 f
def Jf(f:Int):Int:=iK 0 (IntKind.i64.wrap (0-f))
def Nw(s:Ac)(f:Int):Int:=IntKind.i64.wrap ((IntKind.i64.wrap (Gp f*s.fuel)).tdiv 1000)
def acG(s:Ac)(f g:Int):Int:=IntKind.i64.wrap (IntKind.i64.wrap (IntKind.i64.wrap (g+Gp f)-Nw s f)-Jf f)
def aa9(c:Ae)(f b:Int):Int:=IntKind.i64.wrap (IntKind.i64.wrap (IntKind.i64.wrap (b+c.fixed)+IntKind.i64.wrap (c.inn*Gp f))+IntKind.i64.wrap (c.out*Jf f))
def an3(c:Ae)(w a b:Int):Int:=IntKind.i64.wrap (b-IntKind.i64.wrap (c.cut*iK (IntKind.i64.wrap (w-a)) (IntKind.i64.wrap (a-w))))
def rA(c:Ae)(hr f w a b:Int):Int:=if c.firm=true then an3 c w a (if Gm hr c.lo c.hi=true then aa9 c f b else b)else(if Gm hr c.lo c.hi=true then aa9 c f b else b)
def lN(s:Ac)(hr:Int)(W A:List Int):List Int→Nat→List Int × Int × List Int→List Int × Int × List Int
 | [],_,a=>a
 |f::rest,i,(G,fu,L)=>lN s hr W A rest (i+1) (sI G i (acG s f (gI G i)),IntKind.i64.wrap (fu+Nw s f),sI L i (rA (vK s.cons i) hr f (gI W i) (gI A i) (gI L i)))
def RG(s:Ac)(hr:Int)(G L:List Int)(O:List Ab):=acR s.cons hr O (G,L,[])
def RT(s:Ac)(d:Aq)(hr:Int)(G L:List Int)(O:List Ab):=Bd s.cons hr d.trades 0 ((RG s hr G L O).1,(RG s hr G L O).2.2,[])
def RW(s:Ac)(d:Aq)(hr:Int)(G L:List Int)(O:List Ab):=Qk s d hr (RT s d hr G L O).1 s.cons 0
def RA(s:Ac)(d:Aq)(hr:Int)(x:Au)(G L:List Int)(O:List Ab):=Fj Re s.cons (RW s d hr G L O) x.inn x.out
def RF(x:Au)(A:List Int):List Int:=ac2 Ui (Bo (mn x.flowIn (Ax (A.map Cc) 0)) (A.map Cc)) (Bo (mn x.flowOut (Ax (A.map Df) 0)) (A.map Df))
def aeA(x:Au)(A:List Int)(own:Int):Int:=IntKind.i64.wrap (IntKind.i64.wrap (IntKind.i64.wrap (IntKind.i64.wrap (own+x.flowIn)-mn x.flowIn (Ax (A.map Cc) 0))-x.flowOut)+mn x.flowOut (Ax (A.map Df) 0))
structure ax5(s:Ac)(d:Aq)(hr:Int)(x:Au)(G L:List Int)(O:List Ab):Prop extends cZ s d hr x O where
 flat:∀t∈d.trades,t.frm≠t.to∧(t.back= -1∨0≤t.back)
 fill:∀(i:Nat) c,s.cons[i]?=some c→(Oc c).fill≤abX c (gI (RT s d hr G L O).1 i)
 left:(RG s hr G L O).2.2.length≤1000
def Oa(l:List Int):Prop:=∀w∈l,0≤w∧w≤100000000
theorem Oa.tail{x:Int}{l:List Int}(h:Oa (x::l)):Oa l:=fun w hw=>h w (ai6 _ hw)
theorem Oa.head{x:Int}{l:List Int}(h:Oa (x::l)):0≤x∧x≤100000000:=h x (aeO ..)
theorem Oa.sum:∀{l:List Int},Oa l→0≤l.sum∧l.sum≤100000000*l.length
 | [],_=>by simp
 |x::l,h=>by
  have:=Oa.sum h.tail
  have:=h.head
  simp only[ac5,aaF]
  omega
theorem aeP{l:List Int}{a:Int}(h:Oa l)(hl:l.length≤1000)(h0:0≤a)(h1:a≤1000000000000-100000000*l.length):Ax l a=a+l.sum:=by
 induction l generalizing a with
 |nil=>simp[Ax]
 |cons x l ih=>
  have:=h.head
  simp only[aaF]at hl h1
  rw[Ax,Af (by omega) (by omega),ih h.tail (by omega) (by omega) (by omega),ac5]
  omega
theorem Qu{l:List Int}(h:Oa l)(hl:l.length≤1000):Ax l 0=l.sum:=by
 rw[aeP h hl (by omega) (by omega)];omega
def Gj(amount whole:Int):List Int→Int→List Int
 | [],_=>[]
 |w::rest,so=>(amount*(so+w) / whole-amount*so / whole)::Gj amount whole rest (so+w)
theorem aH{a b c d:Int}(h0:0≤a)(h1:a≤c)(h2:0≤b)(h3:b≤d):0≤a*b∧a*b≤c*d:=
 ⟨Int.mul_nonneg h0 h2,Int.mul_le_mul h1 h3 h2 (by omega)⟩
theorem agJ{x y:Int}(h0:0≤x)(hy:0<y):0≤x / y∧x / y≤x:=⟨Int.ediv_nonneg h0 (by omega),Int.ediv_le_self _ h0⟩
theorem aiG{amount whole:Int}(ha:0≤amount)(ha':amount≤1000000000)(hw:0<whole){l:List Int}{so:Int}(h:Oa l)(hl:l.length≤8)(h0:0≤so)(h1:so≤1000000000-100000000*l.length):Dj amount whole l so (amount*so / whole)=Gj amount whole l so:=by
 induction l generalizing so with
 |nil=>rfl
 |cons w l ih=>
  have hh:=h.head
  simp only[aaF]at hl h1
  have e1:IntKind.i64.wrap (so+w)=so+w:=Af (by omega) (by omega)
  have m1:=aH ha ha' (b:=so+w) (d:=1000000000) (by omega) (by omega)
  have m2:=aH ha ha' (b:=so) (d:=1000000000) (by omega) (by omega)
  have d1:=agJ m1.1 hw
  have d2:=agJ m2.1 hw
  have e2:IntKind.i64.wrap (amount*(so+w))=amount*(so+w):=Af (by omega) (by omega)
  have e3:(amount*(so+w)).tdiv whole=amount*(so+w) / whole:=Int.tdiv_eq_ediv_of_nonneg m1.1
  have e4:IntKind.i64.wrap (amount*(so+w) / whole)=amount*(so+w) / whole:=Af (by omega) (by omega)
  have e5:IntKind.i64.wrap (amount*(so+w) / whole-amount*so / whole)=amount*(so+w) / whole-amount*so / whole:=Af (by omega) (by omega)
  have e6:amount*so / whole+(amount*(so+w) / whole-amount*so / whole)=amount*(so+w) / whole:=by omega
  simp only[Dj,Gj,Eu,hw,if_true,e1,e2,e3,e4,e5,e6]
  rw[ih h.tail (by omega) (by omega) (by omega)]
theorem bZ{amount whole:Int}(ha:0≤amount)(ha':amount≤1000000000)(hw:0<whole){l:List Int}(h:Oa l)(hl:l.length≤8):Dj amount whole l 0 0=Gj amount whole l 0:=by
 have:=aiG ha ha' hw h hl (ai5 0) (by omega)
 simpa using this
theorem Yy{amount whole:Int}(hw:¬0<whole):∀(l:List Int) (so:Int),Dj amount whole l so 0=List.replicate l.length 0
 | [],_=>rfl
 |w::l,so=>by
  simp only[Dj,Eu,hw,if_false,aaF,List.replicate_succ]
  rw[show IntKind.i64.wrap (0+0)=0 from by decide,Yy hw l]
theorem ab1{amount whole so w:Int}(hw:0<whole):(amount*(so+w) / whole-amount*so / whole)*whole-amount*w<whole∧ -whole<(amount*(so+w) / whole-amount*so / whole)*whole-amount*w:=by
 have a1:=am4 (amount*(so+w)) whole
 have a2:=am4 (amount*so) whole
 have b1:=am5 (amount*(so+w)) (by omega:whole≠0)
 have b2:=am5 (amount*so) (by omega:whole≠0)
 have c1:=am6 (amount*(so+w)) hw
 have c2:=am6 (amount*so) hw
 have e:amount*(so+w)=amount*so+amount*w:=Int.mul_add ..
 rw[Int.sub_mul,adA (amount*(so+w) / whole),adA (amount*so / whole)]
 constructor<;>omega
theorem ak7{amount whole so w:Int}(ha:0≤amount)(haw:amount≤whole)(hw:0<whole)(hw0:0≤w):0≤amount*(so+w) / whole-amount*so / whole∧amount*(so+w) / whole-amount*so / whole≤w:=by
 have e:amount*(so+w)=amount*so+amount*w:=Int.mul_add ..
 have p:0≤amount*w:=Int.mul_nonneg ha hw0
 have q:amount*w≤whole*w:=Int.mul_le_mul_of_nonneg_right haw hw0
 have m1:amount*so / whole≤amount*(so+w) / whole:=am8 hw (by omega)
 have m2:amount*(so+w) / whole≤(amount*so+w*whole) / whole:=am8 hw (by rw[adA w];omega)
 rw[Int.add_mul_ediv_right _ _ (by omega)]at m2
 omega
theorem We{amount whole:Int}(ha:0≤amount)(haw:amount≤whole)(hw:0<whole):∀{l:List Int} {so:Int},Oa l→∀{i:Nat} {x w:Int},(Gj amount whole l so)[i]?=some x→l[i]?=some w→0≤x∧x≤w∧x*whole-amount*w<whole∧ -whole<x*whole-amount*w
 | [],_,_,i,x,w,hx,_=>by simp[Gj]at hx
 |y::l,so,h,0,x,w,hx,hw'=>by
  simp only[Gj,List.getElem?_cons_zero,Option.some.injEq]at hx hw'
  subst hx hw'
  have:=ak7 (so:=so) ha haw hw h.head.1
  have:=ab1 (amount:=amount) (so:=so) (w:=y) hw
  exact⟨by omega,by omega,by omega,by omega⟩
 |y::l,so,h,i+1,x,w,hx,hw'=>by
  simp only[Gj,List.getElem?_cons_succ]at hx hw'
  exact We ha haw hw h.tail hx hw'
theorem Hv(amount whole:Int):∀(l:List Int) (so:Int),(Gj amount whole l so).length=l.length
 | [],_=>rfl
 |x::l,so=>by simp[Gj,Hv amount whole l]
theorem jH(amount whole:Int):∀(l:List Int) (so:Int),(Gj amount whole l so).sum=amount*(so+l.sum) / whole-amount*so / whole
 | [],so=>by simp[Gj]
 |w::l,so=>by
  rw[Gj,ac5,jH,ac5,Int.add_assoc so]
  omega
theorem aI{amount:Int}{l:List Int}(hw:0<l.sum):(Gj amount l.sum l 0).sum=amount:=by
 rw[jH];simp[Int.mul_ediv_cancel _ (by omega:l.sum≠0)]
theorem Oa.fz:∀{cs:List Ae} {l:List Int},Oa l→Oa (Ey cs l)
 | [],_,_=>fun w hw=>by simp[Ey]at hw
 |_::_,[],_=>fun w hw=>by simp[Ey]at hw
 |c::cs,x::l,h=>fun w hw=>by
  simp only[Ey,ac4,ai9]at hw
  rcases hw with rfl|hw
  ·have:=h.head;unfold Fz;split<;>omega
  ·exact Oa.fz h.tail w hw
theorem Oa.oz:∀{cs:List Ae} {l:List Int},Oa l→Oa (Pe cs l)
 | [],_,_=>fun w hw=>by simp[Pe]at hw
 |_::_,[],_=>fun w hw=>by simp[Pe]at hw
 |c::cs,x::l,h=>fun w hw=>by
  simp only[Pe,ac4,ai9]at hw
  rcases hw with rfl|hw
  ·have:=h.head;unfold gC;split<;>omega
  ·exact Oa.oz h.tail w hw
theorem kA:∀{cs:List Ae} {l:List Int},l.length=cs.length→(Ey cs l).sum+(Pe cs l).sum=l.sum
 | [],[],_=>rfl
 |c::cs,x::l,h=>by
  have ih:=kA (cs:=cs) (l:=l) (by simpa using h)
  simp only[Ey,Pe,ac4,ac5,Fz,gC]at ih ⊢
  split<;>omega
structure avM(cs:List Ae)(l A:List Int)(m:Int):Prop where
 len:A.length=l.length
 ins:∀{i:Nat} {x w:Int},A[i]?=some x→l[i]?=some w→0≤x∧x≤w
 all:A.sum=min l.sum m
 firm:(Ey cs A).sum<(Ey cs l).sum→(Pe cs A).sum=0
 near:∀{i:Nat} {c:Ae} {x w:Int},cs[i]?=some c→A[i]?=some x→l[i]?=some w→
  (c.firm=true→x*(Ey cs l).sum-min m (Ey cs l).sum*w<max 1 (Ey cs l).sum∧ -(max 1 (Ey cs l).sum)<x*(Ey cs l).sum-min m (Ey cs l).sum*w)∧
  (c.firm=false→x*(Pe cs l).sum-min (max 0 (m-(Ey cs l).sum)) (Pe cs l).sum*w<max 1 (Pe cs l).sum∧ -(max 1 (Pe cs l).sum)<x*(Pe cs l).sum-min (max 0 (m-(Ey cs l).sum)) (Pe cs l).sum*w)
theorem anH:∀{cs:List Ae} {l A:List Int},(∀{i:Nat} {c:Ae} {x w:Int},cs[i]?=some c→A[i]?=some x→l[i]?=some w→c.firm=true→x=w)→l.length=cs.length→A.length=l.length→Ey cs A=Ey cs l
 | [],_,_,_,_,_=>rfl
 |c::cs,w::l,x::A,h,h1,h2=>by
  have ih:=anH (cs:=cs) (l:=l) (A:=A) (fun {i c x w} hc hx hw=>h (i:=i+1) (by simpa using hc) (by simpa using hx) (by simpa using hw)) (by simpa using h1) (by simpa using h2)
  simp only[Ey,ac4]at ih ⊢
  rw[ih]
  congr 1
  unfold Fz
  split
  ·rename_i hf;exact h (i:=0) rfl rfl rfl hf
  ·rfl
 |c::cs,[],_,_,h1,_=>by simp at h1
 |c::cs,_::_,[],_,_,h2=>by simp at h2
theorem zD:∀{cs:List Ae} {A:List Int},(∀{i:Nat} {c:Ae} {x:Int},cs[i]?=some c→A[i]?=some x→c.firm=false→x=0)→(Pe cs A).sum=0
 | [],_,_=>rfl
 |_::_,[],_=>rfl
 |c::cs,x::A,h=>by
  have ih:=zD (cs:=cs) (A:=A) (fun {i c x} hc hx=>h (i:=i+1) (by simpa using hc) (by simpa using hx))
  simp only[Pe,ac4,ac5]at ih ⊢
  rw[ih]
  unfold gC
  split
  ·rfl
  ·rename_i hf;rw[h (i:=0) rfl rfl (by simpa using hf)];rfl
theorem sH{cs:List Ae}{l:List Int}{f:Ae→Int→Int}{i:Nat}{c:Ae}{w:Int}(hc:cs[i]?=some c)(hw:l[i]?=some w):(ac2 f cs l)[i]?=some (f c w):=by simp[ajA,hc,hw]
theorem amK{cs:List Ae}{l:List Int}{m:Int}(hl:l.length=cs.length)(h8:l.length≤8)(ha:Oa l)(hm:0≤m)(hm':m≤800000000):avM cs l (Re cs l m) m:=by
 have hf:=ha.fz (cs:=cs)
 have ho:=ha.oz (cs:=cs)
 have lf:(Ey cs l).length=l.length:=by simp[Ey,hl]
 have lo:(Pe cs l).length=l.length:=by simp[Pe,hl]
 have s1:=Qu ha (by omega)
 have s2:=Qu hf (by omega)
 have s3:=Qu ho (by omega)
 have bf:=hf.sum
 have bo:=ho.sum
 have bl:=ha.sum
 have hfo:=kA hl
 unfold Re
 rw[s1,s2,s3]
 split
 ·rename_i h1
  refine⟨rfl,fun hx hw=>?_,by omega,fun h=>by omega,fun {i c x w} hc hx hw=>?_⟩
  ·rw[hx]at hw;cases hw
   exact⟨(ha _ (ac3 hx)).1,ai5 _⟩
  ·rw[hx]at hw;cases hw
   have e1:min m (Ey cs l).sum=(Ey cs l).sum:=by omega
   have e2:min (max 0 (m-(Ey cs l).sum)) (Pe cs l).sum=(Pe cs l).sum:=by omega
   rw[e1,e2,adA x,adA x]
   exact⟨fun _=>by omega,fun _=>by omega⟩
 ·rename_i h1
  split
  ·rename_i h2
   rw[bZ hm (by omega) (by omega) hf (by omega)]
   have hg:=fun {i:Nat} {x w:Int} hx hw=>We (l:=Ey cs l) (so:=0) hm (by omega:m≤(Ey cs l).sum) (by omega) hf (i:=i) (x:=x) (w:=w) hx hw
   have hz:∀{i:Nat} {c:Ae} {x:Int},cs[i]?=some c→(Gj m (Ey cs l).sum (Ey cs l) 0)[i]?=some x→c.firm=false→x=0:=fun {i c x} hc hx hfm=>by
    have hi:i<l.length:=by
     have:=(ajB.1 hx).1
     rw[Hv,lf]at this;exact this
    obtain⟨w,hw⟩:∃w,l[i]?=some w:=⟨_,aeG hi⟩
    have:=hg hx (sH (f:=Fz) hc hw)
    simp only[Fz,hfm,ai7,if_false]at this
    omega
   refine⟨by rw[Hv,lf],fun {i x w} hx hw=>?_,?_,fun _=>zD hz,fun {i c x w} hc hx hw=>?_⟩
   ·have hi:i<cs.length:=by
     have:=(ajB.1 hw).1;omega
    obtain⟨c,hc⟩:∃c,cs[i]?=some c:=⟨_,aeG hi⟩
    have:=hg hx (sH (f:=Fz) hc hw)
    have hw0:=ha _ (ac3 hw)
    unfold Fz at this
    split at this<;>omega
   ·rw[aI (by omega)];omega
   ·have:=hg hx (sH (f:=Fz) hc hw)
    constructor
    ·intro hfm
     simp only[Fz,hfm,if_true]at this
     rw[Int.min_eq_left (by omega)]
     exact⟨by omega,by omega⟩
    ·intro hfm
     rw[hz hc hx hfm,show min (max 0 (m-(Ey cs l).sum)) (Pe cs l).sum=0 by omega]
     omega
  ·rename_i h2
   have e0:IntKind.i64.wrap (m-(Ey cs l).sum)=m-(Ey cs l).sum:=Af (by omega) (by omega)
   rw[e0,bZ (by omega) (by omega) (by omega) ho (by omega)]
   have hg:=fun {i:Nat} {x w:Int} hx hw=>We (l:=Pe cs l) (so:=0) (by omega:0≤m-(Ey cs l).sum) (by omega:m-(Ey cs l).sum≤(Pe cs l).sum) (by omega) ho (i:=i) (x:=x) (w:=w) hx hw
   have hA:∀{i:Nat} {c:Ae} {x w:Int},cs[i]?=some c→l[i]?=some w→(ac2 Vi (Gj (m-(Ey cs l).sum) (Pe cs l).sum (Pe cs l) 0) (Ey cs l))[i]?=some x→(c.firm=true→x=w)∧(c.firm=false→0≤x∧x≤w∧x*(Pe cs l).sum-(m-(Ey cs l).sum)*w<(Pe cs l).sum∧ -(Pe cs l).sum<x*(Pe cs l).sum-(m-(Ey cs l).sum)*w):=fun {i c x w} hc hw hx=>by
    rw[ajA,sH (f:=Fz) hc hw (cs:=cs) (l:=l) |> (fun h=>(show(Ey cs l)[i]?=some (Fz c w)from h))]at hx
    cases hy:(Gj (m-(Ey cs l).sum) (Pe cs l).sum (Pe cs l) 0)[i]? with
    |none=>rw[hy]at hx;simp at hx
    |some y=>
     rw[hy]at hx
     simp only[Option.some.injEq]at hx
     have:=hg hy (sH (f:=gC) hc hw)
     have hw0:=ha _ (ac3 hw)
     subst hx
     constructor
     ·intro hfm
      simp only[gC,hfm,if_true]at this
      simp only[Vi,Fz,hfm,if_true]
      rw[Af (by omega) (by omega)];omega
     ·intro hfm
      simp only[gC,hfm,ai7,if_false]at this
      simp only[Vi,Fz,hfm,ai7,if_false]
      rw[Af (by omega) (by omega),Int.add_zero]
      exact this
   have hlen:(ac2 Vi (Gj (m-(Ey cs l).sum) (Pe cs l).sum (Pe cs l) 0) (Ey cs l)).length=l.length:=by simp[Hv,lf,lo]
   have hfz:=anH (cs:=cs) (l:=l) (A:=ac2 Vi (Gj (m-(Ey cs l).sum) (Pe cs l).sum (Pe cs l) 0) (Ey cs l)) (fun {i c x w} hc hx hw hfm=>(hA hc hw hx).1 hfm) hl hlen
   have hoz:Pe cs (ac2 Vi (Gj (m-(Ey cs l).sum) (Pe cs l).sum (Pe cs l) 0) (Ey cs l))=Gj (m-(Ey cs l).sum) (Pe cs l).sum (Pe cs l) 0:=by
    refine List.ext_getElem? fun i=>?_
    by_cases hi:i<l.length
    ·obtain⟨w,hw⟩:∃w,l[i]?=some w:=⟨_,aeG hi⟩
     obtain⟨c,hc⟩:∃c,cs[i]?=some c:=⟨_,aeG (by omega)⟩
     obtain⟨y,hy⟩:∃y,(Gj (m-(Ey cs l).sum) (Pe cs l).sum (Pe cs l) 0)[i]?=some y:=⟨_,aeG (by rw[Hv,lo];exact hi)⟩
     have:=hg hy (sH (f:=gC) hc hw)
     have hw0:=ha _ (ac3 hw)
     have hz:(ac2 Vi (Gj (m-(Ey cs l).sum) (Pe cs l).sum (Pe cs l) 0) (Ey cs l))[i]?=some (Vi y (Fz c w)):=by
      rw[ajA,hy,show(Ey cs l)[i]?=some (Fz c w)from sH hc hw]
     rw[hy,show(Pe cs _)[i]?=some (gC c (Vi y (Fz c w)))from sH hc hz]
     unfold gC at this ⊢
     split at this
     ·rename_i hfm;rw[if_pos hfm];congr 1;omega
     ·rename_i hfm
      rw[if_neg hfm]
      simp only[Vi,Fz,hfm,ai7,if_false]
      rw[Af (by omega) (by omega),Int.add_zero]
    ·rw[anC (by simp[Pe,Hv,lo,lf];omega),anC (by rw[Hv,lo];omega)]
   have hs:=kA (cs:=cs) (l:=ac2 Vi (Gj (m-(Ey cs l).sum) (Pe cs l).sum (Pe cs l) 0) (Ey cs l)) (by omega)
   rw[hfz,hoz,aI (by omega)]at hs
   refine⟨hlen,fun {i x w} hx hw=>?_,by omega,fun h=>by rw[hfz]at h;omega,fun {i c x w} hc hx hw=>?_⟩
   ·have hi:i<cs.length:=by
     have:=(ajB.1 hw).1;omega
    obtain⟨c,hc⟩:∃c,cs[i]?=some c:=⟨_,aeG hi⟩
    have hq:=hA hc hw hx
    have hw0:=ha _ (ac3 hw)
    cases hfm:c.firm with
    |true=>have:=hq.1 hfm;omega
    |false=>have:=hq.2 hfm;omega
   ·have hq:=hA hc hw hx
    constructor
    ·intro hfm
     rw[hq.1 hfm,Int.min_eq_right (by omega),adA w]
     omega
    ·intro hfm
     have:=hq.2 hfm
     rw[show min (max 0 (m-(Ey cs l).sum)) (Pe cs l).sum=m-(Ey cs l).sum by omega]
     exact⟨by omega,by omega⟩
end Go.Proofs.YtdbiogihimdpcaaGreatDoor
