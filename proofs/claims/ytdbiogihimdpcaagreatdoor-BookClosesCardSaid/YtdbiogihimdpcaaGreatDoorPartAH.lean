/- The functions of the layer, walked. -/
import Derived.Test.YtdbiogihimdpcaaGreatDoorPartAG
import Derived.Test.YtdbiogihimdpcaaGreatDoorPartAB
import Derived.Test.YtdbiogihimdpcaaGreatDoorPartAC
open List renaming length_cons→aaE,map_nil→abI,map_cons→ab1,length_map→acM,getElem?_set→acT,length_set→acZ,length_nil→adA,zipWith→adF,mem_of_getElem?→adI,zipWith_cons_cons→adJ,sum_cons→adK,getElem?_eq_getElem→adM,mem_cons_self→adN,mem_cons_of_mem→aiK,all_cons→ajQ,mem_cons→ajR,getElem?_zipWith→ajS,getElem?_eq_some_iff→ajT,length_pos_iff→ajU,all_eq_true→alB,getElem?_eq_none→anV
open Bool renaming and_eq_true→abH,false_eq_true→ai4,eq_iff_iff→ajV
open Int renaming mul_comm→adL,lt_irrefl→adO,le_refl→adP,emod_add_mul_ediv→anN,emod_nonneg→anO,emod_lt_of_pos→anP,ediv_le_ediv→anS
set_option linter.unusedSimpArgs false
set_option linter.unusedVariables false
namespace Go.Proofs.YtdbiogihimdpcaaGreatDoor
open Go.Ev Go
set_option maxRecDepth 100000
set_option maxHeartbeats 16000000
def stO(n:Nat)(hr own fuel:Int)(ov wv av fv rv:AV):Ec:=.ret (.tup [.agg [.int .i64 hr,.slr 1 0 0 n,.int .i64 own,.int .i64 fuel,.slr 1 1 0 n,ov],.agg [wv,av,fv,rv]])
def iF(w:Bool)(l:List Int):CB:=.live 1 true w (l.map iv)
def lv5(w:Bool)(l:List Ab):CB:=.live 5 true w (l.map Ab.cells)
def xR(n:Nat)(hr own fuel:Int)(G L:List Int)(O:List Ab)(R W A F:List Int)(o:Ec)(h:Aa):Prop:=
 ∃w1 w2 w3 w4 w5 w6 w7:Bool,
  (O=[]∧R=[]∧o=stO n hr own fuel .nils (.slr 1 2 0 n) (.slr 1 3 0 n) (.slr 1 4 0 n) .nils∧h=[iF w1 G,iF w2 L,iF w3 W,iF w4 A,iF w5 F])∨
  (R=[]∧o=stO n hr own fuel (.slr 5 2 0 O.length) (.slr 1 3 0 n) (.slr 1 4 0 n) (.slr 1 5 0 n) .nils∧h=[iF w1 G,iF w2 L,lv5 w6 O,iF w3 W,iF w4 A,iF w5 F])∨
  (O=[]∧R≠[]∧o=stO n hr own fuel .nils (.slr 1 2 0 n) (.slr 1 3 0 n) (.slr 1 4 0 n) (.slr 1 5 0 R.length)∧h=[iF w1 G,iF w2 L,iF w3 W,iF w4 A,iF w5 F,iF w7 R])∨
  (R≠[]∧o=stO n hr own fuel (.slr 5 2 0 O.length) (.slr 1 3 0 n) (.slr 1 4 0 n) (.slr 1 5 0 n) (.slr 1 6 0 R.length)∧h=[iF w1 G,iF w2 L,lv5 w6 O,iF w3 W,iF w4 A,iF w5 F,iF w7 R])
theorem akS{s:Ac}{d:Ao}{hr own fuel:Int}{x:Aw}{G L:List Int}{O:List Ab}{nG nL nO:Bool}(K:dW s d hr x O)(hG:G.length=s.cons.length)(hL:L.length=s.cons.length)(hO:O=[]∧nO=false):
 Vo Bo 64 [.agg s.cells,.agg [.int .i64 hr,Bj 1 true nG (G.map iv),.int .i64 own,.int .i64 fuel,Bj 1 true nL (L.map iv),Bj 5 true nO (O.map Ab.cells)],.agg d.cells] []
  (xR s.cons.length (IntKind.i64.wrap (hr+1)) (aH s d hr x G L O own) (G6 s d hr x G L O fuel).2 (G6 s d hr x G L O fuel).1 (L7 s d hr x G L O) (T2 s d hr G L O).2.1 (T2 s d hr G L O).2.2 (W3 s d hr G L O) (A4 s d hr x G L O) (F5 s d hr x G L O)):=by
 have hlen:=K.len
 have hp:0<s.cons.length:=ajU.2 K.ne
 have hGn:G≠[]:=fun e=>by rw[e]at hG;simp at hG;omega
 have hLn:L≠[]:=fun e=>by rw[e]at hL;simp at hL;omega
 obtain⟨hO1,rfl⟩:=hO
 have hsl:Bj 5 true false (O.map Ab.cells)=.nils:=by rw[hO1];rfl
 have hc1:=Ri (l:=G) (by omega) hGn
 have hc2:=Ri (l:=L) (by omega) hLn
 have hct:Bo.call (.fn 103) [.nils] []=some (.ret .nils,[]):=jS
 have hb7:=nX 7
 simp only[qQ,vF,ab1,abI]at hb7
 rw[hG]at hc1
 rw[hL]at hc2
 rw[kC (n:=1) (fl:=true) (nn:=nG) (eE hGn),kC (n:=1) (fl:=true) (nn:=nL) (eE hLn)]
 refine Nk rfl Tryz.func64 rfl rfl ?_
 simp only[Tryz.f64]
 (have hb:=trivial;with_reducible repeat' (first|simp only[hb,Vc.down,seval,bA.down,hc1,hc2,hct,hsl,Ao.cells,hb7,abI]|refine Aj ?_ ?_<;>intro hb|refine fd ?_|fail))
 refine Dk (Sr 66 vF (fun i (_:Unit) t h=>t 8=.ptr 7 0 0∧t 6=.ptr 3 0 0∧t 7=.ptr 4 0 0∧t 42=.agg (vF.map (qQ 7))∧t 43=.int .i64 i∧anH h∧StS s d hr own fuel x G L O 7 i h) (fun _ _=>()) (fun _ e t h=>e=.exit 0∧t 8=.ptr 7 0 0∧t 6=.ptr 3 0 0∧t 7=.ptr 4 0 0∧anH h∧StS s d hr own fuel x G L O 7 7 h) ?_ ?_ () _ _ ?_) (fun e t h hk=>?_)
 ·rintro _ t h Q' kQ ⟨h8,h6,h7,h42,h43,hF,hS⟩
  rw[show vF.length=7 from rfl]at h43 hS
  have h77:decide (((7:Nat):Int)<7)=false:=by decide
  (have hb:=trivial;with_reducible repeat' (first|simp only[hb,Vc.down,seval,bA.down,h43,h77]|refine Aj ?_ ?_<;>intro hb|refine fd ?_|fail))
  exact kQ _ _ _ ⟨rfl,by simp[up,h8],by simp[up,h6],by simp[up,h7],hF,hS⟩
 ·rintro f rest i _ t h J Q' kJ kQ hx hi ⟨h8,h6,h7,h42,h43,hF,hS⟩
  have hi7:i<7:=hi
  have hd:decide ((i:Int)<7)=true:=decide_eq_true (by omega)
  have hw:IntKind.i64.wrap ((i:Int)+1)=((i+1:Nat):Int):=Ak (n:=7) hi7 (by unfold maxLen;omega)
  obtain⟨es,e,hB,hS'⟩:=ag4 K hx hS
  have hii:((i:Int)<7)=True:=eq_true (by omega)
  (have hb:=trivial;with_reducible repeat' (first|simp only[hb,Vc.down,seval,bA.down,h42,h43,hd,hw,arP,hii,Nat.mul_one,hx,e]|refine Aj ?_ ?_<;>intro hb|refine fd ?_|fail))
  refine Aq (kJ _ _ () ⟨?_,?_,?_,?_,?_,?_,hS'⟩ rfl)
  ·simp[up,h8]
  ·simp[up,h6]
  ·simp[up,h7]
  ·simp[up,h42,qQ]
  ·simp[up]
  ·exact⟨by obtain⟨⟨fl,w,hw1⟩,_⟩:=hF;exact⟨fl,w,by rw[hB 3 (by omega)];exact hw1⟩,by obtain⟨_,fl,w,hw1⟩:=hF;exact⟨fl,w,by rw[hB 4 (by omega)];exact hw1⟩⟩
 ·refine⟨by simp[up],by simp[up],by simp[up],by simp[up,vF,qQ],by simp[up],⟨⟨_,_,rfl⟩,⟨_,_,rfl⟩⟩,?_⟩
  exact⟨by omega,hG,hL,_,_,_,_,_,rfl,rfl,rfl,.inl ⟨hO1,rfl⟩,.inl ⟨rfl,rfl⟩⟩
 ·obtain⟨rfl,h8,h6,h7,⟨⟨f3,v3,h3⟩,f4,v4,h4⟩,H⟩:=hk
  obtain⟨r,hqr⟩:∃r:Nat,r=7:=⟨_,rfl⟩
  replace h8:t 8=.ptr r 0 0:=by rw[hqr];exact h8
  replace H:StS s d hr own fuel x G L O r 7 h:=by rw[hqr];exact H
  obtain⟨hr6,hG',hL',hWl,hAl,hFl,w,w1,w2,ov,rv,iw,ia,jf,w4,w6,w7,hR,hg,h6b,hov,hrv,hw,hw6,ha,ha6,hf,hf6,d01,d02,d12⟩:=H
  clear hqr
  have hsr:Oy r 7 r=1000:=by unfold Oy;rw[if_neg (by omega)];omega
  have l1:=Eb hR
  have y1:=eq_true l1
  have y2:=eq_true (Eb h3)
  have y3:=eq_true (Eb h4)
  have z1:(r=3)=False:=eq_false (by omega)
  have z2:(r=4)=False:=eq_false (by omega)
  have z3:∀k,6<k→(3=k)=False:=fun k hk=>eq_false (by omega)
  have z4:∀k,6<k→(4=k)=False:=fun k hk=>eq_false (by omega)
  have zr:=z3 r hr6
  have zr':=z4 r hr6
  have zw:=z3 iw hw6
  have zw':=z4 iw hw6
  have za:=z3 ia ha6
  have za':=z4 ia ha6
  have zf:=z3 jf hf6
  have zf':=z4 jf hf6
  rcases hov with⟨hO2,rfl⟩|⟨io,w3,rfl,hio,hio6⟩<;>rcases hrv with⟨hR2,rfl⟩|⟨iq,w5,hRn,rfl,hiq,hiq6,hqx⟩
  ·have n_0_1:(r=5)=False:=eq_false (by omega)
   have n_0_2:(r=6)=False:=eq_false (by omega)
   have n_0_3:(r=iw)=False:=eq_false fun e=>by subst e;rw[hR]at hw;simp at hw
   have qn_0_3:r≠iw:=of_eq_false n_0_3
   have n_0_4:(r=ia)=False:=eq_false fun e=>by subst e;rw[hR]at ha;simp at ha
   have qn_0_4:r≠ia:=of_eq_false n_0_4
   have n_0_5:(r=jf)=False:=eq_false fun e=>by subst e;rw[hR]at hf;simp at hf
   have qn_0_5:r≠jf:=of_eq_false n_0_5
   have n_1_3:(5=iw)=False:=eq_false (by omega)
   have n_1_4:(5=ia)=False:=eq_false (by omega)
   have n_1_5:(5=jf)=False:=eq_false (by omega)
   have n_2_3:(6=iw)=False:=eq_false (by omega)
   have n_2_4:(6=ia)=False:=eq_false (by omega)
   have n_2_5:(6=jf)=False:=eq_false (by omega)
   have n_3_4:(iw=ia)=False:=eq_false d01
   have qn_3_4:iw≠ia:=of_eq_false n_3_4
   have n_3_5:(iw=jf)=False:=eq_false d02
   have qn_3_5:iw≠jf:=of_eq_false n_3_5
   have n_4_5:(ia=jf)=False:=eq_false d12
   have qn_4_5:ia≠jf:=of_eq_false n_4_5
   (have hb:=trivial;with_reducible repeat' (first|simp only[hb,Vc.down,seval,bA.down,h8,h6,h7,h3,h4,acT,acZ,hR,hg,h6b,hw,ha,hf,n_0_1,n_0_2,n_0_3,n_0_4,n_0_5,n_1_3,n_1_4,n_1_5,n_2_3,n_2_4,n_2_5,n_3_4,n_3_5,n_4_5,y1,y2,y3,z1,z2,zr,zr',zw,zw',za,za',zf,zf']|refine Aj ?_ ?_<;>intro hb|((refine Hh (r) 7 ?_ ?_);(simp (discharger:=decide) only[He,Et,ab1,abI,Dp,Gw,Gz,Hg,Gv,Dj,Eu,Eo,aaE,adA,hsr];kernel_rfl);intro _)|refine jH ?_|fail))
   exact⟨w1,w2,w4,w6,w7,false,false,.inl ⟨hO2,hR2,rfl,rfl⟩⟩
  ·have n_0_1:(r=5)=False:=eq_false (by omega)
   have n_0_2:(r=6)=False:=eq_false (by omega)
   have n_0_3:(r=iw)=False:=eq_false fun e=>by subst e;rw[hR]at hw;simp at hw
   have qn_0_3:r≠iw:=of_eq_false n_0_3
   have n_0_4:(r=ia)=False:=eq_false fun e=>by subst e;rw[hR]at ha;simp at ha
   have qn_0_4:r≠ia:=of_eq_false n_0_4
   have n_0_5:(r=jf)=False:=eq_false fun e=>by subst e;rw[hR]at hf;simp at hf
   have qn_0_5:r≠jf:=of_eq_false n_0_5
   have n_0_6:(r=iq)=False:=eq_false fun e=>by subst e;rw[hR]at hiq;simp at hiq
   have qn_0_6:r≠iq:=of_eq_false n_0_6
   have n_1_3:(5=iw)=False:=eq_false (by omega)
   have n_1_4:(5=ia)=False:=eq_false (by omega)
   have n_1_5:(5=jf)=False:=eq_false (by omega)
   have n_1_6:(5=iq)=False:=eq_false (by omega)
   have n_2_3:(6=iw)=False:=eq_false (by omega)
   have n_2_4:(6=ia)=False:=eq_false (by omega)
   have n_2_5:(6=jf)=False:=eq_false (by omega)
   have n_2_6:(6=iq)=False:=eq_false (by omega)
   have n_3_4:(iw=ia)=False:=eq_false d01
   have qn_3_4:iw≠ia:=of_eq_false n_3_4
   have n_3_5:(iw=jf)=False:=eq_false d02
   have qn_3_5:iw≠jf:=of_eq_false n_3_5
   have n_3_6:(iw=iq)=False:=eq_false fun e=>by subst e;simp at hqx
   have qn_3_6:iw≠iq:=of_eq_false n_3_6
   have n_4_5:(ia=jf)=False:=eq_false d12
   have qn_4_5:ia≠jf:=of_eq_false n_4_5
   have n_4_6:(ia=iq)=False:=eq_false fun e=>by subst e;simp at hqx
   have qn_4_6:ia≠iq:=of_eq_false n_4_6
   have n_5_6:(jf=iq)=False:=eq_false fun e=>by subst e;simp at hqx
   have qn_5_6:jf≠iq:=of_eq_false n_5_6
   have l5:=Eb hiq
   have zq:=z3 iq hiq6
   have zq':=z4 iq hiq6
   (have hb:=trivial;with_reducible repeat' (first|simp only[hb,Vc.down,seval,bA.down,h8,h6,h7,h3,h4,acT,acZ,hR,hg,h6b,hw,ha,hf,hiq,n_0_1,n_0_2,n_0_3,n_0_4,n_0_5,n_0_6,n_1_3,n_1_4,n_1_5,n_1_6,n_2_3,n_2_4,n_2_5,n_2_6,n_3_4,n_3_5,n_3_6,n_4_5,n_4_6,n_5_6,y1,y2,y3,z1,z2,zr,zr',zw,zw',za,za',zf,zf',zq,zq']|refine Aj ?_ ?_<;>intro hb|((refine Hh (r) 7 ?_ ?_);(simp (discharger:=decide) only[He,Et,ab1,abI,Dp,Gw,Gz,Hg,Gv,Dj,Eu,Eo,aaE,adA,hsr];kernel_rfl);intro _)|refine jH ?_|fail))
   exact⟨w1,w2,w4,w6,w7,false,w5,.inr (.inr (.inl ⟨hO2,hRn,rfl,rfl⟩))⟩
  ·have n_0_1:(r=5)=False:=eq_false (by omega)
   have n_0_2:(r=6)=False:=eq_false (by omega)
   have n_0_3:(r=io)=False:=eq_false fun e=>by subst e;rw[hR]at hio;simp at hio
   have qn_0_3:r≠io:=of_eq_false n_0_3
   have n_0_4:(r=iw)=False:=eq_false fun e=>by subst e;rw[hR]at hw;simp at hw
   have qn_0_4:r≠iw:=of_eq_false n_0_4
   have n_0_5:(r=ia)=False:=eq_false fun e=>by subst e;rw[hR]at ha;simp at ha
   have qn_0_5:r≠ia:=of_eq_false n_0_5
   have n_0_6:(r=jf)=False:=eq_false fun e=>by subst e;rw[hR]at hf;simp at hf
   have qn_0_6:r≠jf:=of_eq_false n_0_6
   have n_1_3:(5=io)=False:=eq_false (by omega)
   have n_1_4:(5=iw)=False:=eq_false (by omega)
   have n_1_5:(5=ia)=False:=eq_false (by omega)
   have n_1_6:(5=jf)=False:=eq_false (by omega)
   have n_2_3:(6=io)=False:=eq_false (by omega)
   have n_2_4:(6=iw)=False:=eq_false (by omega)
   have n_2_5:(6=ia)=False:=eq_false (by omega)
   have n_2_6:(6=jf)=False:=eq_false (by omega)
   have n_3_4:(io=iw)=False:=eq_false fun e=>by subst e;rw[hio]at hw;simp at hw
   have qn_3_4:io≠iw:=of_eq_false n_3_4
   have n_3_5:(io=ia)=False:=eq_false fun e=>by subst e;rw[hio]at ha;simp at ha
   have qn_3_5:io≠ia:=of_eq_false n_3_5
   have n_3_6:(io=jf)=False:=eq_false fun e=>by subst e;rw[hio]at hf;simp at hf
   have qn_3_6:io≠jf:=of_eq_false n_3_6
   have n_4_5:(iw=ia)=False:=eq_false d01
   have qn_4_5:iw≠ia:=of_eq_false n_4_5
   have n_4_6:(iw=jf)=False:=eq_false d02
   have qn_4_6:iw≠jf:=of_eq_false n_4_6
   have n_5_6:(ia=jf)=False:=eq_false d12
   have qn_5_6:ia≠jf:=of_eq_false n_5_6
   have l4:=Eb hio
   have zo:=z3 io hio6
   have zo':=z4 io hio6
   (have hb:=trivial;with_reducible repeat' (first|simp only[hb,Vc.down,seval,bA.down,h8,h6,h7,h3,h4,acT,acZ,hR,hg,h6b,hio,hw,ha,hf,n_0_1,n_0_2,n_0_3,n_0_4,n_0_5,n_0_6,n_1_3,n_1_4,n_1_5,n_1_6,n_2_3,n_2_4,n_2_5,n_2_6,n_3_4,n_3_5,n_3_6,n_4_5,n_4_6,n_5_6,y1,y2,y3,z1,z2,zr,zr',zw,zw',za,za',zf,zf',zo,zo']|refine Aj ?_ ?_<;>intro hb|((refine Hh (r) 7 ?_ ?_);(simp (discharger:=decide) only[He,Et,ab1,abI,Dp,Gw,Gz,Hg,Gv,Dj,Eu,Eo,aaE,adA,hsr];kernel_rfl);intro _)|refine jH ?_|fail))
   exact⟨w1,w2,w4,w6,w7,w3,false,.inr (.inl ⟨hR2,rfl,rfl⟩)⟩
  ·have n_0_1:(r=5)=False:=eq_false (by omega)
   have n_0_2:(r=6)=False:=eq_false (by omega)
   have n_0_3:(r=io)=False:=eq_false fun e=>by subst e;rw[hR]at hio;simp at hio
   have qn_0_3:r≠io:=of_eq_false n_0_3
   have n_0_4:(r=iw)=False:=eq_false fun e=>by subst e;rw[hR]at hw;simp at hw
   have qn_0_4:r≠iw:=of_eq_false n_0_4
   have n_0_5:(r=ia)=False:=eq_false fun e=>by subst e;rw[hR]at ha;simp at ha
   have qn_0_5:r≠ia:=of_eq_false n_0_5
   have n_0_6:(r=jf)=False:=eq_false fun e=>by subst e;rw[hR]at hf;simp at hf
   have qn_0_6:r≠jf:=of_eq_false n_0_6
   have n_0_7:(r=iq)=False:=eq_false fun e=>by subst e;rw[hR]at hiq;simp at hiq
   have qn_0_7:r≠iq:=of_eq_false n_0_7
   have n_1_3:(5=io)=False:=eq_false (by omega)
   have n_1_4:(5=iw)=False:=eq_false (by omega)
   have n_1_5:(5=ia)=False:=eq_false (by omega)
   have n_1_6:(5=jf)=False:=eq_false (by omega)
   have n_1_7:(5=iq)=False:=eq_false (by omega)
   have n_2_3:(6=io)=False:=eq_false (by omega)
   have n_2_4:(6=iw)=False:=eq_false (by omega)
   have n_2_5:(6=ia)=False:=eq_false (by omega)
   have n_2_6:(6=jf)=False:=eq_false (by omega)
   have n_2_7:(6=iq)=False:=eq_false (by omega)
   have n_3_4:(io=iw)=False:=eq_false fun e=>by subst e;rw[hio]at hw;simp at hw
   have qn_3_4:io≠iw:=of_eq_false n_3_4
   have n_3_5:(io=ia)=False:=eq_false fun e=>by subst e;rw[hio]at ha;simp at ha
   have qn_3_5:io≠ia:=of_eq_false n_3_5
   have n_3_6:(io=jf)=False:=eq_false fun e=>by subst e;rw[hio]at hf;simp at hf
   have qn_3_6:io≠jf:=of_eq_false n_3_6
   have n_3_7:(io=iq)=False:=eq_false fun e=>by subst e;rw[hio]at hiq;simp at hiq
   have qn_3_7:io≠iq:=of_eq_false n_3_7
   have n_4_5:(iw=ia)=False:=eq_false d01
   have qn_4_5:iw≠ia:=of_eq_false n_4_5
   have n_4_6:(iw=jf)=False:=eq_false d02
   have qn_4_6:iw≠jf:=of_eq_false n_4_6
   have n_4_7:(iw=iq)=False:=eq_false fun e=>by subst e;simp at hqx
   have qn_4_7:iw≠iq:=of_eq_false n_4_7
   have n_5_6:(ia=jf)=False:=eq_false d12
   have qn_5_6:ia≠jf:=of_eq_false n_5_6
   have n_5_7:(ia=iq)=False:=eq_false fun e=>by subst e;simp at hqx
   have qn_5_7:ia≠iq:=of_eq_false n_5_7
   have n_6_7:(jf=iq)=False:=eq_false fun e=>by subst e;simp at hqx
   have qn_6_7:jf≠iq:=of_eq_false n_6_7
   have l4:=Eb hio
   have l5:=Eb hiq
   have zo:=z3 io hio6
   have zo':=z4 io hio6
   have zq:=z3 iq hiq6
   have zq':=z4 iq hiq6
   (have hb:=trivial;with_reducible repeat' (first|simp only[hb,Vc.down,seval,bA.down,h8,h6,h7,h3,h4,acT,acZ,hR,hg,h6b,hio,hw,ha,hf,hiq,n_0_1,n_0_2,n_0_3,n_0_4,n_0_5,n_0_6,n_0_7,n_1_3,n_1_4,n_1_5,n_1_6,n_1_7,n_2_3,n_2_4,n_2_5,n_2_6,n_2_7,n_3_4,n_3_5,n_3_6,n_3_7,n_4_5,n_4_6,n_4_7,n_5_6,n_5_7,n_6_7,y1,y2,y3,z1,z2,zr,zr',zw,zw',za,za',zf,zf',zo,zo',zq,zq']|refine Aj ?_ ?_<;>intro hb|((refine Hh (r) 7 ?_ ?_);(simp (discharger:=decide) only[He,Et,ab1,abI,Dp,Gw,Gz,Hg,Gv,Dj,Eu,Eo,aaE,adA,hsr];kernel_rfl);intro _)|refine jH ?_|fail))
   exact⟨w1,w2,w4,w6,w7,w3,w5,.inr (.inr (.inr ⟨hRn,rfl,rfl⟩))⟩
theorem anI{s:Ac}{d:Ao}{hr own fuel:Int}{x:Aw}{G L:List Int}{O:List Ab}{nG nL nO:Bool}(K:dW s d hr x O)(hG:G.length=s.cons.length)(hL:L.length=s.cons.length)(hO:¬(O=[]∧nO=false)):
 Vo Bo 64 [.agg s.cells,.agg [.int .i64 hr,Bj 1 true nG (G.map iv),.int .i64 own,.int .i64 fuel,Bj 1 true nL (L.map iv),Bj 5 true nO (O.map Ab.cells)],.agg d.cells] []
  (xR s.cons.length (IntKind.i64.wrap (hr+1)) (aH s d hr x G L O own) (G6 s d hr x G L O fuel).2 (G6 s d hr x G L O fuel).1 (L7 s d hr x G L O) (T2 s d hr G L O).2.1 (T2 s d hr G L O).2.2 (W3 s d hr G L O) (A4 s d hr x G L O) (F5 s d hr x G L O)):=by
 have hlen:=K.len
 have hp:0<s.cons.length:=ajU.2 K.ne
 have hGn:G≠[]:=fun e=>by rw[e]at hG;simp at hG;omega
 have hLn:L≠[]:=fun e=>by rw[e]at hL;simp at hL;omega
 skip
 have hc1:=Ri (l:=G) (by omega) hGn
 have hc2:=Ri (l:=L) (by omega) hLn
 have hct:=mW (l:=O) (nn:=nO) K.owed hO
 have hb7:=nX 8
 simp only[qQ,vF,ab1,abI]at hb7
 rw[hG]at hc1
 rw[hL]at hc2
 rw[kC (n:=1) (fl:=true) (nn:=nG) (eE hGn),kC (n:=1) (fl:=true) (nn:=nL) (eE hLn)]
 refine Nk rfl Tryz.func64 rfl rfl ?_
 simp only[Tryz.f64]
 (have hb:=trivial;with_reducible repeat' (first|simp only[hb,Vc.down,seval,bA.down,hc1,hc2,hct,hct,Ao.cells,hb7,abI]|refine Aj ?_ ?_<;>intro hb|refine fd ?_|fail))
 refine Dk (Sr 66 vF (fun i (_:Unit) t h=>t 8=.ptr 8 0 0∧t 6=.ptr 3 0 0∧t 7=.ptr 4 0 0∧t 42=.agg (vF.map (qQ 8))∧t 43=.int .i64 i∧anH h∧StS s d hr own fuel x G L O 8 i h) (fun _ _=>()) (fun _ e t h=>e=.exit 0∧t 8=.ptr 8 0 0∧t 6=.ptr 3 0 0∧t 7=.ptr 4 0 0∧anH h∧StS s d hr own fuel x G L O 8 7 h) ?_ ?_ () _ _ ?_) (fun e t h hk=>?_)
 ·rintro _ t h Q' kQ ⟨h8,h6,h7,h42,h43,hF,hS⟩
  rw[show vF.length=7 from rfl]at h43 hS
  have h77:decide (((7:Nat):Int)<7)=false:=by decide
  (have hb:=trivial;with_reducible repeat' (first|simp only[hb,Vc.down,seval,bA.down,h43,h77]|refine Aj ?_ ?_<;>intro hb|refine fd ?_|fail))
  exact kQ _ _ _ ⟨rfl,by simp[up,h8],by simp[up,h6],by simp[up,h7],hF,hS⟩
 ·rintro f rest i _ t h J Q' kJ kQ hx hi ⟨h8,h6,h7,h42,h43,hF,hS⟩
  have hi7:i<7:=hi
  have hd:decide ((i:Int)<7)=true:=decide_eq_true (by omega)
  have hw:IntKind.i64.wrap ((i:Int)+1)=((i+1:Nat):Int):=Ak (n:=7) hi7 (by unfold maxLen;omega)
  obtain⟨es,e,hB,hS'⟩:=ag4 K hx hS
  have hii:((i:Int)<7)=True:=eq_true (by omega)
  (have hb:=trivial;with_reducible repeat' (first|simp only[hb,Vc.down,seval,bA.down,h42,h43,hd,hw,arP,hii,Nat.mul_one,hx,e]|refine Aj ?_ ?_<;>intro hb|refine fd ?_|fail))
  refine Aq (kJ _ _ () ⟨?_,?_,?_,?_,?_,?_,hS'⟩ rfl)
  ·simp[up,h8]
  ·simp[up,h6]
  ·simp[up,h7]
  ·simp[up,h42,qQ]
  ·simp[up]
  ·exact⟨by obtain⟨⟨fl,w,hw1⟩,_⟩:=hF;exact⟨fl,w,by rw[hB 3 (by omega)];exact hw1⟩,by obtain⟨_,fl,w,hw1⟩:=hF;exact⟨fl,w,by rw[hB 4 (by omega)];exact hw1⟩⟩
 ·refine⟨by simp[up],by simp[up],by simp[up],by simp[up,vF,qQ],by simp[up],⟨⟨_,_,rfl⟩,⟨_,_,rfl⟩⟩,?_⟩
  exact⟨by omega,hG,hL,_,_,_,_,_,rfl,rfl,rfl,.inr ⟨7,false,rfl,rfl,by omega⟩,.inl ⟨rfl,rfl⟩⟩
 ·obtain⟨rfl,h8,h6,h7,⟨⟨f3,v3,h3⟩,f4,v4,h4⟩,H⟩:=hk
  obtain⟨r,hqr⟩:∃r:Nat,r=8:=⟨_,rfl⟩
  replace h8:t 8=.ptr r 0 0:=by rw[hqr];exact h8
  replace H:StS s d hr own fuel x G L O r 7 h:=by rw[hqr];exact H
  obtain⟨hr6,hG',hL',hWl,hAl,hFl,w,w1,w2,ov,rv,iw,ia,jf,w4,w6,w7,hR,hg,h6b,hov,hrv,hw,hw6,ha,ha6,hf,hf6,d01,d02,d12⟩:=H
  clear hqr
  have hsr:Oy r 7 r=1000:=by unfold Oy;rw[if_neg (by omega)];omega
  have l1:=Eb hR
  have y1:=eq_true l1
  have y2:=eq_true (Eb h3)
  have y3:=eq_true (Eb h4)
  have z1:(r=3)=False:=eq_false (by omega)
  have z2:(r=4)=False:=eq_false (by omega)
  have z3:∀k,6<k→(3=k)=False:=fun k hk=>eq_false (by omega)
  have z4:∀k,6<k→(4=k)=False:=fun k hk=>eq_false (by omega)
  have zr:=z3 r hr6
  have zr':=z4 r hr6
  have zw:=z3 iw hw6
  have zw':=z4 iw hw6
  have za:=z3 ia ha6
  have za':=z4 ia ha6
  have zf:=z3 jf hf6
  have zf':=z4 jf hf6
  rcases hov with⟨hO2,rfl⟩|⟨io,w3,rfl,hio,hio6⟩<;>rcases hrv with⟨hR2,rfl⟩|⟨iq,w5,hRn,rfl,hiq,hiq6,hqx⟩
  ·have n_0_1:(r=5)=False:=eq_false (by omega)
   have n_0_2:(r=6)=False:=eq_false (by omega)
   have n_0_3:(r=iw)=False:=eq_false fun e=>by subst e;rw[hR]at hw;simp at hw
   have qn_0_3:r≠iw:=of_eq_false n_0_3
   have n_0_4:(r=ia)=False:=eq_false fun e=>by subst e;rw[hR]at ha;simp at ha
   have qn_0_4:r≠ia:=of_eq_false n_0_4
   have n_0_5:(r=jf)=False:=eq_false fun e=>by subst e;rw[hR]at hf;simp at hf
   have qn_0_5:r≠jf:=of_eq_false n_0_5
   have n_1_3:(5=iw)=False:=eq_false (by omega)
   have n_1_4:(5=ia)=False:=eq_false (by omega)
   have n_1_5:(5=jf)=False:=eq_false (by omega)
   have n_2_3:(6=iw)=False:=eq_false (by omega)
   have n_2_4:(6=ia)=False:=eq_false (by omega)
   have n_2_5:(6=jf)=False:=eq_false (by omega)
   have n_3_4:(iw=ia)=False:=eq_false d01
   have qn_3_4:iw≠ia:=of_eq_false n_3_4
   have n_3_5:(iw=jf)=False:=eq_false d02
   have qn_3_5:iw≠jf:=of_eq_false n_3_5
   have n_4_5:(ia=jf)=False:=eq_false d12
   have qn_4_5:ia≠jf:=of_eq_false n_4_5
   (have hb:=trivial;with_reducible repeat' (first|simp only[hb,Vc.down,seval,bA.down,h8,h6,h7,h3,h4,acT,acZ,hR,hg,h6b,hw,ha,hf,n_0_1,n_0_2,n_0_3,n_0_4,n_0_5,n_1_3,n_1_4,n_1_5,n_2_3,n_2_4,n_2_5,n_3_4,n_3_5,n_4_5,y1,y2,y3,z1,z2,zr,zr',zw,zw',za,za',zf,zf']|refine Aj ?_ ?_<;>intro hb|((refine Hh (r) 7 ?_ ?_);(simp (discharger:=decide) only[He,Et,ab1,abI,Dp,Gw,Gz,Hg,Gv,Dj,Eu,Eo,aaE,adA,hsr];kernel_rfl);intro _)|refine jH ?_|fail))
   exact⟨w1,w2,w4,w6,w7,false,false,.inl ⟨hO2,hR2,rfl,rfl⟩⟩
  ·have n_0_1:(r=5)=False:=eq_false (by omega)
   have n_0_2:(r=6)=False:=eq_false (by omega)
   have n_0_3:(r=iw)=False:=eq_false fun e=>by subst e;rw[hR]at hw;simp at hw
   have qn_0_3:r≠iw:=of_eq_false n_0_3
   have n_0_4:(r=ia)=False:=eq_false fun e=>by subst e;rw[hR]at ha;simp at ha
   have qn_0_4:r≠ia:=of_eq_false n_0_4
   have n_0_5:(r=jf)=False:=eq_false fun e=>by subst e;rw[hR]at hf;simp at hf
   have qn_0_5:r≠jf:=of_eq_false n_0_5
   have n_0_6:(r=iq)=False:=eq_false fun e=>by subst e;rw[hR]at hiq;simp at hiq
   have qn_0_6:r≠iq:=of_eq_false n_0_6
   have n_1_3:(5=iw)=False:=eq_false (by omega)
   have n_1_4:(5=ia)=False:=eq_false (by omega)
   have n_1_5:(5=jf)=False:=eq_false (by omega)
   have n_1_6:(5=iq)=False:=eq_false (by omega)
   have n_2_3:(6=iw)=False:=eq_false (by omega)
   have n_2_4:(6=ia)=False:=eq_false (by omega)
   have n_2_5:(6=jf)=False:=eq_false (by omega)
   have n_2_6:(6=iq)=False:=eq_false (by omega)
   have n_3_4:(iw=ia)=False:=eq_false d01
   have qn_3_4:iw≠ia:=of_eq_false n_3_4
   have n_3_5:(iw=jf)=False:=eq_false d02
   have qn_3_5:iw≠jf:=of_eq_false n_3_5
   have n_3_6:(iw=iq)=False:=eq_false fun e=>by subst e;simp at hqx
   have qn_3_6:iw≠iq:=of_eq_false n_3_6
   have n_4_5:(ia=jf)=False:=eq_false d12
   have qn_4_5:ia≠jf:=of_eq_false n_4_5
   have n_4_6:(ia=iq)=False:=eq_false fun e=>by subst e;simp at hqx
   have qn_4_6:ia≠iq:=of_eq_false n_4_6
   have n_5_6:(jf=iq)=False:=eq_false fun e=>by subst e;simp at hqx
   have qn_5_6:jf≠iq:=of_eq_false n_5_6
   have l5:=Eb hiq
   have zq:=z3 iq hiq6
   have zq':=z4 iq hiq6
   (have hb:=trivial;with_reducible repeat' (first|simp only[hb,Vc.down,seval,bA.down,h8,h6,h7,h3,h4,acT,acZ,hR,hg,h6b,hw,ha,hf,hiq,n_0_1,n_0_2,n_0_3,n_0_4,n_0_5,n_0_6,n_1_3,n_1_4,n_1_5,n_1_6,n_2_3,n_2_4,n_2_5,n_2_6,n_3_4,n_3_5,n_3_6,n_4_5,n_4_6,n_5_6,y1,y2,y3,z1,z2,zr,zr',zw,zw',za,za',zf,zf',zq,zq']|refine Aj ?_ ?_<;>intro hb|((refine Hh (r) 7 ?_ ?_);(simp (discharger:=decide) only[He,Et,ab1,abI,Dp,Gw,Gz,Hg,Gv,Dj,Eu,Eo,aaE,adA,hsr];kernel_rfl);intro _)|refine jH ?_|fail))
   exact⟨w1,w2,w4,w6,w7,false,w5,.inr (.inr (.inl ⟨hO2,hRn,rfl,rfl⟩))⟩
  ·have n_0_1:(r=5)=False:=eq_false (by omega)
   have n_0_2:(r=6)=False:=eq_false (by omega)
   have n_0_3:(r=io)=False:=eq_false fun e=>by subst e;rw[hR]at hio;simp at hio
   have qn_0_3:r≠io:=of_eq_false n_0_3
   have n_0_4:(r=iw)=False:=eq_false fun e=>by subst e;rw[hR]at hw;simp at hw
   have qn_0_4:r≠iw:=of_eq_false n_0_4
   have n_0_5:(r=ia)=False:=eq_false fun e=>by subst e;rw[hR]at ha;simp at ha
   have qn_0_5:r≠ia:=of_eq_false n_0_5
   have n_0_6:(r=jf)=False:=eq_false fun e=>by subst e;rw[hR]at hf;simp at hf
   have qn_0_6:r≠jf:=of_eq_false n_0_6
   have n_1_3:(5=io)=False:=eq_false (by omega)
   have n_1_4:(5=iw)=False:=eq_false (by omega)
   have n_1_5:(5=ia)=False:=eq_false (by omega)
   have n_1_6:(5=jf)=False:=eq_false (by omega)
   have n_2_3:(6=io)=False:=eq_false (by omega)
   have n_2_4:(6=iw)=False:=eq_false (by omega)
   have n_2_5:(6=ia)=False:=eq_false (by omega)
   have n_2_6:(6=jf)=False:=eq_false (by omega)
   have n_3_4:(io=iw)=False:=eq_false fun e=>by subst e;rw[hio]at hw;simp at hw
   have qn_3_4:io≠iw:=of_eq_false n_3_4
   have n_3_5:(io=ia)=False:=eq_false fun e=>by subst e;rw[hio]at ha;simp at ha
   have qn_3_5:io≠ia:=of_eq_false n_3_5
   have n_3_6:(io=jf)=False:=eq_false fun e=>by subst e;rw[hio]at hf;simp at hf
   have qn_3_6:io≠jf:=of_eq_false n_3_6
   have n_4_5:(iw=ia)=False:=eq_false d01
   have qn_4_5:iw≠ia:=of_eq_false n_4_5
   have n_4_6:(iw=jf)=False:=eq_false d02
   have qn_4_6:iw≠jf:=of_eq_false n_4_6
   have n_5_6:(ia=jf)=False:=eq_false d12
   have qn_5_6:ia≠jf:=of_eq_false n_5_6
   have l4:=Eb hio
   have zo:=z3 io hio6
   have zo':=z4 io hio6
   (have hb:=trivial;with_reducible repeat' (first|simp only[hb,Vc.down,seval,bA.down,h8,h6,h7,h3,h4,acT,acZ,hR,hg,h6b,hio,hw,ha,hf,n_0_1,n_0_2,n_0_3,n_0_4,n_0_5,n_0_6,n_1_3,n_1_4,n_1_5,n_1_6,n_2_3,n_2_4,n_2_5,n_2_6,n_3_4,n_3_5,n_3_6,n_4_5,n_4_6,n_5_6,y1,y2,y3,z1,z2,zr,zr',zw,zw',za,za',zf,zf',zo,zo']|refine Aj ?_ ?_<;>intro hb|((refine Hh (r) 7 ?_ ?_);(simp (discharger:=decide) only[He,Et,ab1,abI,Dp,Gw,Gz,Hg,Gv,Dj,Eu,Eo,aaE,adA,hsr];kernel_rfl);intro _)|refine jH ?_|fail))
   exact⟨w1,w2,w4,w6,w7,w3,false,.inr (.inl ⟨hR2,rfl,rfl⟩)⟩
  ·have n_0_1:(r=5)=False:=eq_false (by omega)
   have n_0_2:(r=6)=False:=eq_false (by omega)
   have n_0_3:(r=io)=False:=eq_false fun e=>by subst e;rw[hR]at hio;simp at hio
   have qn_0_3:r≠io:=of_eq_false n_0_3
   have n_0_4:(r=iw)=False:=eq_false fun e=>by subst e;rw[hR]at hw;simp at hw
   have qn_0_4:r≠iw:=of_eq_false n_0_4
   have n_0_5:(r=ia)=False:=eq_false fun e=>by subst e;rw[hR]at ha;simp at ha
   have qn_0_5:r≠ia:=of_eq_false n_0_5
   have n_0_6:(r=jf)=False:=eq_false fun e=>by subst e;rw[hR]at hf;simp at hf
   have qn_0_6:r≠jf:=of_eq_false n_0_6
   have n_0_7:(r=iq)=False:=eq_false fun e=>by subst e;rw[hR]at hiq;simp at hiq
   have qn_0_7:r≠iq:=of_eq_false n_0_7
   have n_1_3:(5=io)=False:=eq_false (by omega)
   have n_1_4:(5=iw)=False:=eq_false (by omega)
   have n_1_5:(5=ia)=False:=eq_false (by omega)
   have n_1_6:(5=jf)=False:=eq_false (by omega)
   have n_1_7:(5=iq)=False:=eq_false (by omega)
   have n_2_3:(6=io)=False:=eq_false (by omega)
   have n_2_4:(6=iw)=False:=eq_false (by omega)
   have n_2_5:(6=ia)=False:=eq_false (by omega)
   have n_2_6:(6=jf)=False:=eq_false (by omega)
   have n_2_7:(6=iq)=False:=eq_false (by omega)
   have n_3_4:(io=iw)=False:=eq_false fun e=>by subst e;rw[hio]at hw;simp at hw
   have qn_3_4:io≠iw:=of_eq_false n_3_4
   have n_3_5:(io=ia)=False:=eq_false fun e=>by subst e;rw[hio]at ha;simp at ha
   have qn_3_5:io≠ia:=of_eq_false n_3_5
   have n_3_6:(io=jf)=False:=eq_false fun e=>by subst e;rw[hio]at hf;simp at hf
   have qn_3_6:io≠jf:=of_eq_false n_3_6
   have n_3_7:(io=iq)=False:=eq_false fun e=>by subst e;rw[hio]at hiq;simp at hiq
   have qn_3_7:io≠iq:=of_eq_false n_3_7
   have n_4_5:(iw=ia)=False:=eq_false d01
   have qn_4_5:iw≠ia:=of_eq_false n_4_5
   have n_4_6:(iw=jf)=False:=eq_false d02
   have qn_4_6:iw≠jf:=of_eq_false n_4_6
   have n_4_7:(iw=iq)=False:=eq_false fun e=>by subst e;simp at hqx
   have qn_4_7:iw≠iq:=of_eq_false n_4_7
   have n_5_6:(ia=jf)=False:=eq_false d12
   have qn_5_6:ia≠jf:=of_eq_false n_5_6
   have n_5_7:(ia=iq)=False:=eq_false fun e=>by subst e;simp at hqx
   have qn_5_7:ia≠iq:=of_eq_false n_5_7
   have n_6_7:(jf=iq)=False:=eq_false fun e=>by subst e;simp at hqx
   have qn_6_7:jf≠iq:=of_eq_false n_6_7
   have l4:=Eb hio
   have l5:=Eb hiq
   have zo:=z3 io hio6
   have zo':=z4 io hio6
   have zq:=z3 iq hiq6
   have zq':=z4 iq hiq6
   (have hb:=trivial;with_reducible repeat' (first|simp only[hb,Vc.down,seval,bA.down,h8,h6,h7,h3,h4,acT,acZ,hR,hg,h6b,hio,hw,ha,hf,hiq,n_0_1,n_0_2,n_0_3,n_0_4,n_0_5,n_0_6,n_0_7,n_1_3,n_1_4,n_1_5,n_1_6,n_1_7,n_2_3,n_2_4,n_2_5,n_2_6,n_2_7,n_3_4,n_3_5,n_3_6,n_3_7,n_4_5,n_4_6,n_4_7,n_5_6,n_5_7,n_6_7,y1,y2,y3,z1,z2,zr,zr',zw,zw',za,za',zf,zf',zo,zo',zq,zq']|refine Aj ?_ ?_<;>intro hb|((refine Hh (r) 7 ?_ ?_);(simp (discharger:=decide) only[He,Et,ab1,abI,Dp,Gw,Gz,Hg,Gv,Dj,Eu,Eo,aaE,adA,hsr];kernel_rfl);intro _)|refine jH ?_|fail))
   exact⟨w1,w2,w4,w6,w7,w3,w5,.inr (.inr (.inr ⟨hRn,rfl,rfl⟩))⟩
def Kv(n:Int)(t:Ab):Bool:=Gg t.hour 0 47&&(t.back== -1||Gg t.back (IntKind.i64.wrap (t.hour+1)) 47)&&Gg t.frm 0 (IntKind.i64.wrap (n-1))&&Gg t.to 0 (IntKind.i64.wrap (n-1))&& !(t.frm==t.to)&&Gg t.amount 1 100000000
theorem amN(t:Ab)(n:Int):Bo.call (.fn 101) [.agg [.int .i64 t.hour,.int .i64 t.back,.int .i64 t.frm,.int .i64 t.to,.int .i64 t.amount],.int .i64 n] []=some (.ret (.bool (Kv n t)),[]):=by
 (refine ce Tryz.func101 ?_;simp only[Tryz.f101];(have hb:=trivial;with_reducible repeat' (first|simp only[hb,Vc.down,seval,avR.down,mP]|refine Aj ?_ ?_<;>intro hb|refine fd ?_|fail)))
 all_goals (refine congrArg (fun b=>(Ec.ret (AV.bool b),([]:Aa))) ?_;simp_all[Kv])
theorem zB(t:Ab)(n:Int):Bo.call (.fn 61) [.agg [.int .i64 t.hour,.int .i64 t.back,.int .i64 t.frm,.int .i64 t.to,.int .i64 t.amount],.int .i64 n] []=some (.ret (.bool (Kv n t)),[]):=by
 have key:Kv n t=(Gg t.hour 0 47&&(t.back== -1||(decide (t.hour<t.back)&&Gg t.back 0 47))&&Gg t.frm 0 (IntKind.i64.wrap (n-1))&&Gg t.to 0 (IntKind.i64.wrap (n-1))&& !(t.frm==t.to)&&Gg t.amount 1 100000000):=by
  unfold Kv
  cases h:Gg t.hour 0 47 with
  |false=>simp
  |true=>
   simp only[Gg,abH,decide_eq_true_eq]at h
   have e:Gg t.back (IntKind.i64.wrap (t.hour+1)) 47=(decide (t.hour<t.back)&&Gg t.back 0 47):=by
    rw[Ae (by omega) (by omega)]
    simp only[Gg]
    rw[ajV]
    simp only[abH,decide_eq_true_eq]
    omega
   rw[e]
 rw[key]
 (refine ce Tryz.func61 ?_;simp only[Tryz.f61];(have hb:=trivial;with_reducible repeat' (first|simp only[hb,Vc.down,seval,ax3.down,hQ,wI]|refine Aj ?_ ?_<;>intro hb|refine fd ?_|fail)))
 all_goals (refine congrArg (fun b=>(Ec.ret (AV.bool b),([]:Aa))) ?_;clear key;simp_all)
def Vq(h:Aw):Bool:=Gg h.inn 0 800000000&&Gg h.out 0 800000000&&Gg h.flowIn 0 800000000&&Gg h.flowOut 0 800000000
theorem aqR(h:Aw):Bo.call (.fn 98) [.agg [.int .i64 h.inn,.int .i64 h.out,.int .i64 h.flowIn,.int .i64 h.flowOut]] []=some (.ret (.bool (!Vq h)),[]):=by
 have hg:=xX (l:=[h.inn,h.out,h.flowIn,h.flowOut]) (nn:=true) (by simp[maxLen])
 rw[Bg]at hg
 simp only[ab1,abI,iv,ajQ,List.all_nil,Bool.and_true]at hg
 (refine ce Tryz.func98 ?_;simp only[Tryz.f98];(have hb:=trivial;with_reducible repeat' (first|simp only[hb,Vc.down,seval,aw9.down,hg]|refine Aj ?_ ?_<;>intro hb|refine fd ?_|fail)))
 all_goals simp[Vq,Bool.and_assoc]
theorem arD(t:Ab)(n:Int):Bo.call (.fn 100) [.agg [.int .i64 t.hour,.int .i64 t.back,.int .i64 t.frm,.int .i64 t.to,.int .i64 t.amount],.ptr 0 0 0] [.live 1 true false [[.int .i64 n]]]=some (.ret (.bool (!Kv n t)),[.live 1 true false [[.int .i64 n]]]):=by
 (refine ce Tryz.func100 ?_;simp only[Tryz.f100];(have hb:=trivial;with_reducible repeat' (first|simp only[hb,Vc.down,seval,av6.down,amN]|refine Aj ?_ ?_<;>intro hb|refine fd ?_|fail)))
theorem ahJ{l:List Aw}{nn:Bool}{g:Nat}{cap:List AV}{p:Aw→Bool}(hc:cap.all (Az 8)=true)(hc7:cap.all (Az 7)=true)(hp:∀x∈l,Bo.call (.fn g) (.agg [.int .i64 x.inn,.int .i64 x.out,.int .i64 x.flowIn,.int .i64 x.flowOut]::cap) []=some (.ret (.bool (p x)),[]))(hl:l.length≤maxLen):
 Bo.call (.fn 128) [Bj 4 true nn (l.map Aw.cells),.func (.func g) [] cap] []=some (.ret (.int .i64 (jV p l 0)),[]):=by
 (refine ce Tryz.func128 ?_;simp only[Tryz.f128];(have hb:=trivial;with_reducible repeat' (first|simp only[hb,Vc.down,seval,sA.down,acM]|refine Aj ?_ ?_<;>intro hb|refine fd ?_|fail)))
 refine Dk (Sr 19 l (fun i (s:Int) t h=>s=i∧h=[]∧t 0=Bj 4 true nn (l.map Aw.cells)∧t 1=.func (.func g) [] cap∧t 7=.int .i64 l.length∧t 8=.int .i64 i)
  (fun rest s=>jV p rest s) (fun r e t h=>h=[]∧((e=.exit 0∧r= -1)∨(e=.ret∧t 4=.int .i64 r))) ?_ ?_ 0 _ _ ?_) (fun e t h hk=>?_)
 ·rintro s t h Q' kQ ⟨rfl,rfl,h0,h1,h7,h8⟩
  (have hb:=trivial;with_reducible repeat' (first|simp only[hb,Vc.down,seval,sA.down,h0,h1,h7,h8,adO,decide_false]|refine Aj ?_ ?_<;>intro hb|refine fd ?_|fail))
  exact kQ _ _ _ ⟨rfl,.inl ⟨rfl,rfl⟩⟩
 ·rintro x rest i s t h J Q' kJ kQ hx hi ⟨rfl,rfl,h0,h1,h7,h8⟩
  have hpx:=hp x (adI hx)
  have hd:decide ((i:Int)<(l.length:Int))=true:=by simpa using hi
  (have hb:=trivial;with_reducible repeat' (first|simp only[hb,Vc.down,seval,sA.down,h0,h1,h7,h8,hd,hx,Aw.cells,hc,hc7,hpx,Ak hi hl]|refine Aj ?_ ?_<;>intro hb|refine fd ?_|fail))
  ·exact kQ _ _ _ ⟨rfl,.inr ⟨rfl,by simp[up,jV,hb]⟩⟩
  ·exact Aq (kJ _ _ (i+1) ⟨by simp,rfl,by simp[up,h0],by simp[up,h1],by simp[up,h7],by simp[up]⟩ (by simp[jV,hb]))
 ·exact⟨rfl,rfl,by simp[up,Dn],by simp[up,Dn],by simp[up],by simp[up]⟩
 ·obtain⟨rfl,⟨rfl,hi⟩|⟨rfl,hi⟩⟩:=hk
  ·(have hb:=trivial;with_reducible repeat' (first|simp only[hb,Vc.down,seval,sA.down]|refine Aj ?_ ?_<;>intro hb|refine fd ?_|fail))
   rw[hi]
  ·(have hb:=trivial;with_reducible repeat' (first|simp only[hb,Vc.down,seval,sA.down,hi]|refine Aj ?_ ?_<;>intro hb|refine fd ?_|fail))
theorem ab3{l:List Aw}{nn:Bool}{g:Nat}{cap:List AV}{p:Aw→Bool}(hc:cap.all (Az 8)=true)(hc7:cap.all (Az 7)=true)(hp:∀x∈l,Bo.call (.fn g) (.agg [.int .i64 x.inn,.int .i64 x.out,.int .i64 x.flowIn,.int .i64 x.flowOut]::cap) []=some (.ret (.bool (p x)),[]))(hl:l.length≤maxLen):
 Bo.call (.fn 97) [Bj 4 true nn (l.map Aw.cells),.func (.func g) [] cap] []=some (.ret (.bool (l.any p)),[]):=by
 (refine ce Tryz.func97 ?_;simp only[Tryz.f97];(have hb:=trivial;with_reducible repeat' (first|simp only[hb,Vc.down,seval,ahJ hc hc7 hp hl,hc,hc7,Zu p l 0 (adP 0)]|refine Aj ?_ ?_<;>intro hb|refine fd ?_|fail)))
theorem ac9{l:List Ab}{nn:Bool}{g bs:Nat}{brows:List (List AV)}{p:Ab→Bool}(hp:∀x∈l,Bo.call (.fn g) (.agg [.int .i64 x.hour,.int .i64 x.back,.int .i64 x.frm,.int .i64 x.to,.int .i64 x.amount]::[.ptr 0 0 0]) [.live bs true false brows]=some (.ret (.bool (p x)),[.live bs true false brows]))(hl:l.length≤maxLen):
 Bo.call (.fn 129) [Bj 5 true nn (l.map Ab.cells),.func (.func g) [] [.ptr 0 0 0]] [.live bs true false brows]=some (.ret (.int .i64 (jV p l 0)),[.live bs true false brows]):=by
 (refine ce Tryz.func129 ?_;simp only[Tryz.f129];(have hb:=trivial;with_reducible repeat' (first|simp only[hb,Vc.down,seval,uW.down,acM]|refine Aj ?_ ?_<;>intro hb|refine fd ?_|fail)))
 refine Dk (Sr 19 l (fun i (s:Int) t h=>s=i∧h=[.live bs true false brows]∧t 0=Bj 5 true nn (l.map Ab.cells)∧t 1=.func (.func g) [] [.ptr 0 0 0]∧t 7=.int .i64 l.length∧t 8=.int .i64 i)
  (fun rest s=>jV p rest s) (fun r e t h=>h=[.live bs true false brows]∧((e=.exit 0∧r= -1)∨(e=.ret∧t 4=.int .i64 r))) ?_ ?_ 0 _ _ ?_) (fun e t h hk=>?_)
 ·rintro s t h Q' kQ ⟨rfl,rfl,h0,h1,h7,h8⟩
  (have hb:=trivial;with_reducible repeat' (first|simp only[hb,Vc.down,seval,uW.down,h0,h1,h7,h8,adO,decide_false]|refine Aj ?_ ?_<;>intro hb|refine fd ?_|fail))
  exact kQ _ _ _ ⟨rfl,.inl ⟨rfl,rfl⟩⟩
 ·rintro x rest i s t h J Q' kJ kQ hx hi ⟨rfl,rfl,h0,h1,h7,h8⟩
  have hpx:=hp x (adI hx)
  have hd:decide ((i:Int)<(l.length:Int))=true:=by simpa using hi
  (have hb:=trivial;with_reducible repeat' (first|simp only[hb,Vc.down,seval,uW.down,h0,h1,h7,h8,hd,hx,Ab.cells,hpx,Ak hi hl]|refine Aj ?_ ?_<;>intro hb|refine fd ?_|fail))
  ·exact kQ _ _ _ ⟨rfl,.inr ⟨rfl,by simp[up,jV,hb]⟩⟩
  ·exact Aq (kJ _ _ (i+1) ⟨by simp,rfl,by simp[up,h0],by simp[up,h1],by simp[up,h7],by simp[up]⟩ (by simp[jV,hb]))
 ·exact⟨rfl,rfl,by simp[up,Dn],by simp[up,Dn],by simp[up],by simp[up]⟩
 ·obtain⟨rfl,⟨rfl,hi⟩|⟨rfl,hi⟩⟩:=hk
  ·(have hb:=trivial;with_reducible repeat' (first|simp only[hb,Vc.down,seval,uW.down]|refine Aj ?_ ?_<;>intro hb|refine fd ?_|fail))
   rw[hi]
  ·(have hb:=trivial;with_reducible repeat' (first|simp only[hb,Vc.down,seval,uW.down,hi]|refine Aj ?_ ?_<;>intro hb|refine fd ?_|fail))
theorem vZ{l:List Ab}{nn:Bool}{g bs:Nat}{brows:List (List AV)}{p:Ab→Bool}(hp:∀x∈l,Bo.call (.fn g) (.agg [.int .i64 x.hour,.int .i64 x.back,.int .i64 x.frm,.int .i64 x.to,.int .i64 x.amount]::[.ptr 0 0 0]) [.live bs true false brows]=some (.ret (.bool (p x)),[.live bs true false brows]))(hl:l.length≤maxLen):
 Bo.call (.fn 99) [Bj 5 true nn (l.map Ab.cells),.func (.func g) [] [.ptr 0 0 0]] [.live bs true false brows]=some (.ret (.bool (l.any p)),[.live bs true false brows]):=by
 (refine ce Tryz.func99 ?_;simp only[Tryz.f99];(have hb:=trivial;with_reducible repeat' (first|simp only[hb,Vc.down,seval,ac9 hp hl,Zu p l 0 (adP 0)]|refine Aj ?_ ?_<;>intro hb|refine fd ?_|fail)))
def Jx(n:Int)(d:Ao):Bool:=decide (d.hours.length≤48)&&decide (d.noms.length≤200)&&decide (d.trades.length≤50)&&d.hours.all Vq&&d.noms.all (dF n)&&d.trades.all (Kv n)
structure Ao.small(d:Ao):Prop where
 hours:d.hours.length≤maxLen
 noms:d.noms.length≤maxLen
 trades:d.trades.length≤maxLen
theorem atP(d:Ao)(hs:d.small)(n:Int):Bo.call (.fn 62) [.agg d.cells,.int .i64 n] []=some (.ret (.bool (Jx n d)),[]):=by
 have c1:=ab3 (l:=d.hours) (nn:=d.nh) (g:=98) (cap:=[]) (p:=fun h=> !Vq h) rfl rfl (fun x _=>aqR x) hs.hours
 have c2:=uN (l:=d.noms) (nn:=d.nn) n hs.noms
 have c3:=vZ (l:=d.trades) (nn:=d.nt) (g:=100) (bs:=1) (brows:=[[.int .i64 n]]) (p:=fun t=> !Kv n t) (fun x _=>arD x n) hs.trades
 have l1:decide ((d.hours.length:Int)≤48)=decide (d.hours.length≤48):=by rw[decide_eq_decide];omega
 have l2:decide ((d.noms.length:Int)≤200)=decide (d.noms.length≤200):=by rw[decide_eq_decide];omega
 have l3:decide ((d.trades.length:Int)≤50)=decide (d.trades.length≤50):=by rw[decide_eq_decide];omega
 have k:Jx n d=(decide (d.hours.length≤48)&&decide (d.noms.length≤200)&&decide (d.trades.length≤50)&& !(d.hours.any fun h=> !Vq h)&&d.noms.all (dF n)&& !(d.trades.any fun t=> !Kv n t)):=by
  simp[Jx,List.all_eq_not_any_not]
 rw[k]
 (refine ce Tryz.func62 ?_;simp only[Tryz.f62];(have hb:=trivial;with_reducible repeat' (first|simp only[hb,Vc.down,seval,axG.down,Ao.cells,acM,c1,c2,c3,l1,l2,l3]|refine Aj ?_ ?_<;>intro hb|refine fd ?_|fail)))
 all_goals (refine congrArg (fun b=>(Ec.ret (AV.bool b),([]:Aa))) ?_;clear k c1 c2 c3;simp_all)
structure Ge where
 hour:Int
 nG:Bool
 gas:List Int
 own:Int
 fuel:Int
 nL:Bool
 bills:List Int
 nO:Bool
 owed:List Ab
abbrev Ge.cells(x:Ge):List AV:=[.int .i64 x.hour,Bj 1 true x.nG (x.gas.map iv),.int .i64 x.own,.int .i64 x.fuel,Bj 1 true x.nL (x.bills.map iv),Bj 5 true x.nO (x.owed.map Ab.cells)]
theorem an3(d:Ao)(hs:d.small)(n:Int):Bo.call (.fn 24) [.agg d.cells,.int .i64 n] []=some (.ret (.bool (Jx n d)),[]):=by
 have c2:=apX (l:=d.noms) (nn:=d.nn) n hs.noms
 have l1:decide ((d.hours.length:Int)≤48)=decide (d.hours.length≤48):=by rw[decide_eq_decide];omega
 have l2:decide ((d.noms.length:Int)≤200)=decide (d.noms.length≤200):=by rw[decide_eq_decide];omega
 have l3:decide ((d.trades.length:Int)≤50)=decide (d.trades.length≤50):=by rw[decide_eq_decide];omega
 have k:Jx n d=(d.hours.all Vq&&d.trades.all (Kv n)&&decide (d.hours.length≤48)&&decide (d.noms.length≤200)&&decide (d.trades.length≤50)&&d.noms.all (dF n)):=by
  unfold Jx
  rw[ajV]
  simp only[abH]
  constructor<;>(intro h;simp only[h,and_self])
 rw[k]
 (refine ce Tryz.func24 ?_;simp only[Tryz.f24];(have hb:=trivial;with_reducible repeat' (first|simp only[hb,Vc.down,seval,kY.down,Ao.cells,acM]|refine Aj ?_ ?_<;>intro hb|refine fd ?_|fail)))
 refine Dk (Sr 79 d.hours (fun i (zz:Unit) t h=>t 1=.int .i64 n∧t 2=.ptr 0 0 0∧t 5=.int .i64 i∧(h[0]?=some (.live 3 false false [d.cells]))) (fun rest zz=>rest.all Vq) (fun r e t h=>(if r=true then e=.exit 0∧t 1=.int .i64 n∧t 2=.ptr 0 0 0∧h[0]?=some (.live 3 false false [d.cells])else e=.ret∧t 4=.bool false)) ?_ ?_ () _ _ ?_) (fun e t h hk=>?_)
 ·rintro _ t h Q' kQ ⟨h1,h2,h5,hA⟩
  (have hb:=trivial;with_reducible repeat' (first|simp only[hb,Vc.down,seval,kY.down,h1,h2,h5,adO,decide_false,hA,acM]|refine Aj ?_ ?_<;>intro hb|refine fd ?_|fail))
  exact kQ _ _ _ (by rw[if_pos (by rfl)];exact⟨rfl,by simp[up,h1],by simp[up,h2],hA⟩)
 ·rintro x rest i _ t h J Q' kJ kQ hx hi ⟨h1,h2,h5,hA⟩
  have hd:decide ((i:Int)<(d.hours.length:Int))=true:=decide_eq_true (by omega)
  have hw:=Ak hi hs.hours
  have hA1:=Bv hA
  cases c0:Vq x with
  |false=>
   have c0':=c0
   simp only[Vq,Bool.and_eq_false_iff]at c0'
   (have hb:=trivial;with_reducible repeat' (first|simp only[hb,Vc.down,seval,kY.down,h1,h2,h5,hd,hx,hw,hA,hA1,pT,Aw.cells,acM]|refine Aj ?_ ?_<;>intro hb|refine fd ?_|fail))
   all_goals first
    |exact kQ _ _ _ (by rw[if_neg (by simp[c0])];exact⟨rfl,by simp[up]⟩)
    |(exfalso;simp_all)
  |true=>
   have c0':=c0
   simp only[Vq,abH]at c0'
   obtain⟨⟨⟨u1,u2⟩,u3⟩,u4⟩:=c0'
   (have hb:=trivial;with_reducible repeat' (first|simp only[hb,Vc.down,seval,kY.down,h1,h2,h5,hd,hx,hw,hA,hA1,pT,u1,u2,u3,u4,Aw.cells,acM]|refine Aj ?_ ?_<;>intro hb|refine fd ?_|fail))
   (refine Aq (kJ _ _ () ⟨?_,?_,?_,hA1 _⟩ ?_);(simp[up,h1]);(simp[up,h2]);(simp[up]);(simp[c0]))
 ·exact⟨by simp[up,Dn],by simp[up,Dn],by simp[up],rfl⟩
 ·split at hk
  ·obtain⟨rfl,h1,h2,hA⟩:=hk
   rename_i hr1
   (have hb:=trivial;with_reducible repeat' (first|simp only[hb,Vc.down,seval,kY.down,h1,h2,hA]|refine Aj ?_ ?_<;>intro hb|refine fd ?_|fail))
   refine Dk (Sr 79 d.trades (fun i (zz:Unit) t h=>t 1=.int .i64 n∧t 2=.ptr 0 0 0∧t 7=.int .i64 i∧(h[0]?=some (.live 3 false false [d.cells]))) (fun rest zz=>rest.all (Kv n)) (fun r e t h=>(if r=true then e=.exit 2∧t 1=.int .i64 n∧t 2=.ptr 0 0 0∧h[0]?=some (.live 3 false false [d.cells])else e=.ret∧t 4=.bool false)) ?_ ?_ () _ _ ?_) (fun e t h hk=>?_)
   ·rintro _ t h Q' kQ ⟨h1,h2,h7,hA⟩
    (have hb:=trivial;with_reducible repeat' (first|simp only[hb,Vc.down,seval,kY.down,h1,h2,h7,adO,decide_false,hA,acM]|refine Aj ?_ ?_<;>intro hb|refine fd ?_|fail))
    exact kQ _ _ _ (by rw[if_pos (by rfl)];exact⟨rfl,by simp[up,h1],by simp[up,h2],hA⟩)
   ·rintro x rest i _ t h J Q' kJ kQ hx hi ⟨h1,h2,h7,hA⟩
    have hd:decide ((i:Int)<(d.trades.length:Int))=true:=decide_eq_true (by omega)
    have hw:=Ak hi hs.trades
    cases c0:Kv n x with
    |false=>
     (have hb:=trivial;with_reducible repeat' (first|simp only[hb,Vc.down,seval,kY.down,h1,h2,h7,hd,hx,hw,hA,zB,c0,Ab.cells,acM]|refine Aj ?_ ?_<;>intro hb|refine fd ?_|fail))
     exact kQ _ _ _ (by rw[if_neg (by simp[c0])];exact⟨rfl,by simp[up]⟩)
    |true=>
     (have hb:=trivial;with_reducible repeat' (first|simp only[hb,Vc.down,seval,kY.down,h1,h2,h7,hd,hx,hw,hA,zB,c0,Ab.cells,acM]|refine Aj ?_ ?_<;>intro hb|refine fd ?_|fail))
     (refine Aq (kJ _ _ () ⟨?_,?_,?_,hA⟩ ?_);(simp[up,h1]);(simp[up,h2]);(simp[up]);(simp[c0]))
   ·exact⟨by simp[up,Dn,h1,h2],by simp[up,Dn,h1,h2],by simp[up],hA⟩
   ·split at hk
    ·obtain⟨rfl,h1,h2,hA⟩:=hk
     rename_i hr2
     (have hb:=trivial;with_reducible repeat' (first|simp only[hb,Vc.down,seval,kY.down,h1,h2,hA,c2,l1,l2,l3,acM]|refine Aj ?_ ?_<;>intro hb|refine fd ?_|fail))
     all_goals (refine congrArg (fun b=>(Ec.ret (AV.bool b),([]:Aa))) ?_;clear k c2;simp_all)
    ·obtain⟨rfl,h4⟩:=hk
     rename_i hr2
     (have hb:=trivial;with_reducible repeat' (first|simp only[hb,Vc.down,seval,kY.down,h4]|refine Aj ?_ ?_<;>intro hb|refine fd ?_|fail))
     simp[hr2]
  ·obtain⟨rfl,h4⟩:=hk
   rename_i hr1
   (have hb:=trivial;with_reducible repeat' (first|simp only[hb,Vc.down,seval,kY.down,h4]|refine Aj ?_ ?_<;>intro hb|refine fd ?_|fail))
   simp[hr1]
theorem ao2{c:Ag}{w:Int}(h: -1000000000≤w∧w≤1000000000):ak6 c w=iE c w:=by
 unfold ak6 iE Jj
 split
 ·rw[Int.sub_self];exact Ov
 ·rw[Int.sub_zero];exact Ae (by omega) (by omega)
theorem anQ:∀{cs:List Ag} {l:List Int},(∀w∈l,-1000000000≤w∧w≤1000000000)→qP cs l=Pq cs l
 | [],_,_=>rfl
 |_::_,[],_=>rfl
 |c::cs,w::l,h=>by
  have ih:=anQ (cs:=cs) (l:=l) (fun x hx=>h x (aiK _ hx))
  simp only[qP,Pq,adJ]at ih ⊢
  rw[ih,ao2 (h w (adN ..))]
theorem tR{cs:List Ag}{l:List Int}(h:∀w∈l,-1000000000≤w∧w≤1000000000)(m:Int):Fj cs l m=Xe cs l m:=by
 unfold Fj Xe
 rw[anQ h]
theorem aoH{x:Int}(h:Gg x (-100000000) 100000000=true):0≤Cm x∧Cm x≤100000000:=by
 simp only[Gg,abH,decide_eq_true_eq]at h
 unfold Cm;split<;>omega
theorem ar6{x:Int}(h:Gg x (-100000000) 100000000=true):0≤Dt x∧Dt x≤100000000:=by
 simp only[Gg,abH,decide_eq_true_eq]at h
 unfold Dt Cm;rw[Ae (by omega) (by omega)];split<;>omega
theorem qS{cs:List Ag}{l:List Int}(h:xE l=true)(a b:Int):Gk Fj cs l a b=Gk Xe cs l a b:=by
 simp only[xE,alB]at h
 unfold Gk
 rw[tR (fun w hw=>by
  obtain⟨x,hx,rfl⟩:=List.mem_map.1 hw
  have:=aoH (h x hx);omega),tR (fun w hw=>by
  obtain⟨x,hx,rfl⟩:=List.mem_map.1 hw
  have:=ar6 (h x hx);omega)]
def inR(c:Ag):Int:=(c.rates.head?.map Bh.inn).getD 0
def aeG(c:Ag):Int:=(c.rates.getLast?.map Bh.out).getD 0
def ao1(h:Int)(c:Ag):Bool:=c.firm&&Gg h c.lo c.hi
def inS(h:Int):List Ag→Int
 | []=>0
 |c::l=>(if ao1 h c=true then inR c else 0)+inS h l
def abW(h:Int):List Ag→Int
 | []=>0
 |c::l=>(if ao1 h c=true then aeG c else 0)+abW h l
def spS:List Ag→Int
 | []=>0
 |c::l=>c.space+spS l
theorem Wu:∀{l:List Bh} {p:Option Bh} {r:Bh},It l p=true→r∈l→0≤r.inn∧r.inn≤100000000∧0≤r.out∧r.out≤100000000
 |x::l,p,r,h,hr=>by
  simp only[It,abH]at h
  rcases ajR.1 hr with rfl|hr
  ·have:=h.1
   simp only[Rm,Gg,abH,decide_eq_true_eq]at this
   omega
  ·exact Wu h.2 hr
structure jZ(c:Ag):Prop where
 inn:0≤inR c∧inR c≤100000000
 out:0≤aeG c∧aeG c≤100000000
 space:1≤c.space∧c.space≤100000000
 fixed:0≤c.fixed∧c.fixed≤10000
 hours:0≤c.lo∧c.lo≤c.hi∧c.hi<48
 rates:c.rates≠[]∧c.rates.length≤6
theorem Rj{c:Ag}(h:Hj c=true):jZ c:=by
 have h0:=h
 simp only[Hj,abH,Gg,eB,decide_eq_true_eq,ajQ]at h
 obtain⟨⟨⟨⟨⟨h1,h2⟩,h3⟩,h4⟩,h5⟩,h6⟩:=h
 have hr:c.rates≠[]:=fun e=>by rw[e]at h4;simp at h4
 refine⟨?_,?_,h2,h6.1,?_,hr,by omega⟩
 ·unfold inR
  cases hh:c.rates.head? with
  |none=>simp
  |some r=>have:=Wu h1 (List.mem_of_head? hh);simp;omega
 ·unfold aeG
  cases hh:c.rates.getLast? with
  |none=>simp
  |some r=>have:=Wu h1 (List.mem_of_getLast? hh);simp;omega
 ·omega
theorem au5{l:List Ag}(h:l.all Hj=true):∀c∈l,jZ c:=fun c hc=>Rj (alB.1 h c hc)
theorem cF{h:Int}:∀{l:List Ag} {a b:Int},(∀c∈l,jZ c)→0≤a→0≤b→a+100000000*l.length<2 ^ 62→b+100000000*l.length<2 ^ 62→Pn h l (a,b)=(a+inS h l,b+abW h l)
 | [],a,b,_,_,_,_,_=>by simp[Pn,inS,abW]
 |c::l,a,b,hl,ha,hb,h1,h2=>by
  have c1:=(hl c (adN ..)).inn
  have c2:=(hl c (adN ..)).out
  simp only[aaE]at h1 h2
  have ht:∀c∈l,jZ c:=fun c hc=>hl c (aiK _ hc)
  simp only[Pn,lD,inS,abW]
  cases hx:ao1 h c with
  |true=>
   have hx':(c.firm&&Gg h c.lo c.hi)=true:=hx
   rw[if_pos hx',if_pos rfl,if_pos rfl]
   change Pn h l (IntKind.i64.wrap (a+inR c),IntKind.i64.wrap (b+aeG c))=_
   rw[Ae (by omega) (by omega),Ae (by omega) (by omega),cF ht (by omega) (by omega) (by omega) (by omega)]
   simp only[Int.add_assoc]
  |false=>
   have hx':(c.firm&&Gg h c.lo c.hi)=false:=hx
   rw[if_neg (by rw[hx'];simp),if_neg (by simp),if_neg (by simp),cF ht (by omega) (by omega) (by omega) (by omega)]
   simp
theorem jM:∀{l:List Ag} {a:Int},(∀c∈l,jZ c)→0≤a→a+100000000*l.length<2 ^ 62→Ji l a=a+spS l
 | [],a,_,_,_=>by simp[Ji,spS]
 |c::l,a,hl,ha,h1=>by
  have c1:=(hl c (adN ..)).space
  simp only[aaE]at h1
  simp only[Ji,spS]
  rw[Ae (by omega) (by omega),jM (fun c hc=>hl c (aiK _ hc)) (by omega) (by omega)]
  omega
theorem jD{p:Int→Bool}:∀{n:Nat},n≤48→(Jd p n=true↔∀h:Int,48-n≤h→h<48→p h=true)
 |0,_=>⟨fun _ h h1 h2=>by omega,fun _=>rfl⟩
 |n+1,hn=>by
  simp only[Jd,abH,jD (n:=n) (by omega)]
  constructor
  ·rintro⟨h1,h2⟩ h h3 h4
   by_cases he:h=48-((n+1:Nat):Int)
   ·rw[he];exact h1
   ·exact h2 h (by omega) h4
  ·exact fun hk=>⟨hk _ (by omega) (by omega),fun h h3 h4=>hk h (by omega) h4⟩
theorem ac4{s:Ac}{l:List Ag}(hl:∀c∈l,jZ c)(hn:l.length≤1000):fO s l=true↔(∀h:Int,0≤h→h<48→inS h l≤s.inn∧abW h l≤s.out)∧spS l≤s.space:=by
 simp only[fO,abH,decide_eq_true_eq,jD (Nat.le_refl 48)]
 rw[jM hl (by omega) (by omega)]
 simp only[okH,abH,decide_eq_true_eq]
 constructor
 ·rintro⟨h1,h2⟩
  refine⟨fun h h3 h4=>?_,by omega⟩
  have:=h1 h (by omega) h4
  rw[cF hl (by omega) (by omega) (by omega) (by omega)]at this
  simpa using this
 ·rintro⟨h1,h2⟩
  refine⟨fun h h3 h4=>?_,by omega⟩
  rw[cF hl (by omega) (by omega) (by omega) (by omega)]
  simpa using h1 h (by omega) h4
structure amE(s:Ac):Prop where
 space:0≤s.space∧s.space≤800000000
 inn:0≤s.inn∧s.inn≤800000000
 out:0≤s.out∧s.out≤800000000
 lead:0≤s.lead∧s.lead≤48
 fuel:0≤s.fuel∧s.fuel≤1000
 len:s.cons.length≤8
 cons:∀c∈s.cons,jZ c
 once:(∀h:Int,0≤h→h<48→inS h s.cons≤s.inn∧abW h s.cons≤s.out)∧spS s.cons≤s.space
theorem Wm{s:Ac}(h:Ek s=true):amE s:=by
 have h1:=au5 (Lq h)
 have h2:=sR h
 simp only[Ek,abH,Gg,decide_eq_true_eq,ajQ]at h
 exact⟨h.1.1.1.1.1.1,h.1.1.1.1.1.2.1,h.1.1.1.1.1.2.2.1,h.1.1.1.1.2,h.1.1.1.2,h2,h1,(ac4 h1 (by omega)).1 h.2⟩
theorem lY{n:Nat}(hn:n≤1000){t:Ab}(h:Kv n t=true):t.ok n∧t.frm≠t.to∧1≤t.amount∧t.amount≤100000000∧(t.back= -1∨0≤t.back):=by
 simp only[Kv,Gg,abH,Bool.or_eq_true,decide_eq_true_eq,beq_iff_eq,Bool.not_eq_true',beq_eq_false_iff_ne]at h
 obtain⟨⟨⟨⟨⟨h1,h2⟩,h3⟩,h4⟩,h5⟩,h6⟩:=h
 rw[Ae (by omega) (by omega)]at h2 h3 h4
 exact⟨⟨⟨h3.1,by omega⟩,h4.1,by omega⟩,h5,h6.1,h6.2,by omega⟩
theorem aqO{s:Ac}{d:Ao}{x:Aw}{y:Ge}(K:dW s d y.hour x y.owed)(hG:y.gas.length=s.cons.length)(hL:y.bills.length=s.cons.length):
 Vo Bo 64 [.agg s.cells,.agg y.cells,.agg d.cells] []
  (xR s.cons.length (IntKind.i64.wrap (y.hour+1)) (aH s d y.hour x y.gas y.bills y.owed y.own) (G6 s d y.hour x y.gas y.bills y.owed y.fuel).2 (G6 s d y.hour x y.gas y.bills y.owed y.fuel).1 (L7 s d y.hour x y.gas y.bills y.owed) (T2 s d y.hour y.gas y.bills y.owed).2.1 (T2 s d y.hour y.gas y.bills y.owed).2.2 (W3 s d y.hour y.gas y.bills y.owed) (A4 s d y.hour x y.gas y.bills y.owed) (F5 s d y.hour x y.gas y.bills y.owed)):=by
 by_cases h:y.owed=[]∧y.nO=false
 ·exact akS K hG hL h
 ·exact anI K hG hL h
theorem ad5{t:Ab}:Kv 0 t=false:=by
 rw[←Bool.not_eq_true]
 intro h
 have T:=(lY (n:=0) (by omega) (t:=t) (by simpa using h)).1
 have t1:=T.1.1;have t2:=T.1.2
 omega
theorem al3{s:Ac}{d:Ao}{x:Aw}{y:Ge}(K:ZOK s d y.hour x)(hG:y.gas=[])(hL:y.bills=[])(hO:y.owed=[]):
 Vo Bo 64 [.agg s.cells,.agg y.cells,.agg d.cells] [] (ZQ (IntKind.i64.wrap (y.hour+1)) (cD [] x y.own) y.fuel):=by
 obtain⟨hr,nG,gas,own,fuel,nL,bills,nO,owed⟩:=y
 simp only at hG hL hO
 subst hG hL hO
 simp only[Ao.cells]at *
 exact af1 K
def uB(cs:List Ag)(t:Ab)(G:List Int):Int:=IntKind.i64.wrap (IntKind.i64.wrap (t.amount-mn t.amount (gI G t.to))*bR cs t.to)
def pE(cs:List Ag)(t:Ab)(G:List Int):Int:=mn (mn t.amount (gI G t.to)) (IntKind.i64.wrap (Ig cs t.frm-gI G t.frm))
def aj9(cs:List Ag)(t:Ab)(G:List Int):List Int:=sI (sI G t.to (IntKind.i64.wrap (gI G t.to-pE cs t G))) t.frm (IntKind.i64.wrap (gI G t.frm+pE cs t G))
def anF(cs:List Ag)(t:Ab)(G L:List Int):List Int:=sI (sI L t.to (IntKind.i64.wrap (gI L t.to+uB cs t G))) t.frm (IntKind.i64.wrap (gI L t.frm-uB cs t G))
def acC(cs:List Ag)(hr:Int):List Ab→List Int × List Int × List Ab→List Int × List Int × List Ab
 | [],a=>a
 |t::rest,(G,L,p)=>if(t.back==hr)=true then acC cs hr rest (aj9 cs t G,anF cs t G L,p)else acC cs hr rest (G,L,p++[t])
theorem rV{l:List Int}{i j:Int}(hi:0≤i)(hj:0≤j)(h:i≠j)(v:Int):gI (sI l i v) j=gI l j:=by
 unfold gI sI
 rw[List.getElem?_set_ne (by omega)]
theorem fS{t:Ab}{G:List Int}{n:Nat}(h:t.ok n)(hne:t.frm≠t.to):Ku t G=sI (sI G t.frm (IntKind.i64.wrap (gI G t.frm-t.amount))) t.to (IntKind.i64.wrap (gI G t.to+t.amount)):=by
 unfold Ku
 rw[rV h.1.1 h.2.1 hne]
def rL(c:Ag)(n g:Int):Int:=Qe (Qe (mn (mn n (Ua c g).inn) (IntKind.i64.wrap (c.space-g))) (IntKind.i64.wrap (0-(Ua c g).out))) (IntKind.i64.wrap (0-g))
def Wy(s:Ac)(d:Ao)(hr:Int)(G:List Int)(i:Nat)(c:Ag):Int:=
 if(decide (0≤Lm s.lead d.noms i hr d.noms (0,-1))&&Gg hr c.lo c.hi)=true then rL c (Xi d.noms (Lm s.lead d.noms i hr d.noms (0,-1))) (gI G i)else 0
def Qu(s:Ac)(d:Ao)(hr:Int)(G:List Int):List Ag→Nat→List Int
 | [],_=>[]
 |c::rest,i=>Wy s d hr G i c::Qu s d hr G rest (i+1)
theorem Rn(s:Ac)(d:Ao)(hr:Int)(G:List Int):∀(l:List Ag) (i:Nat),(Qu s d hr G l i).length=l.length
 | [],_=>rfl
 |c::rest,i=>by simp[Qu,Rn s d hr G rest]
def Ql(l:List Ag)(i:Nat):Ag:=(l[i]?).getD ⟨false,0,0,0,false,[],0,0,0,0,0,0⟩
def Gh(f:Int):Int:=Qe 0 f
def Im(f:Int):Int:=Qe 0 (IntKind.i64.wrap (0-f))
def Oa(s:Ac)(f:Int):Int:=IntKind.i64.wrap ((IntKind.i64.wrap (Gh f*s.fuel)).tdiv 1000)
def adH(s:Ac)(f g:Int):Int:=IntKind.i64.wrap (IntKind.i64.wrap (IntKind.i64.wrap (g+Gh f)-Oa s f)-Im f)
def abM(c:Ag)(f b:Int):Int:=IntKind.i64.wrap (IntKind.i64.wrap (IntKind.i64.wrap (b+c.fixed)+IntKind.i64.wrap (c.inn*Gh f))+IntKind.i64.wrap (c.out*Im f))
def aqI(c:Ag)(w a b:Int):Int:=IntKind.i64.wrap (b-IntKind.i64.wrap (c.cut*Qe (IntKind.i64.wrap (w-a)) (IntKind.i64.wrap (a-w))))
def rY(c:Ag)(hr f w a b:Int):Int:=if c.firm=true then aqI c w a (if Gg hr c.lo c.hi=true then abM c f b else b)else(if Gg hr c.lo c.hi=true then abM c f b else b)
def mN(s:Ac)(hr:Int)(W A:List Int):List Int→Nat→List Int × Int × List Int→List Int × Int × List Int
 | [],_,a=>a
 |f::rest,i,(G,fu,L)=>mN s hr W A rest (i+1) (sI G i (adH s f (gI G i)),IntKind.i64.wrap (fu+Oa s f),sI L i (rY (Ql s.cons i) hr f (gI W i) (gI A i) (gI L i)))
def RG(s:Ac)(hr:Int)(G L:List Int)(O:List Ab):=acC s.cons hr O (G,L,[])
def RT(s:Ac)(d:Ao)(hr:Int)(G L:List Int)(O:List Ab):=Bc s.cons hr d.trades 0 ((RG s hr G L O).1,(RG s hr G L O).2.2,[])
def RW(s:Ac)(d:Ao)(hr:Int)(G L:List Int)(O:List Ab):=Qu s d hr (RT s d hr G L O).1 s.cons 0
def RA(s:Ac)(d:Ao)(hr:Int)(x:Aw)(G L:List Int)(O:List Ab):=Gk Xe s.cons (RW s d hr G L O) x.inn x.out
def RF(x:Aw)(A:List Int):List Int:=adF Xv (Bq (mn x.flowIn (Ax (A.map Cm) 0)) (A.map Cm)) (Bq (mn x.flowOut (Ax (A.map Dt) 0)) (A.map Dt))
def afA(x:Aw)(A:List Int)(own:Int):Int:=IntKind.i64.wrap (IntKind.i64.wrap (IntKind.i64.wrap (IntKind.i64.wrap (own+x.flowIn)-mn x.flowIn (Ax (A.map Cm) 0))-x.flowOut)+mn x.flowOut (Ax (A.map Dt) 0))
structure ayW(s:Ac)(d:Ao)(hr:Int)(x:Aw)(G L:List Int)(O:List Ab):Prop extends dW s d hr x O where
 flat:∀t∈d.trades,t.frm≠t.to∧(t.back= -1∨0≤t.back)
 fill:∀(i:Nat) c,s.cons[i]?=some c→(Ry c).fill≤afR c (gI (RT s d hr G L O).1 i)
 left:(RG s hr G L O).2.2.length≤1000
def Oo(l:List Int):Prop:=∀w∈l,0≤w∧w≤100000000
theorem Oo.tail{x:Int}{l:List Int}(h:Oo (x::l)):Oo l:=fun w hw=>h w (aiK _ hw)
theorem Oo.head{x:Int}{l:List Int}(h:Oo (x::l)):0≤x∧x≤100000000:=h x (adN ..)
theorem Oo.sum:∀{l:List Int},Oo l→0≤l.sum∧l.sum≤100000000*l.length
 | [],_=>by simp
 |x::l,h=>by
  have:=Oo.sum h.tail
  have:=h.head
  simp only[adK,aaE]
  omega
theorem aeL{l:List Int}{a:Int}(h:Oo l)(hl:l.length≤1000)(h0:0≤a)(h1:a≤1000000000000-100000000*l.length):Ax l a=a+l.sum:=by
 induction l generalizing a with
 |nil=>simp[Ax]
 |cons x l ih=>
  have:=h.head
  simp only[aaE]at hl h1
  rw[Ax,Ae (by omega) (by omega),ih h.tail (by omega) (by omega) (by omega),adK]
  omega
theorem Si{l:List Int}(h:Oo l)(hl:l.length≤1000):Ax l 0=l.sum:=by
 rw[aeL h hl (by omega) (by omega)];omega
def Gn(amount whole:Int):List Int→Int→List Int
 | [],_=>[]
 |w::rest,so=>(amount*(so+w) / whole-amount*so / whole)::Gn amount whole rest (so+w)
theorem Ux{a b c d:Int}(h0:0≤a)(h1:a≤c)(h2:0≤b)(h3:b≤d):0≤a*b∧a*b≤c*d:=
 ⟨Int.mul_nonneg h0 h2,Int.mul_le_mul h1 h3 h2 (by omega)⟩
theorem aeC{x y:Int}(h0:0≤x)(hy:0<y):0≤x / y∧x / y≤x:=⟨Int.ediv_nonneg h0 (by omega),Int.ediv_le_self _ h0⟩
theorem aiC{amount whole:Int}(ha:0≤amount)(ha':amount≤1000000000)(hw:0<whole){l:List Int}{so:Int}(h:Oo l)(hl:l.length≤8)(h0:0≤so)(h1:so≤1000000000-100000000*l.length):Dl amount whole l so (amount*so / whole)=Gn amount whole l so:=by
 induction l generalizing so with
 |nil=>rfl
 |cons w l ih=>
  have hh:=h.head
  simp only[aaE]at hl h1
  have e1:IntKind.i64.wrap (so+w)=so+w:=Ae (by omega) (by omega)
  have m1:=Ux ha ha' (b:=so+w) (d:=1000000000) (by omega) (by omega)
  have m2:=Ux ha ha' (b:=so) (d:=1000000000) (by omega) (by omega)
  have d1:=aeC m1.1 hw
  have d2:=aeC m2.1 hw
  have e2:IntKind.i64.wrap (amount*(so+w))=amount*(so+w):=Ae (by omega) (by omega)
  have e3:(amount*(so+w)).tdiv whole=amount*(so+w) / whole:=Int.tdiv_eq_ediv_of_nonneg m1.1
  have e4:IntKind.i64.wrap (amount*(so+w) / whole)=amount*(so+w) / whole:=Ae (by omega) (by omega)
  have e5:IntKind.i64.wrap (amount*(so+w) / whole-amount*so / whole)=amount*(so+w) / whole-amount*so / whole:=Ae (by omega) (by omega)
  have e6:amount*so / whole+(amount*(so+w) / whole-amount*so / whole)=amount*(so+w) / whole:=by omega
  simp only[Dl,Gn,Fa,hw,if_true,e1,e2,e3,e4,e5,e6]
  rw[ih h.tail (by omega) (by omega) (by omega)]
theorem dM{amount whole:Int}(ha:0≤amount)(ha':amount≤1000000000)(hw:0<whole){l:List Int}(h:Oo l)(hl:l.length≤8):Dl amount whole l 0 0=Gn amount whole l 0:=by
 have:=aiC ha ha' hw h hl (adP 0) (by omega)
 simpa using this
theorem Yi{amount whole:Int}(hw:¬0<whole):∀(l:List Int) (so:Int),Dl amount whole l so 0=List.replicate l.length 0
 | [],_=>rfl
 |w::l,so=>by
  simp only[Dl,Fa,hw,if_false,aaE,List.replicate_succ]
  rw[show IntKind.i64.wrap (0+0)=0 from by decide,Yi hw l]
theorem acE{amount whole so w:Int}(hw:0<whole):(amount*(so+w) / whole-amount*so / whole)*whole-amount*w<whole∧ -whole<(amount*(so+w) / whole-amount*so / whole)*whole-amount*w:=by
 have a1:=anN (amount*(so+w)) whole
 have a2:=anN (amount*so) whole
 have b1:=anO (amount*(so+w)) (by omega:whole≠0)
 have b2:=anO (amount*so) (by omega:whole≠0)
 have c1:=anP (amount*(so+w)) hw
 have c2:=anP (amount*so) hw
 have e:amount*(so+w)=amount*so+amount*w:=Int.mul_add ..
 rw[Int.sub_mul,adL (amount*(so+w) / whole),adL (amount*so / whole)]
 constructor<;>omega
theorem amB{amount whole so w:Int}(ha:0≤amount)(haw:amount≤whole)(hw:0<whole)(hw0:0≤w):0≤amount*(so+w) / whole-amount*so / whole∧amount*(so+w) / whole-amount*so / whole≤w:=by
 have e:amount*(so+w)=amount*so+amount*w:=Int.mul_add ..
 have p:0≤amount*w:=Int.mul_nonneg ha hw0
 have q:amount*w≤whole*w:=Int.mul_le_mul_of_nonneg_right haw hw0
 have m1:amount*so / whole≤amount*(so+w) / whole:=anS hw (by omega)
 have m2:amount*(so+w) / whole≤(amount*so+w*whole) / whole:=anS hw (by rw[adL w];omega)
 rw[Int.add_mul_ediv_right _ _ (by omega)]at m2
 omega
theorem Xo{amount whole:Int}(ha:0≤amount)(haw:amount≤whole)(hw:0<whole):∀{l:List Int} {so:Int},Oo l→∀{i:Nat} {x w:Int},(Gn amount whole l so)[i]?=some x→l[i]?=some w→0≤x∧x≤w∧x*whole-amount*w<whole∧ -whole<x*whole-amount*w
 | [],_,_,i,x,w,hx,_=>by simp[Gn]at hx
 |y::l,so,h,0,x,w,hx,hw'=>by
  simp only[Gn,List.getElem?_cons_zero,Option.some.injEq]at hx hw'
  subst hx hw'
  have:=amB (so:=so) ha haw hw h.head.1
  have:=acE (amount:=amount) (so:=so) (w:=y) hw
  exact⟨by omega,by omega,by omega,by omega⟩
 |y::l,so,h,i+1,x,w,hx,hw'=>by
  simp only[Gn,List.getElem?_cons_succ]at hx hw'
  exact Xo ha haw hw h.tail hx hw'
theorem Hy(amount whole:Int):∀(l:List Int) (so:Int),(Gn amount whole l so).length=l.length
 | [],_=>rfl
 |x::l,so=>by simp[Gn,Hy amount whole l]
theorem kL(amount whole:Int):∀(l:List Int) (so:Int),(Gn amount whole l so).sum=amount*(so+l.sum) / whole-amount*so / whole
 | [],so=>by simp[Gn]
 |w::l,so=>by
  rw[Gn,adK,kL,adK,Int.add_assoc so]
  omega
theorem bO{amount:Int}{l:List Int}(hw:0<l.sum):(Gn amount l.sum l 0).sum=amount:=by
 rw[kL];simp[Int.mul_ediv_cancel _ (by omega:l.sum≠0)]
theorem Oo.fz:∀{cs:List Ag} {l:List Int},Oo l→Oo (Hw cs l)
 | [],_,_=>fun w hw=>by simp[Hw]at hw
 |_::_,[],_=>fun w hw=>by simp[Hw]at hw
 |c::cs,x::l,h=>fun w hw=>by
  simp only[Hw,adJ,ajR]at hw
  rcases hw with rfl|hw
  ·have:=h.head;unfold Jj;split<;>omega
  ·exact Oo.fz h.tail w hw
theorem Oo.oz:∀{cs:List Ag} {l:List Int},Oo l→Oo (Pq cs l)
 | [],_,_=>fun w hw=>by simp[Pq]at hw
 |_::_,[],_=>fun w hw=>by simp[Pq]at hw
 |c::cs,x::l,h=>fun w hw=>by
  simp only[Pq,adJ,ajR]at hw
  rcases hw with rfl|hw
  ·have:=h.head;unfold iE;split<;>omega
  ·exact Oo.oz h.tail w hw
theorem wB:∀{cs:List Ag} {l:List Int},l.length=cs.length→(Hw cs l).sum+(Pq cs l).sum=l.sum
 | [],[],_=>rfl
 |c::cs,x::l,h=>by
  have ih:=wB (cs:=cs) (l:=l) (by simpa using h)
  simp only[Hw,Pq,adJ,adK,Jj,iE]at ih ⊢
  split<;>omega
structure axW(cs:List Ag)(l A:List Int)(m:Int):Prop where
 len:A.length=l.length
 ins:∀{i:Nat} {x w:Int},A[i]?=some x→l[i]?=some w→0≤x∧x≤w
 all:A.sum=min l.sum m
 firm:(Hw cs A).sum<(Hw cs l).sum→(Pq cs A).sum=0
 near:∀{i:Nat} {c:Ag} {x w:Int},cs[i]?=some c→A[i]?=some x→l[i]?=some w→
  (c.firm=true→x*(Hw cs l).sum-min m (Hw cs l).sum*w<max 1 (Hw cs l).sum∧ -(max 1 (Hw cs l).sum)<x*(Hw cs l).sum-min m (Hw cs l).sum*w)∧
  (c.firm=false→x*(Pq cs l).sum-min (max 0 (m-(Hw cs l).sum)) (Pq cs l).sum*w<max 1 (Pq cs l).sum∧ -(max 1 (Pq cs l).sum)<x*(Pq cs l).sum-min (max 0 (m-(Hw cs l).sum)) (Pq cs l).sum*w)
theorem anU:∀{cs:List Ag} {l A:List Int},(∀{i:Nat} {c:Ag} {x w:Int},cs[i]?=some c→A[i]?=some x→l[i]?=some w→c.firm=true→x=w)→l.length=cs.length→A.length=l.length→Hw cs A=Hw cs l
 | [],_,_,_,_,_=>rfl
 |c::cs,w::l,x::A,h,h1,h2=>by
  have ih:=anU (cs:=cs) (l:=l) (A:=A) (fun {i c x w} hc hx hw=>h (i:=i+1) (by simpa using hc) (by simpa using hx) (by simpa using hw)) (by simpa using h1) (by simpa using h2)
  simp only[Hw,adJ]at ih ⊢
  rw[ih]
  congr 1
  unfold Jj
  split
  ·rename_i hf;exact h (i:=0) rfl rfl rfl hf
  ·rfl
 |c::cs,[],_,_,h1,_=>by simp at h1
 |c::cs,_::_,[],_,_,h2=>by simp at h2
theorem zC:∀{cs:List Ag} {A:List Int},(∀{i:Nat} {c:Ag} {x:Int},cs[i]?=some c→A[i]?=some x→c.firm=false→x=0)→(Pq cs A).sum=0
 | [],_,_=>rfl
 |_::_,[],_=>rfl
 |c::cs,x::A,h=>by
  have ih:=zC (cs:=cs) (A:=A) (fun {i c x} hc hx=>h (i:=i+1) (by simpa using hc) (by simpa using hx))
  simp only[Pq,adJ,adK]at ih ⊢
  rw[ih]
  unfold iE
  split
  ·rfl
  ·rename_i hf;rw[h (i:=0) rfl rfl (by simpa using hf)];rfl
theorem qX{cs:List Ag}{l:List Int}{f:Ag→Int→Int}{i:Nat}{c:Ag}{w:Int}(hc:cs[i]?=some c)(hw:l[i]?=some w):(adF f cs l)[i]?=some (f c w):=by simp[ajS,hc,hw]
theorem avF{cs:List Ag}{l:List Int}{m:Int}(hl:l.length=cs.length)(h8:l.length≤8)(ha:Oo l)(hm:0≤m)(hm':m≤800000000):axW cs l (Xe cs l m) m:=by
 have hf:=ha.fz (cs:=cs)
 have ho:=ha.oz (cs:=cs)
 have lf:(Hw cs l).length=l.length:=by simp[Hw,hl]
 have lo:(Pq cs l).length=l.length:=by simp[Pq,hl]
 have s1:=Si ha (by omega)
 have s2:=Si hf (by omega)
 have s3:=Si ho (by omega)
 have bf:=hf.sum
 have bo:=ho.sum
 have bl:=ha.sum
 have hfo:=wB hl
 unfold Xe
 rw[s1,s2,s3]
 split
 ·rename_i h1
  refine⟨rfl,fun hx hw=>?_,by omega,fun h=>by omega,fun {i c x w} hc hx hw=>?_⟩
  ·rw[hx]at hw;cases hw
   exact⟨(ha _ (adI hx)).1,adP _⟩
  ·rw[hx]at hw;cases hw
   have e1:min m (Hw cs l).sum=(Hw cs l).sum:=by omega
   have e2:min (max 0 (m-(Hw cs l).sum)) (Pq cs l).sum=(Pq cs l).sum:=by omega
   rw[e1,e2,adL x,adL x]
   exact⟨fun _=>by omega,fun _=>by omega⟩
 ·rename_i h1
  split
  ·rename_i h2
   rw[dM hm (by omega) (by omega) hf (by omega)]
   have hg:=fun {i:Nat} {x w:Int} hx hw=>Xo (l:=Hw cs l) (so:=0) hm (by omega:m≤(Hw cs l).sum) (by omega) hf (i:=i) (x:=x) (w:=w) hx hw
   have hz:∀{i:Nat} {c:Ag} {x:Int},cs[i]?=some c→(Gn m (Hw cs l).sum (Hw cs l) 0)[i]?=some x→c.firm=false→x=0:=fun {i c x} hc hx hfm=>by
    have hi:i<l.length:=by
     have:=(ajT.1 hx).1
     rw[Hy,lf]at this;exact this
    obtain⟨w,hw⟩:∃w,l[i]?=some w:=⟨_,adM hi⟩
    have:=hg hx (qX (f:=Jj) hc hw)
    simp only[Jj,hfm,ai4,if_false]at this
    omega
   refine⟨by rw[Hy,lf],fun {i x w} hx hw=>?_,?_,fun _=>zC hz,fun {i c x w} hc hx hw=>?_⟩
   ·have hi:i<cs.length:=by
     have:=(ajT.1 hw).1;omega
    obtain⟨c,hc⟩:∃c,cs[i]?=some c:=⟨_,adM hi⟩
    have:=hg hx (qX (f:=Jj) hc hw)
    have hw0:=ha _ (adI hw)
    unfold Jj at this
    split at this<;>omega
   ·rw[bO (by omega)];omega
   ·have:=hg hx (qX (f:=Jj) hc hw)
    constructor
    ·intro hfm
     simp only[Jj,hfm,if_true]at this
     rw[Int.min_eq_left (by omega)]
     exact⟨by omega,by omega⟩
    ·intro hfm
     rw[hz hc hx hfm,show min (max 0 (m-(Hw cs l).sum)) (Pq cs l).sum=0 by omega]
     omega
  ·rename_i h2
   have e0:IntKind.i64.wrap (m-(Hw cs l).sum)=m-(Hw cs l).sum:=Ae (by omega) (by omega)
   rw[e0,dM (by omega) (by omega) (by omega) ho (by omega)]
   have hg:=fun {i:Nat} {x w:Int} hx hw=>Xo (l:=Pq cs l) (so:=0) (by omega:0≤m-(Hw cs l).sum) (by omega:m-(Hw cs l).sum≤(Pq cs l).sum) (by omega) ho (i:=i) (x:=x) (w:=w) hx hw
   have hA:∀{i:Nat} {c:Ag} {x w:Int},cs[i]?=some c→l[i]?=some w→(adF Vy (Gn (m-(Hw cs l).sum) (Pq cs l).sum (Pq cs l) 0) (Hw cs l))[i]?=some x→(c.firm=true→x=w)∧(c.firm=false→0≤x∧x≤w∧x*(Pq cs l).sum-(m-(Hw cs l).sum)*w<(Pq cs l).sum∧ -(Pq cs l).sum<x*(Pq cs l).sum-(m-(Hw cs l).sum)*w):=fun {i c x w} hc hw hx=>by
    rw[ajS,qX (f:=Jj) hc hw (cs:=cs) (l:=l) |> (fun h=>(show(Hw cs l)[i]?=some (Jj c w)from h))]at hx
    cases hy:(Gn (m-(Hw cs l).sum) (Pq cs l).sum (Pq cs l) 0)[i]? with
    |none=>rw[hy]at hx;simp at hx
    |some y=>
     rw[hy]at hx
     simp only[Option.some.injEq]at hx
     have:=hg hy (qX (f:=iE) hc hw)
     have hw0:=ha _ (adI hw)
     subst hx
     constructor
     ·intro hfm
      simp only[iE,hfm,if_true]at this
      simp only[Vy,Jj,hfm,if_true]
      rw[Ae (by omega) (by omega)];omega
     ·intro hfm
      simp only[iE,hfm,ai4,if_false]at this
      simp only[Vy,Jj,hfm,ai4,if_false]
      rw[Ae (by omega) (by omega),Int.add_zero]
      exact this
   have hlen:(adF Vy (Gn (m-(Hw cs l).sum) (Pq cs l).sum (Pq cs l) 0) (Hw cs l)).length=l.length:=by simp[Hy,lf,lo]
   have hfz:=anU (cs:=cs) (l:=l) (A:=adF Vy (Gn (m-(Hw cs l).sum) (Pq cs l).sum (Pq cs l) 0) (Hw cs l)) (fun {i c x w} hc hx hw hfm=>(hA hc hw hx).1 hfm) hl hlen
   have hoz:Pq cs (adF Vy (Gn (m-(Hw cs l).sum) (Pq cs l).sum (Pq cs l) 0) (Hw cs l))=Gn (m-(Hw cs l).sum) (Pq cs l).sum (Pq cs l) 0:=by
    refine List.ext_getElem? fun i=>?_
    by_cases hi:i<l.length
    ·obtain⟨w,hw⟩:∃w,l[i]?=some w:=⟨_,adM hi⟩
     obtain⟨c,hc⟩:∃c,cs[i]?=some c:=⟨_,adM (by omega)⟩
     obtain⟨y,hy⟩:∃y,(Gn (m-(Hw cs l).sum) (Pq cs l).sum (Pq cs l) 0)[i]?=some y:=⟨_,adM (by rw[Hy,lo];exact hi)⟩
     have:=hg hy (qX (f:=iE) hc hw)
     have hw0:=ha _ (adI hw)
     have hz:(adF Vy (Gn (m-(Hw cs l).sum) (Pq cs l).sum (Pq cs l) 0) (Hw cs l))[i]?=some (Vy y (Jj c w)):=by
      rw[ajS,hy,show(Hw cs l)[i]?=some (Jj c w)from qX hc hw]
     rw[hy,show(Pq cs _)[i]?=some (iE c (Vy y (Jj c w)))from qX hc hz]
     unfold iE at this ⊢
     split at this
     ·rename_i hfm;rw[if_pos hfm];congr 1;omega
     ·rename_i hfm
      rw[if_neg hfm]
      simp only[Vy,Jj,hfm,ai4,if_false]
      rw[Ae (by omega) (by omega),Int.add_zero]
    ·rw[anV (by simp[Pq,Hy,lo,lf];omega),anV (by rw[Hy,lo];omega)]
   have hs:=wB (cs:=cs) (l:=adF Vy (Gn (m-(Hw cs l).sum) (Pq cs l).sum (Pq cs l) 0) (Hw cs l)) (by omega)
   rw[hfz,hoz,bO (by omega)]at hs
   refine⟨hlen,fun {i x w} hx hw=>?_,by omega,fun h=>by rw[hfz]at h;omega,fun {i c x w} hc hx hw=>?_⟩
   ·have hi:i<cs.length:=by
     have:=(ajT.1 hw).1;omega
    obtain⟨c,hc⟩:∃c,cs[i]?=some c:=⟨_,adM hi⟩
    have hq:=hA hc hw hx
    have hw0:=ha _ (adI hw)
    cases hfm:c.firm with
    |true=>have:=hq.1 hfm;omega
    |false=>have:=hq.2 hfm;omega
   ·have hq:=hA hc hw hx
    constructor
    ·intro hfm
     rw[hq.1 hfm,Int.min_eq_right (by omega),adL w]
     omega
    ·intro hfm
     have:=hq.2 hfm
     rw[show min (max 0 (m-(Hw cs l).sum)) (Pq cs l).sum=m-(Hw cs l).sum by omega]
     exact⟨by omega,by omega⟩
end Go.Proofs.YtdbiogihimdpcaaGreatDoor
