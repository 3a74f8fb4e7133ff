/- The functions of the layer, walked. -/
import Derived.Test.YtdbiogihimdpcaaGreatDoorPartAG
import Derived.Test.YtdbiogihimdpcaaGreatDoorPartAB
import Derived.Test.YtdbiogihimdpcaaGreatDoorPartAC
import Derived.Test.YtdbiogihimdpcaaGreatDoorPartAD
open List renaming length_map→aaS,map_nil→aaW,map_cons→aa6,length_cons→abB,length_set→abO,length_nil→abT,getElem?_set→abY,exists_cons_of_ne_nil→acF,length_pos_iff→acK,mem_cons_self→acZ,all_cons→adV,mem_of_getElem?→aeH,mem_cons_of_mem→aeP,all_eq_true→ae6,getElem?_eq_getElem→ae7
open Bool renaming and_eq_true→aa0,not_true→aeM,eq_iff_iff→aeZ,not_false→ae8
open Int renaming lt_irrefl→ab9
open Nat renaming le_refl→aeW
set_option linter.unusedSimpArgs false
set_option linter.unusedVariables false
namespace Go.Proofs.YtdbiogihimdpcaaGreatDoor
open Go.Ev Go
set_option maxRecDepth 100000
set_option maxHeartbeats 16000000
def stO(n:Nat)(hr own fuel:Int)(ov wv av fv rv:AV):Eo:=.ret (.tup [.agg [.int .i64 hr,.slr 1 0 0 n,.int .i64 own,.int .i64 fuel,.slr 1 1 0 n,ov],.agg [wv,av,fv,rv]])
def Zi(w:Bool)(l:List Int):CB:=.live 1 true w (l.map iv)
def lv5(w:Bool)(l:List Aa):CB:=.live 5 true w (l.map Aa.cells)
def nE(n:Nat)(hr own fuel:Int)(G L:List Int)(O:List Aa)(R W A F:List Int)(o:Eo)(h:Ab):Prop:=
 ∃w1 w2 w3 w4 w5 w6 w7:Bool,
  (O=[]∧R=[]∧o=stO n hr own fuel .nils (.slr 1 2 0 n) (.slr 1 3 0 n) (.slr 1 4 0 n) .nils∧h=[Zi w1 G,Zi w2 L,Zi w3 W,Zi w4 A,Zi w5 F])∨
  (R=[]∧o=stO n hr own fuel (.slr 5 2 0 O.length) (.slr 1 3 0 n) (.slr 1 4 0 n) (.slr 1 5 0 n) .nils∧h=[Zi w1 G,Zi w2 L,lv5 w6 O,Zi w3 W,Zi w4 A,Zi w5 F])∨
  (O=[]∧R≠[]∧o=stO n hr own fuel .nils (.slr 1 2 0 n) (.slr 1 3 0 n) (.slr 1 4 0 n) (.slr 1 5 0 R.length)∧h=[Zi w1 G,Zi w2 L,Zi w3 W,Zi w4 A,Zi w5 F,Zi w7 R])∨
  (R≠[]∧o=stO n hr own fuel (.slr 5 2 0 O.length) (.slr 1 3 0 n) (.slr 1 4 0 n) (.slr 1 5 0 n) (.slr 1 6 0 R.length)∧h=[Zi w1 G,Zi w2 L,lv5 w6 O,Zi w3 W,Zi w4 A,Zi w5 F,Zi w7 R])
theorem an8{s:Ac}{d:Ap}{hr own fuel:Int}{x:Bc}{G L:List Int}{O:List Aa}{nG nL nO:Bool}(K:cX s d hr x O)(hG:G.length=s.cons.length)(hL:L.length=s.cons.length)(hO:O=[]∧nO=false):
 Ql Bi 64 [.agg s.cells,.agg [.int .i64 hr,Ao 1 true nG (G.map iv),.int .i64 own,.int .i64 fuel,Ao 1 true nL (L.map iv),Ao 5 true nO (O.map Aa.cells)],.agg d.cells] []
  (nE s.cons.length (IntKind.i64.wrap (hr+1)) (bY s d hr x G L O own) (G6 s d hr x G L O fuel).2 (G6 s d hr x G L O fuel).1 (L7 s d hr x G L O) (T2 s d hr G L O).2.1 (T2 s d hr G L O).2.2 (W3 s d hr G L O) (A4 s d hr x G L O) (F5 s d hr x G L O)):=by
 have hlen:=K.len
 have hp:0<s.cons.length:=acK.2 K.ne
 have hGn:G≠[]:=fun e=>by rw[e]at hG;simp at hG;omega
 have hLn:L≠[]:=fun e=>by rw[e]at hL;simp at hL;omega
 obtain⟨hO1,rfl⟩:=hO
 have hsl:Ao 5 true false (O.map Aa.cells)=.nils:=by rw[hO1];rfl
 have hc1:=Uu (l:=G) (by omega) hGn
 have hc2:=Uu (l:=L) (by omega) hLn
 have hct:Bi.call (.fn 103) [.nils] []=some (.ret .nils,[]):=mB
 have hb7:=pC 7
 simp only[sJ,xH,aa6,aaW]at hb7
 rw[hG]at hc1
 rw[hL]at hc2
 rw[lS (n:=1) (fl:=true) (nn:=nG) (Qx hGn),lS (n:=1) (fl:=true) (nn:=nL) (Qx hLn)]
 refine Je rfl Tryz.func64 rfl rfl ?_
 simp only[Tryz.f64]
 (have hb:=trivial;with_reducible repeat' (first|simp only[hb,Vc.down,seval,cV.down,hc1,hc2,hct,hsl,Ap.cells,hb7,aaW]|refine Af ?_ ?_<;>intro hb|refine fd ?_|fail))
 refine Cd (Np 66 xH (fun i (_:Unit) t h=>t 8=.ptr 7 0 0∧t 6=.ptr 3 0 0∧t 7=.ptr 4 0 0∧t 42=.agg (xH.map (sJ 7))∧t 43=.int .i64 i∧alH h∧StS s d hr own fuel x G L O 7 i h) (fun _ _=>()) (fun _ e t h=>e=.exit 0∧t 8=.ptr 7 0 0∧t 6=.ptr 3 0 0∧t 7=.ptr 4 0 0∧alH h∧StS s d hr own fuel x G L O 7 7 h) ?_ ?_ () _ _ ?_) (fun e t h hk=>?_)
 ·rintro _ t h Q' kQ ⟨h8,h6,h7,h42,h43,hF,hS⟩
  rw[show xH.length=7 from rfl]at h43 hS
  have h77:decide (((7:Nat):Int)<7)=false:=by decide
  (have hb:=trivial;with_reducible repeat' (first|simp only[hb,Vc.down,seval,cV.down,h43,h77]|refine Af ?_ ?_<;>intro hb|refine fd ?_|fail))
  exact kQ _ _ _ ⟨rfl,by simp[up,h8],by simp[up,h6],by simp[up,h7],hF,hS⟩
 ·rintro f rest i _ t h J Q' kJ kQ hx hi ⟨h8,h6,h7,h42,h43,hF,hS⟩
  have hi7:i<7:=hi
  have hd:decide ((i:Int)<7)=true:=decide_eq_true (by omega)
  have hw:IntKind.i64.wrap ((i:Int)+1)=((i+1:Nat):Int):=Ai (n:=7) hi7 (by unfold maxLen;omega)
  obtain⟨es,e,hB,hS'⟩:=akL K hx hS
  have hii:((i:Int)<7)=True:=eq_true (by omega)
  (have hb:=trivial;with_reducible repeat' (first|simp only[hb,Vc.down,seval,cV.down,h42,h43,hd,hw,aq8,hii,Nat.mul_one,hx,e]|refine Af ?_ ?_<;>intro hb|refine fd ?_|fail))
  refine Ah (kJ _ _ () ⟨?_,?_,?_,?_,?_,?_,hS'⟩ rfl)
  ·simp[up,h8]
  ·simp[up,h6]
  ·simp[up,h7]
  ·simp[up,h42,sJ]
  ·simp[up]
  ·exact⟨by obtain⟨⟨fl,w,hw1⟩,_⟩:=hF;exact⟨fl,w,by rw[hB 3 (by omega)];exact hw1⟩,by obtain⟨_,fl,w,hw1⟩:=hF;exact⟨fl,w,by rw[hB 4 (by omega)];exact hw1⟩⟩
 ·refine⟨by simp[up],by simp[up],by simp[up],by simp[up,xH,sJ],by simp[up],⟨⟨_,_,rfl⟩,⟨_,_,rfl⟩⟩,?_⟩
  exact⟨by omega,hG,hL,_,_,_,_,_,rfl,rfl,rfl,.inl ⟨hO1,rfl⟩,.inl ⟨rfl,rfl⟩⟩
 ·obtain⟨rfl,h8,h6,h7,⟨⟨f3,v3,h3⟩,f4,v4,h4⟩,H⟩:=hk
  obtain⟨r,hqr⟩:∃r:Nat,r=7:=⟨_,rfl⟩
  replace h8:t 8=.ptr r 0 0:=by rw[hqr];exact h8
  replace H:StS s d hr own fuel x G L O r 7 h:=by rw[hqr];exact H
  obtain⟨hr6,hG',hL',hWl,hAl,hFl,w,w1,w2,ov,rv,iw,ia,jf,w4,w6,w7,hR,hg,h6b,hov,hrv,hw,hw6,ha,ha6,hf,hf6,d01,d02,d12⟩:=H
  clear hqr
  have hsr:La r 7 r=1000:=by unfold La;rw[if_neg (by omega)];omega
  have l1:=Fb hR
  have y1:=eq_true l1
  have y2:=eq_true (Fb h3)
  have y3:=eq_true (Fb h4)
  have z1:(r=3)=False:=eq_false (by omega)
  have z2:(r=4)=False:=eq_false (by omega)
  have z3:∀k,6<k→(3=k)=False:=fun k hk=>eq_false (by omega)
  have z4:∀k,6<k→(4=k)=False:=fun k hk=>eq_false (by omega)
  have zr:=z3 r hr6
  have zr':=z4 r hr6
  have zw:=z3 iw hw6
  have zw':=z4 iw hw6
  have za:=z3 ia ha6
  have za':=z4 ia ha6
  have zf:=z3 jf hf6
  have zf':=z4 jf hf6
  rcases hov with⟨hO2,rfl⟩|⟨io,w3,rfl,hio,hio6⟩<;>rcases hrv with⟨hR2,rfl⟩|⟨iq,w5,hRn,rfl,hiq,hiq6,hqx⟩
  ·have n_0_1:(r=5)=False:=eq_false (by omega)
   have n_0_2:(r=6)=False:=eq_false (by omega)
   have n_0_3:(r=iw)=False:=eq_false fun e=>by subst e;rw[hR]at hw;simp at hw
   have qn_0_3:r≠iw:=of_eq_false n_0_3
   have n_0_4:(r=ia)=False:=eq_false fun e=>by subst e;rw[hR]at ha;simp at ha
   have qn_0_4:r≠ia:=of_eq_false n_0_4
   have n_0_5:(r=jf)=False:=eq_false fun e=>by subst e;rw[hR]at hf;simp at hf
   have qn_0_5:r≠jf:=of_eq_false n_0_5
   have n_1_3:(5=iw)=False:=eq_false (by omega)
   have n_1_4:(5=ia)=False:=eq_false (by omega)
   have n_1_5:(5=jf)=False:=eq_false (by omega)
   have n_2_3:(6=iw)=False:=eq_false (by omega)
   have n_2_4:(6=ia)=False:=eq_false (by omega)
   have n_2_5:(6=jf)=False:=eq_false (by omega)
   have n_3_4:(iw=ia)=False:=eq_false d01
   have qn_3_4:iw≠ia:=of_eq_false n_3_4
   have n_3_5:(iw=jf)=False:=eq_false d02
   have qn_3_5:iw≠jf:=of_eq_false n_3_5
   have n_4_5:(ia=jf)=False:=eq_false d12
   have qn_4_5:ia≠jf:=of_eq_false n_4_5
   (have hb:=trivial;with_reducible repeat' (first|simp only[hb,Vc.down,seval,cV.down,h8,h6,h7,h3,h4,abY,abO,hR,hg,h6b,hw,ha,hf,n_0_1,n_0_2,n_0_3,n_0_4,n_0_5,n_1_3,n_1_4,n_1_5,n_2_3,n_2_4,n_2_5,n_3_4,n_3_5,n_4_5,y1,y2,y3,z1,z2,zr,zr',zw,zw',za,za',zf,zf']|refine Af ?_ ?_<;>intro hb|((refine Dh (r) 7 ?_ ?_);(simp (discharger:=decide) only[Dc,Bq,aa6,aaW,Bf,Db,Dj,Df,Di,Bd,Bo,Br,abB,abT,hsr];kernel_rfl);intro _)|refine Wz ?_|fail))
   exact⟨w1,w2,w4,w6,w7,false,false,.inl ⟨hO2,hR2,rfl,rfl⟩⟩
  ·have n_0_1:(r=5)=False:=eq_false (by omega)
   have n_0_2:(r=6)=False:=eq_false (by omega)
   have n_0_3:(r=iw)=False:=eq_false fun e=>by subst e;rw[hR]at hw;simp at hw
   have qn_0_3:r≠iw:=of_eq_false n_0_3
   have n_0_4:(r=ia)=False:=eq_false fun e=>by subst e;rw[hR]at ha;simp at ha
   have qn_0_4:r≠ia:=of_eq_false n_0_4
   have n_0_5:(r=jf)=False:=eq_false fun e=>by subst e;rw[hR]at hf;simp at hf
   have qn_0_5:r≠jf:=of_eq_false n_0_5
   have n_0_6:(r=iq)=False:=eq_false fun e=>by subst e;rw[hR]at hiq;simp at hiq
   have qn_0_6:r≠iq:=of_eq_false n_0_6
   have n_1_3:(5=iw)=False:=eq_false (by omega)
   have n_1_4:(5=ia)=False:=eq_false (by omega)
   have n_1_5:(5=jf)=False:=eq_false (by omega)
   have n_1_6:(5=iq)=False:=eq_false (by omega)
   have n_2_3:(6=iw)=False:=eq_false (by omega)
   have n_2_4:(6=ia)=False:=eq_false (by omega)
   have n_2_5:(6=jf)=False:=eq_false (by omega)
   have n_2_6:(6=iq)=False:=eq_false (by omega)
   have n_3_4:(iw=ia)=False:=eq_false d01
   have qn_3_4:iw≠ia:=of_eq_false n_3_4
   have n_3_5:(iw=jf)=False:=eq_false d02
   have qn_3_5:iw≠jf:=of_eq_false n_3_5
   have n_3_6:(iw=iq)=False:=eq_false fun e=>by subst e;simp at hqx
   have qn_3_6:iw≠iq:=of_eq_false n_3_6
   have n_4_5:(ia=jf)=False:=eq_false d12
   have qn_4_5:ia≠jf:=of_eq_false n_4_5
   have n_4_6:(ia=iq)=False:=eq_false fun e=>by subst e;simp at hqx
   have qn_4_6:ia≠iq:=of_eq_false n_4_6
   have n_5_6:(jf=iq)=False:=eq_false fun e=>by subst e;simp at hqx
   have qn_5_6:jf≠iq:=of_eq_false n_5_6
   have l5:=Fb hiq
   have zq:=z3 iq hiq6
   have zq':=z4 iq hiq6
   (have hb:=trivial;with_reducible repeat' (first|simp only[hb,Vc.down,seval,cV.down,h8,h6,h7,h3,h4,abY,abO,hR,hg,h6b,hw,ha,hf,hiq,n_0_1,n_0_2,n_0_3,n_0_4,n_0_5,n_0_6,n_1_3,n_1_4,n_1_5,n_1_6,n_2_3,n_2_4,n_2_5,n_2_6,n_3_4,n_3_5,n_3_6,n_4_5,n_4_6,n_5_6,y1,y2,y3,z1,z2,zr,zr',zw,zw',za,za',zf,zf',zq,zq']|refine Af ?_ ?_<;>intro hb|((refine Dh (r) 7 ?_ ?_);(simp (discharger:=decide) only[Dc,Bq,aa6,aaW,Bf,Db,Dj,Df,Di,Bd,Bo,Br,abB,abT,hsr];kernel_rfl);intro _)|refine Wz ?_|fail))
   exact⟨w1,w2,w4,w6,w7,false,w5,.inr (.inr (.inl ⟨hO2,hRn,rfl,rfl⟩))⟩
  ·have n_0_1:(r=5)=False:=eq_false (by omega)
   have n_0_2:(r=6)=False:=eq_false (by omega)
   have n_0_3:(r=io)=False:=eq_false fun e=>by subst e;rw[hR]at hio;simp at hio
   have qn_0_3:r≠io:=of_eq_false n_0_3
   have n_0_4:(r=iw)=False:=eq_false fun e=>by subst e;rw[hR]at hw;simp at hw
   have qn_0_4:r≠iw:=of_eq_false n_0_4
   have n_0_5:(r=ia)=False:=eq_false fun e=>by subst e;rw[hR]at ha;simp at ha
   have qn_0_5:r≠ia:=of_eq_false n_0_5
   have n_0_6:(r=jf)=False:=eq_false fun e=>by subst e;rw[hR]at hf;simp at hf
   have qn_0_6:r≠jf:=of_eq_false n_0_6
   have n_1_3:(5=io)=False:=eq_false (by omega)
   have n_1_4:(5=iw)=False:=eq_false (by omega)
   have n_1_5:(5=ia)=False:=eq_false (by omega)
   have n_1_6:(5=jf)=False:=eq_false (by omega)
   have n_2_3:(6=io)=False:=eq_false (by omega)
   have n_2_4:(6=iw)=False:=eq_false (by omega)
   have n_2_5:(6=ia)=False:=eq_false (by omega)
   have n_2_6:(6=jf)=False:=eq_false (by omega)
   have n_3_4:(io=iw)=False:=eq_false fun e=>by subst e;rw[hio]at hw;simp at hw
   have qn_3_4:io≠iw:=of_eq_false n_3_4
   have n_3_5:(io=ia)=False:=eq_false fun e=>by subst e;rw[hio]at ha;simp at ha
   have qn_3_5:io≠ia:=of_eq_false n_3_5
   have n_3_6:(io=jf)=False:=eq_false fun e=>by subst e;rw[hio]at hf;simp at hf
   have qn_3_6:io≠jf:=of_eq_false n_3_6
   have n_4_5:(iw=ia)=False:=eq_false d01
   have qn_4_5:iw≠ia:=of_eq_false n_4_5
   have n_4_6:(iw=jf)=False:=eq_false d02
   have qn_4_6:iw≠jf:=of_eq_false n_4_6
   have n_5_6:(ia=jf)=False:=eq_false d12
   have qn_5_6:ia≠jf:=of_eq_false n_5_6
   have l4:=Fb hio
   have zo:=z3 io hio6
   have zo':=z4 io hio6
   (have hb:=trivial;with_reducible repeat' (first|simp only[hb,Vc.down,seval,cV.down,h8,h6,h7,h3,h4,abY,abO,hR,hg,h6b,hio,hw,ha,hf,n_0_1,n_0_2,n_0_3,n_0_4,n_0_5,n_0_6,n_1_3,n_1_4,n_1_5,n_1_6,n_2_3,n_2_4,n_2_5,n_2_6,n_3_4,n_3_5,n_3_6,n_4_5,n_4_6,n_5_6,y1,y2,y3,z1,z2,zr,zr',zw,zw',za,za',zf,zf',zo,zo']|refine Af ?_ ?_<;>intro hb|((refine Dh (r) 7 ?_ ?_);(simp (discharger:=decide) only[Dc,Bq,aa6,aaW,Bf,Db,Dj,Df,Di,Bd,Bo,Br,abB,abT,hsr];kernel_rfl);intro _)|refine Wz ?_|fail))
   exact⟨w1,w2,w4,w6,w7,w3,false,.inr (.inl ⟨hR2,rfl,rfl⟩)⟩
  ·have n_0_1:(r=5)=False:=eq_false (by omega)
   have n_0_2:(r=6)=False:=eq_false (by omega)
   have n_0_3:(r=io)=False:=eq_false fun e=>by subst e;rw[hR]at hio;simp at hio
   have qn_0_3:r≠io:=of_eq_false n_0_3
   have n_0_4:(r=iw)=False:=eq_false fun e=>by subst e;rw[hR]at hw;simp at hw
   have qn_0_4:r≠iw:=of_eq_false n_0_4
   have n_0_5:(r=ia)=False:=eq_false fun e=>by subst e;rw[hR]at ha;simp at ha
   have qn_0_5:r≠ia:=of_eq_false n_0_5
   have n_0_6:(r=jf)=False:=eq_false fun e=>by subst e;rw[hR]at hf;simp at hf
   have qn_0_6:r≠jf:=of_eq_false n_0_6
   have n_0_7:(r=iq)=False:=eq_false fun e=>by subst e;rw[hR]at hiq;simp at hiq
   have qn_0_7:r≠iq:=of_eq_false n_0_7
   have n_1_3:(5=io)=False:=eq_false (by omega)
   have n_1_4:(5=iw)=False:=eq_false (by omega)
   have n_1_5:(5=ia)=False:=eq_false (by omega)
   have n_1_6:(5=jf)=False:=eq_false (by omega)
   have n_1_7:(5=iq)=False:=eq_false (by omega)
   have n_2_3:(6=io)=False:=eq_false (by omega)
   have n_2_4:(6=iw)=False:=eq_false (by omega)
   have n_2_5:(6=ia)=False:=eq_false (by omega)
   have n_2_6:(6=jf)=False:=eq_false (by omega)
   have n_2_7:(6=iq)=False:=eq_false (by omega)
   have n_3_4:(io=iw)=False:=eq_false fun e=>by subst e;rw[hio]at hw;simp at hw
   have qn_3_4:io≠iw:=of_eq_false n_3_4
   have n_3_5:(io=ia)=False:=eq_false fun e=>by subst e;rw[hio]at ha;simp at ha
   have qn_3_5:io≠ia:=of_eq_false n_3_5
   have n_3_6:(io=jf)=False:=eq_false fun e=>by subst e;rw[hio]at hf;simp at hf
   have qn_3_6:io≠jf:=of_eq_false n_3_6
   have n_3_7:(io=iq)=False:=eq_false fun e=>by subst e;rw[hio]at hiq;simp at hiq
   have qn_3_7:io≠iq:=of_eq_false n_3_7
   have n_4_5:(iw=ia)=False:=eq_false d01
   have qn_4_5:iw≠ia:=of_eq_false n_4_5
   have n_4_6:(iw=jf)=False:=eq_false d02
   have qn_4_6:iw≠jf:=of_eq_false n_4_6
   have n_4_7:(iw=iq)=False:=eq_false fun e=>by subst e;simp at hqx
   have qn_4_7:iw≠iq:=of_eq_false n_4_7
   have n_5_6:(ia=jf)=False:=eq_false d12
   have qn_5_6:ia≠jf:=of_eq_false n_5_6
   have n_5_7:(ia=iq)=False:=eq_false fun e=>by subst e;simp at hqx
   have qn_5_7:ia≠iq:=of_eq_false n_5_7
   have n_6_7:(jf=iq)=False:=eq_false fun e=>by subst e;simp at hqx
   have qn_6_7:jf≠iq:=of_eq_false n_6_7
   have l4:=Fb hio
   have l5:=Fb hiq
   have zo:=z3 io hio6
   have zo':=z4 io hio6
   have zq:=z3 iq hiq6
   have zq':=z4 iq hiq6
   (have hb:=trivial;with_reducible repeat' (first|simp only[hb,Vc.down,seval,cV.down,h8,h6,h7,h3,h4,abY,abO,hR,hg,h6b,hio,hw,ha,hf,hiq,n_0_1,n_0_2,n_0_3,n_0_4,n_0_5,n_0_6,n_0_7,n_1_3,n_1_4,n_1_5,n_1_6,n_1_7,n_2_3,n_2_4,n_2_5,n_2_6,n_2_7,n_3_4,n_3_5,n_3_6,n_3_7,n_4_5,n_4_6,n_4_7,n_5_6,n_5_7,n_6_7,y1,y2,y3,z1,z2,zr,zr',zw,zw',za,za',zf,zf',zo,zo',zq,zq']|refine Af ?_ ?_<;>intro hb|((refine Dh (r) 7 ?_ ?_);(simp (discharger:=decide) only[Dc,Bq,aa6,aaW,Bf,Db,Dj,Df,Di,Bd,Bo,Br,abB,abT,hsr];kernel_rfl);intro _)|refine Wz ?_|fail))
   exact⟨w1,w2,w4,w6,w7,w3,w5,.inr (.inr (.inr ⟨hRn,rfl,rfl⟩))⟩
theorem ao1{s:Ac}{d:Ap}{hr own fuel:Int}{x:Bc}{G L:List Int}{O:List Aa}{nG nL nO:Bool}(K:cX s d hr x O)(hG:G.length=s.cons.length)(hL:L.length=s.cons.length)(hO:¬(O=[]∧nO=false)):
 Ql Bi 64 [.agg s.cells,.agg [.int .i64 hr,Ao 1 true nG (G.map iv),.int .i64 own,.int .i64 fuel,Ao 1 true nL (L.map iv),Ao 5 true nO (O.map Aa.cells)],.agg d.cells] []
  (nE s.cons.length (IntKind.i64.wrap (hr+1)) (bY s d hr x G L O own) (G6 s d hr x G L O fuel).2 (G6 s d hr x G L O fuel).1 (L7 s d hr x G L O) (T2 s d hr G L O).2.1 (T2 s d hr G L O).2.2 (W3 s d hr G L O) (A4 s d hr x G L O) (F5 s d hr x G L O)):=by
 have hlen:=K.len
 have hp:0<s.cons.length:=acK.2 K.ne
 have hGn:G≠[]:=fun e=>by rw[e]at hG;simp at hG;omega
 have hLn:L≠[]:=fun e=>by rw[e]at hL;simp at hL;omega
 skip
 have hc1:=Uu (l:=G) (by omega) hGn
 have hc2:=Uu (l:=L) (by omega) hLn
 have hct:=pH (l:=O) (nn:=nO) K.owed hO
 have hb7:=pC 8
 simp only[sJ,xH,aa6,aaW]at hb7
 rw[hG]at hc1
 rw[hL]at hc2
 rw[lS (n:=1) (fl:=true) (nn:=nG) (Qx hGn),lS (n:=1) (fl:=true) (nn:=nL) (Qx hLn)]
 refine Je rfl Tryz.func64 rfl rfl ?_
 simp only[Tryz.f64]
 (have hb:=trivial;with_reducible repeat' (first|simp only[hb,Vc.down,seval,cV.down,hc1,hc2,hct,hct,Ap.cells,hb7,aaW]|refine Af ?_ ?_<;>intro hb|refine fd ?_|fail))
 refine Cd (Np 66 xH (fun i (_:Unit) t h=>t 8=.ptr 8 0 0∧t 6=.ptr 3 0 0∧t 7=.ptr 4 0 0∧t 42=.agg (xH.map (sJ 8))∧t 43=.int .i64 i∧alH h∧StS s d hr own fuel x G L O 8 i h) (fun _ _=>()) (fun _ e t h=>e=.exit 0∧t 8=.ptr 8 0 0∧t 6=.ptr 3 0 0∧t 7=.ptr 4 0 0∧alH h∧StS s d hr own fuel x G L O 8 7 h) ?_ ?_ () _ _ ?_) (fun e t h hk=>?_)
 ·rintro _ t h Q' kQ ⟨h8,h6,h7,h42,h43,hF,hS⟩
  rw[show xH.length=7 from rfl]at h43 hS
  have h77:decide (((7:Nat):Int)<7)=false:=by decide
  (have hb:=trivial;with_reducible repeat' (first|simp only[hb,Vc.down,seval,cV.down,h43,h77]|refine Af ?_ ?_<;>intro hb|refine fd ?_|fail))
  exact kQ _ _ _ ⟨rfl,by simp[up,h8],by simp[up,h6],by simp[up,h7],hF,hS⟩
 ·rintro f rest i _ t h J Q' kJ kQ hx hi ⟨h8,h6,h7,h42,h43,hF,hS⟩
  have hi7:i<7:=hi
  have hd:decide ((i:Int)<7)=true:=decide_eq_true (by omega)
  have hw:IntKind.i64.wrap ((i:Int)+1)=((i+1:Nat):Int):=Ai (n:=7) hi7 (by unfold maxLen;omega)
  obtain⟨es,e,hB,hS'⟩:=akL K hx hS
  have hii:((i:Int)<7)=True:=eq_true (by omega)
  (have hb:=trivial;with_reducible repeat' (first|simp only[hb,Vc.down,seval,cV.down,h42,h43,hd,hw,aq8,hii,Nat.mul_one,hx,e]|refine Af ?_ ?_<;>intro hb|refine fd ?_|fail))
  refine Ah (kJ _ _ () ⟨?_,?_,?_,?_,?_,?_,hS'⟩ rfl)
  ·simp[up,h8]
  ·simp[up,h6]
  ·simp[up,h7]
  ·simp[up,h42,sJ]
  ·simp[up]
  ·exact⟨by obtain⟨⟨fl,w,hw1⟩,_⟩:=hF;exact⟨fl,w,by rw[hB 3 (by omega)];exact hw1⟩,by obtain⟨_,fl,w,hw1⟩:=hF;exact⟨fl,w,by rw[hB 4 (by omega)];exact hw1⟩⟩
 ·refine⟨by simp[up],by simp[up],by simp[up],by simp[up,xH,sJ],by simp[up],⟨⟨_,_,rfl⟩,⟨_,_,rfl⟩⟩,?_⟩
  exact⟨by omega,hG,hL,_,_,_,_,_,rfl,rfl,rfl,.inr ⟨7,false,rfl,rfl,by omega⟩,.inl ⟨rfl,rfl⟩⟩
 ·obtain⟨rfl,h8,h6,h7,⟨⟨f3,v3,h3⟩,f4,v4,h4⟩,H⟩:=hk
  obtain⟨r,hqr⟩:∃r:Nat,r=8:=⟨_,rfl⟩
  replace h8:t 8=.ptr r 0 0:=by rw[hqr];exact h8
  replace H:StS s d hr own fuel x G L O r 7 h:=by rw[hqr];exact H
  obtain⟨hr6,hG',hL',hWl,hAl,hFl,w,w1,w2,ov,rv,iw,ia,jf,w4,w6,w7,hR,hg,h6b,hov,hrv,hw,hw6,ha,ha6,hf,hf6,d01,d02,d12⟩:=H
  clear hqr
  have hsr:La r 7 r=1000:=by unfold La;rw[if_neg (by omega)];omega
  have l1:=Fb hR
  have y1:=eq_true l1
  have y2:=eq_true (Fb h3)
  have y3:=eq_true (Fb h4)
  have z1:(r=3)=False:=eq_false (by omega)
  have z2:(r=4)=False:=eq_false (by omega)
  have z3:∀k,6<k→(3=k)=False:=fun k hk=>eq_false (by omega)
  have z4:∀k,6<k→(4=k)=False:=fun k hk=>eq_false (by omega)
  have zr:=z3 r hr6
  have zr':=z4 r hr6
  have zw:=z3 iw hw6
  have zw':=z4 iw hw6
  have za:=z3 ia ha6
  have za':=z4 ia ha6
  have zf:=z3 jf hf6
  have zf':=z4 jf hf6
  rcases hov with⟨hO2,rfl⟩|⟨io,w3,rfl,hio,hio6⟩<;>rcases hrv with⟨hR2,rfl⟩|⟨iq,w5,hRn,rfl,hiq,hiq6,hqx⟩
  ·have n_0_1:(r=5)=False:=eq_false (by omega)
   have n_0_2:(r=6)=False:=eq_false (by omega)
   have n_0_3:(r=iw)=False:=eq_false fun e=>by subst e;rw[hR]at hw;simp at hw
   have qn_0_3:r≠iw:=of_eq_false n_0_3
   have n_0_4:(r=ia)=False:=eq_false fun e=>by subst e;rw[hR]at ha;simp at ha
   have qn_0_4:r≠ia:=of_eq_false n_0_4
   have n_0_5:(r=jf)=False:=eq_false fun e=>by subst e;rw[hR]at hf;simp at hf
   have qn_0_5:r≠jf:=of_eq_false n_0_5
   have n_1_3:(5=iw)=False:=eq_false (by omega)
   have n_1_4:(5=ia)=False:=eq_false (by omega)
   have n_1_5:(5=jf)=False:=eq_false (by omega)
   have n_2_3:(6=iw)=False:=eq_false (by omega)
   have n_2_4:(6=ia)=False:=eq_false (by omega)
   have n_2_5:(6=jf)=False:=eq_false (by omega)
   have n_3_4:(iw=ia)=False:=eq_false d01
   have qn_3_4:iw≠ia:=of_eq_false n_3_4
   have n_3_5:(iw=jf)=False:=eq_false d02
   have qn_3_5:iw≠jf:=of_eq_false n_3_5
   have n_4_5:(ia=jf)=False:=eq_false d12
   have qn_4_5:ia≠jf:=of_eq_false n_4_5
   (have hb:=trivial;with_reducible repeat' (first|simp only[hb,Vc.down,seval,cV.down,h8,h6,h7,h3,h4,abY,abO,hR,hg,h6b,hw,ha,hf,n_0_1,n_0_2,n_0_3,n_0_4,n_0_5,n_1_3,n_1_4,n_1_5,n_2_3,n_2_4,n_2_5,n_3_4,n_3_5,n_4_5,y1,y2,y3,z1,z2,zr,zr',zw,zw',za,za',zf,zf']|refine Af ?_ ?_<;>intro hb|((refine Dh (r) 7 ?_ ?_);(simp (discharger:=decide) only[Dc,Bq,aa6,aaW,Bf,Db,Dj,Df,Di,Bd,Bo,Br,abB,abT,hsr];kernel_rfl);intro _)|refine Wz ?_|fail))
   exact⟨w1,w2,w4,w6,w7,false,false,.inl ⟨hO2,hR2,rfl,rfl⟩⟩
  ·have n_0_1:(r=5)=False:=eq_false (by omega)
   have n_0_2:(r=6)=False:=eq_false (by omega)
   have n_0_3:(r=iw)=False:=eq_false fun e=>by subst e;rw[hR]at hw;simp at hw
   have qn_0_3:r≠iw:=of_eq_false n_0_3
   have n_0_4:(r=ia)=False:=eq_false fun e=>by subst e;rw[hR]at ha;simp at ha
   have qn_0_4:r≠ia:=of_eq_false n_0_4
   have n_0_5:(r=jf)=False:=eq_false fun e=>by subst e;rw[hR]at hf;simp at hf
   have qn_0_5:r≠jf:=of_eq_false n_0_5
   have n_0_6:(r=iq)=False:=eq_false fun e=>by subst e;rw[hR]at hiq;simp at hiq
   have qn_0_6:r≠iq:=of_eq_false n_0_6
   have n_1_3:(5=iw)=False:=eq_false (by omega)
   have n_1_4:(5=ia)=False:=eq_false (by omega)
   have n_1_5:(5=jf)=False:=eq_false (by omega)
   have n_1_6:(5=iq)=False:=eq_false (by omega)
   have n_2_3:(6=iw)=False:=eq_false (by omega)
   have n_2_4:(6=ia)=False:=eq_false (by omega)
   have n_2_5:(6=jf)=False:=eq_false (by omega)
   have n_2_6:(6=iq)=False:=eq_false (by omega)
   have n_3_4:(iw=ia)=False:=eq_false d01
   have qn_3_4:iw≠ia:=of_eq_false n_3_4
   have n_3_5:(iw=jf)=False:=eq_false d02
   have qn_3_5:iw≠jf:=of_eq_false n_3_5
   have n_3_6:(iw=iq)=False:=eq_false fun e=>by subst e;simp at hqx
   have qn_3_6:iw≠iq:=of_eq_false n_3_6
   have n_4_5:(ia=jf)=False:=eq_false d12
   have qn_4_5:ia≠jf:=of_eq_false n_4_5
   have n_4_6:(ia=iq)=False:=eq_false fun e=>by subst e;simp at hqx
   have qn_4_6:ia≠iq:=of_eq_false n_4_6
   have n_5_6:(jf=iq)=False:=eq_false fun e=>by subst e;simp at hqx
   have qn_5_6:jf≠iq:=of_eq_false n_5_6
   have l5:=Fb hiq
   have zq:=z3 iq hiq6
   have zq':=z4 iq hiq6
   (have hb:=trivial;with_reducible repeat' (first|simp only[hb,Vc.down,seval,cV.down,h8,h6,h7,h3,h4,abY,abO,hR,hg,h6b,hw,ha,hf,hiq,n_0_1,n_0_2,n_0_3,n_0_4,n_0_5,n_0_6,n_1_3,n_1_4,n_1_5,n_1_6,n_2_3,n_2_4,n_2_5,n_2_6,n_3_4,n_3_5,n_3_6,n_4_5,n_4_6,n_5_6,y1,y2,y3,z1,z2,zr,zr',zw,zw',za,za',zf,zf',zq,zq']|refine Af ?_ ?_<;>intro hb|((refine Dh (r) 7 ?_ ?_);(simp (discharger:=decide) only[Dc,Bq,aa6,aaW,Bf,Db,Dj,Df,Di,Bd,Bo,Br,abB,abT,hsr];kernel_rfl);intro _)|refine Wz ?_|fail))
   exact⟨w1,w2,w4,w6,w7,false,w5,.inr (.inr (.inl ⟨hO2,hRn,rfl,rfl⟩))⟩
  ·have n_0_1:(r=5)=False:=eq_false (by omega)
   have n_0_2:(r=6)=False:=eq_false (by omega)
   have n_0_3:(r=io)=False:=eq_false fun e=>by subst e;rw[hR]at hio;simp at hio
   have qn_0_3:r≠io:=of_eq_false n_0_3
   have n_0_4:(r=iw)=False:=eq_false fun e=>by subst e;rw[hR]at hw;simp at hw
   have qn_0_4:r≠iw:=of_eq_false n_0_4
   have n_0_5:(r=ia)=False:=eq_false fun e=>by subst e;rw[hR]at ha;simp at ha
   have qn_0_5:r≠ia:=of_eq_false n_0_5
   have n_0_6:(r=jf)=False:=eq_false fun e=>by subst e;rw[hR]at hf;simp at hf
   have qn_0_6:r≠jf:=of_eq_false n_0_6
   have n_1_3:(5=io)=False:=eq_false (by omega)
   have n_1_4:(5=iw)=False:=eq_false (by omega)
   have n_1_5:(5=ia)=False:=eq_false (by omega)
   have n_1_6:(5=jf)=False:=eq_false (by omega)
   have n_2_3:(6=io)=False:=eq_false (by omega)
   have n_2_4:(6=iw)=False:=eq_false (by omega)
   have n_2_5:(6=ia)=False:=eq_false (by omega)
   have n_2_6:(6=jf)=False:=eq_false (by omega)
   have n_3_4:(io=iw)=False:=eq_false fun e=>by subst e;rw[hio]at hw;simp at hw
   have qn_3_4:io≠iw:=of_eq_false n_3_4
   have n_3_5:(io=ia)=False:=eq_false fun e=>by subst e;rw[hio]at ha;simp at ha
   have qn_3_5:io≠ia:=of_eq_false n_3_5
   have n_3_6:(io=jf)=False:=eq_false fun e=>by subst e;rw[hio]at hf;simp at hf
   have qn_3_6:io≠jf:=of_eq_false n_3_6
   have n_4_5:(iw=ia)=False:=eq_false d01
   have qn_4_5:iw≠ia:=of_eq_false n_4_5
   have n_4_6:(iw=jf)=False:=eq_false d02
   have qn_4_6:iw≠jf:=of_eq_false n_4_6
   have n_5_6:(ia=jf)=False:=eq_false d12
   have qn_5_6:ia≠jf:=of_eq_false n_5_6
   have l4:=Fb hio
   have zo:=z3 io hio6
   have zo':=z4 io hio6
   (have hb:=trivial;with_reducible repeat' (first|simp only[hb,Vc.down,seval,cV.down,h8,h6,h7,h3,h4,abY,abO,hR,hg,h6b,hio,hw,ha,hf,n_0_1,n_0_2,n_0_3,n_0_4,n_0_5,n_0_6,n_1_3,n_1_4,n_1_5,n_1_6,n_2_3,n_2_4,n_2_5,n_2_6,n_3_4,n_3_5,n_3_6,n_4_5,n_4_6,n_5_6,y1,y2,y3,z1,z2,zr,zr',zw,zw',za,za',zf,zf',zo,zo']|refine Af ?_ ?_<;>intro hb|((refine Dh (r) 7 ?_ ?_);(simp (discharger:=decide) only[Dc,Bq,aa6,aaW,Bf,Db,Dj,Df,Di,Bd,Bo,Br,abB,abT,hsr];kernel_rfl);intro _)|refine Wz ?_|fail))
   exact⟨w1,w2,w4,w6,w7,w3,false,.inr (.inl ⟨hR2,rfl,rfl⟩)⟩
  ·have n_0_1:(r=5)=False:=eq_false (by omega)
   have n_0_2:(r=6)=False:=eq_false (by omega)
   have n_0_3:(r=io)=False:=eq_false fun e=>by subst e;rw[hR]at hio;simp at hio
   have qn_0_3:r≠io:=of_eq_false n_0_3
   have n_0_4:(r=iw)=False:=eq_false fun e=>by subst e;rw[hR]at hw;simp at hw
   have qn_0_4:r≠iw:=of_eq_false n_0_4
   have n_0_5:(r=ia)=False:=eq_false fun e=>by subst e;rw[hR]at ha;simp at ha
   have qn_0_5:r≠ia:=of_eq_false n_0_5
   have n_0_6:(r=jf)=False:=eq_false fun e=>by subst e;rw[hR]at hf;simp at hf
   have qn_0_6:r≠jf:=of_eq_false n_0_6
   have n_0_7:(r=iq)=False:=eq_false fun e=>by subst e;rw[hR]at hiq;simp at hiq
   have qn_0_7:r≠iq:=of_eq_false n_0_7
   have n_1_3:(5=io)=False:=eq_false (by omega)
   have n_1_4:(5=iw)=False:=eq_false (by omega)
   have n_1_5:(5=ia)=False:=eq_false (by omega)
   have n_1_6:(5=jf)=False:=eq_false (by omega)
   have n_1_7:(5=iq)=False:=eq_false (by omega)
   have n_2_3:(6=io)=False:=eq_false (by omega)
   have n_2_4:(6=iw)=False:=eq_false (by omega)
   have n_2_5:(6=ia)=False:=eq_false (by omega)
   have n_2_6:(6=jf)=False:=eq_false (by omega)
   have n_2_7:(6=iq)=False:=eq_false (by omega)
   have n_3_4:(io=iw)=False:=eq_false fun e=>by subst e;rw[hio]at hw;simp at hw
   have qn_3_4:io≠iw:=of_eq_false n_3_4
   have n_3_5:(io=ia)=False:=eq_false fun e=>by subst e;rw[hio]at ha;simp at ha
   have qn_3_5:io≠ia:=of_eq_false n_3_5
   have n_3_6:(io=jf)=False:=eq_false fun e=>by subst e;rw[hio]at hf;simp at hf
   have qn_3_6:io≠jf:=of_eq_false n_3_6
   have n_3_7:(io=iq)=False:=eq_false fun e=>by subst e;rw[hio]at hiq;simp at hiq
   have qn_3_7:io≠iq:=of_eq_false n_3_7
   have n_4_5:(iw=ia)=False:=eq_false d01
   have qn_4_5:iw≠ia:=of_eq_false n_4_5
   have n_4_6:(iw=jf)=False:=eq_false d02
   have qn_4_6:iw≠jf:=of_eq_false n_4_6
   have n_4_7:(iw=iq)=False:=eq_false fun e=>by subst e;simp at hqx
   have qn_4_7:iw≠iq:=of_eq_false n_4_7
   have n_5_6:(ia=jf)=False:=eq_false d12
   have qn_5_6:ia≠jf:=of_eq_false n_5_6
   have n_5_7:(ia=iq)=False:=eq_false fun e=>by subst e;simp at hqx
   have qn_5_7:ia≠iq:=of_eq_false n_5_7
   have n_6_7:(jf=iq)=False:=eq_false fun e=>by subst e;simp at hqx
   have qn_6_7:jf≠iq:=of_eq_false n_6_7
   have l4:=Fb hio
   have l5:=Fb hiq
   have zo:=z3 io hio6
   have zo':=z4 io hio6
   have zq:=z3 iq hiq6
   have zq':=z4 iq hiq6
   (have hb:=trivial;with_reducible repeat' (first|simp only[hb,Vc.down,seval,cV.down,h8,h6,h7,h3,h4,abY,abO,hR,hg,h6b,hio,hw,ha,hf,hiq,n_0_1,n_0_2,n_0_3,n_0_4,n_0_5,n_0_6,n_0_7,n_1_3,n_1_4,n_1_5,n_1_6,n_1_7,n_2_3,n_2_4,n_2_5,n_2_6,n_2_7,n_3_4,n_3_5,n_3_6,n_3_7,n_4_5,n_4_6,n_4_7,n_5_6,n_5_7,n_6_7,y1,y2,y3,z1,z2,zr,zr',zw,zw',za,za',zf,zf',zo,zo',zq,zq']|refine Af ?_ ?_<;>intro hb|((refine Dh (r) 7 ?_ ?_);(simp (discharger:=decide) only[Dc,Bq,aa6,aaW,Bf,Db,Dj,Df,Di,Bd,Bo,Br,abB,abT,hsr];kernel_rfl);intro _)|refine Wz ?_|fail))
   exact⟨w1,w2,w4,w6,w7,w3,w5,.inr (.inr (.inr ⟨hRn,rfl,rfl⟩))⟩
def Nn(n:Int)(t:Aa):Bool:=Hw t.hour 0 47&&(t.back== -1||Hw t.back (IntKind.i64.wrap (t.hour+1)) 47)&&Hw t.frm 0 (IntKind.i64.wrap (n-1))&&Hw t.to 0 (IntKind.i64.wrap (n-1))&& !(t.frm==t.to)&&Hw t.amount 1 100000000
theorem aoU(t:Aa)(n:Int):Bi.call (.fn 101) [.agg [.int .i64 t.hour,.int .i64 t.back,.int .i64 t.frm,.int .i64 t.to,.int .i64 t.amount],.int .i64 n] []=some (.ret (.bool (Nn n t)),[]):=by
 (refine ce Tryz.func101 ?_;simp only[Tryz.f101];(have hb:=trivial;with_reducible repeat' (first|simp only[hb,Vc.down,seval,axX.down,oG]|refine Af ?_ ?_<;>intro hb|refine fd ?_|fail)))
 all_goals (refine congrArg (fun b=>(Eo.ret (AV.bool b),([]:Ab))) ?_;simp_all[Nn])
theorem aaK(t:Aa)(n:Int):Bi.call (.fn 61) [.agg [.int .i64 t.hour,.int .i64 t.back,.int .i64 t.frm,.int .i64 t.to,.int .i64 t.amount],.int .i64 n] []=some (.ret (.bool (Nn n t)),[]):=by
 have key:Nn n t=(Hw t.hour 0 47&&(t.back== -1||(decide (t.hour<t.back)&&Hw t.back 0 47))&&Hw t.frm 0 (IntKind.i64.wrap (n-1))&&Hw t.to 0 (IntKind.i64.wrap (n-1))&& !(t.frm==t.to)&&Hw t.amount 1 100000000):=by
  unfold Nn
  cases h:Hw t.hour 0 47 with
  |false=>simp
  |true=>
   simp only[Hw,aa0,decide_eq_true_eq]at h
   have e:Hw t.back (IntKind.i64.wrap (t.hour+1)) 47=(decide (t.hour<t.back)&&Hw t.back 0 47):=by
    rw[Aj (by omega) (by omega)]
    simp only[Hw]
    rw[aeZ]
    simp only[aa0,decide_eq_true_eq]
    omega
   rw[e]
 rw[key]
 (refine ce Tryz.func61 ?_;simp only[Tryz.f61];(have hb:=trivial;with_reducible repeat' (first|simp only[hb,Vc.down,seval,azO.down,jM,xO]|refine Af ?_ ?_<;>intro hb|refine fd ?_|fail)))
 all_goals (refine congrArg (fun b=>(Eo.ret (AV.bool b),([]:Ab))) ?_;clear key;simp_all)
def Xt(h:Bc):Bool:=Hw h.inn 0 800000000&&Hw h.out 0 800000000&&Hw h.flowIn 0 800000000&&Hw h.flowOut 0 800000000
theorem aq2(h:Bc):Bi.call (.fn 98) [.agg [.int .i64 h.inn,.int .i64 h.out,.int .i64 h.flowIn,.int .i64 h.flowOut]] []=some (.ret (.bool (!Xt h)),[]):=by
 have hg:=abH (l:=[h.inn,h.out,h.flowIn,h.flowOut]) (nn:=true) (by simp[maxLen])
 rw[An]at hg
 simp only[aa6,aaW,iv,adV,List.all_nil,Bool.and_true]at hg
 (refine ce Tryz.func98 ?_;simp only[Tryz.f98];(have hb:=trivial;with_reducible repeat' (first|simp only[hb,Vc.down,seval,az9.down,hg]|refine Af ?_ ?_<;>intro hb|refine fd ?_|fail)))
 all_goals simp[Xt,Bool.and_assoc]
theorem atJ(t:Aa)(n:Int):Bi.call (.fn 100) [.agg [.int .i64 t.hour,.int .i64 t.back,.int .i64 t.frm,.int .i64 t.to,.int .i64 t.amount],.ptr 0 0 0] [.live 1 true false [[.int .i64 n]]]=some (.ret (.bool (!Nn n t)),[.live 1 true false [[.int .i64 n]]]):=by
 (refine ce Tryz.func100 ?_;simp only[Tryz.f100];(have hb:=trivial;with_reducible repeat' (first|simp only[hb,Vc.down,seval,ayR.down,aoU]|refine Af ?_ ?_<;>intro hb|refine fd ?_|fail)))
theorem afE{l:List Bc}{nn:Bool}{g:Nat}{cap:List AV}{p:Bc→Bool}(hc:cap.all (Bj 8)=true)(hc7:cap.all (Bj 7)=true)(hp:∀x∈l,Bi.call (.fn g) (.agg [.int .i64 x.inn,.int .i64 x.out,.int .i64 x.flowIn,.int .i64 x.flowOut]::cap) []=some (.ret (.bool (p x)),[]))(hl:l.length≤maxLen):
 Bi.call (.fn 128) [Ao 4 true nn (l.map Bc.cells),.func (.func g) [] cap] []=some (.ret (.int .i64 (mO p l 0)),[]):=by
 (refine ce Tryz.func128 ?_;simp only[Tryz.f128];(have hb:=trivial;with_reducible repeat' (first|simp only[hb,Vc.down,seval,wP.down,aaS]|refine Af ?_ ?_<;>intro hb|refine fd ?_|fail)))
 refine Cd (Np 19 l (fun i (s:Int) t h=>s=i∧h=[]∧t 0=Ao 4 true nn (l.map Bc.cells)∧t 1=.func (.func g) [] cap∧t 7=.int .i64 l.length∧t 8=.int .i64 i)
  (fun rest s=>mO p rest s) (fun r e t h=>h=[]∧((e=.exit 0∧r= -1)∨(e=.ret∧t 4=.int .i64 r))) ?_ ?_ 0 _ _ ?_) (fun e t h hk=>?_)
 ·rintro s t h Q' kQ ⟨rfl,rfl,h0,h1,h7,h8⟩
  (have hb:=trivial;with_reducible repeat' (first|simp only[hb,Vc.down,seval,wP.down,h0,h1,h7,h8,ab9,decide_false]|refine Af ?_ ?_<;>intro hb|refine fd ?_|fail))
  exact kQ _ _ _ ⟨rfl,.inl ⟨rfl,rfl⟩⟩
 ·rintro x rest i s t h J Q' kJ kQ hx hi ⟨rfl,rfl,h0,h1,h7,h8⟩
  have hpx:=hp x (aeH hx)
  have hd:decide ((i:Int)<(l.length:Int))=true:=by simpa using hi
  (have hb:=trivial;with_reducible repeat' (first|simp only[hb,Vc.down,seval,wP.down,h0,h1,h7,h8,hd,hx,Bc.cells,hc,hc7,hpx,Ai hi hl]|refine Af ?_ ?_<;>intro hb|refine fd ?_|fail))
  ·exact kQ _ _ _ ⟨rfl,.inr ⟨rfl,by simp[up,mO,hb]⟩⟩
  ·exact Ah (kJ _ _ (i+1) ⟨by simp,rfl,by simp[up,h0],by simp[up,h1],by simp[up,h7],by simp[up]⟩ (by simp[mO,hb]))
 ·exact⟨rfl,rfl,by simp[up,Bw],by simp[up,Bw],by simp[up],by simp[up]⟩
 ·obtain⟨rfl,⟨rfl,hi⟩|⟨rfl,hi⟩⟩:=hk
  ·(have hb:=trivial;with_reducible repeat' (first|simp only[hb,Vc.down,seval,wP.down]|refine Af ?_ ?_<;>intro hb|refine fd ?_|fail))
   rw[hi]
  ·(have hb:=trivial;with_reducible repeat' (first|simp only[hb,Vc.down,seval,wP.down,hi]|refine Af ?_ ?_<;>intro hb|refine fd ?_|fail))
theorem acX{l:List Bc}{nn:Bool}{g:Nat}{cap:List AV}{p:Bc→Bool}(hc:cap.all (Bj 8)=true)(hc7:cap.all (Bj 7)=true)(hp:∀x∈l,Bi.call (.fn g) (.agg [.int .i64 x.inn,.int .i64 x.out,.int .i64 x.flowIn,.int .i64 x.flowOut]::cap) []=some (.ret (.bool (p x)),[]))(hl:l.length≤maxLen):
 Bi.call (.fn 97) [Ao 4 true nn (l.map Bc.cells),.func (.func g) [] cap] []=some (.ret (.bool (l.any p)),[]):=by
 (refine ce Tryz.func97 ?_;simp only[Tryz.f97];(have hb:=trivial;with_reducible repeat' (first|simp only[hb,Vc.down,seval,afE hc hc7 hp hl,hc,hc7,bT p l 0 (Int.le_refl 0)]|refine Af ?_ ?_<;>intro hb|refine fd ?_|fail)))
theorem adR{l:List Aa}{nn:Bool}{g bs:Nat}{brows:List (List AV)}{p:Aa→Bool}(hp:∀x∈l,Bi.call (.fn g) (.agg [.int .i64 x.hour,.int .i64 x.back,.int .i64 x.frm,.int .i64 x.to,.int .i64 x.amount]::[.ptr 0 0 0]) [.live bs true false brows]=some (.ret (.bool (p x)),[.live bs true false brows]))(hl:l.length≤maxLen):
 Bi.call (.fn 129) [Ao 5 true nn (l.map Aa.cells),.func (.func g) [] [.ptr 0 0 0]] [.live bs true false brows]=some (.ret (.int .i64 (mO p l 0)),[.live bs true false brows]):=by
 (refine ce Tryz.func129 ?_;simp only[Tryz.f129];(have hb:=trivial;with_reducible repeat' (first|simp only[hb,Vc.down,seval,uE.down,aaS]|refine Af ?_ ?_<;>intro hb|refine fd ?_|fail)))
 refine Cd (Np 19 l (fun i (s:Int) t h=>s=i∧h=[.live bs true false brows]∧t 0=Ao 5 true nn (l.map Aa.cells)∧t 1=.func (.func g) [] [.ptr 0 0 0]∧t 7=.int .i64 l.length∧t 8=.int .i64 i)
  (fun rest s=>mO p rest s) (fun r e t h=>h=[.live bs true false brows]∧((e=.exit 0∧r= -1)∨(e=.ret∧t 4=.int .i64 r))) ?_ ?_ 0 _ _ ?_) (fun e t h hk=>?_)
 ·rintro s t h Q' kQ ⟨rfl,rfl,h0,h1,h7,h8⟩
  (have hb:=trivial;with_reducible repeat' (first|simp only[hb,Vc.down,seval,uE.down,h0,h1,h7,h8,ab9,decide_false]|refine Af ?_ ?_<;>intro hb|refine fd ?_|fail))
  exact kQ _ _ _ ⟨rfl,.inl ⟨rfl,rfl⟩⟩
 ·rintro x rest i s t h J Q' kJ kQ hx hi ⟨rfl,rfl,h0,h1,h7,h8⟩
  have hpx:=hp x (aeH hx)
  have hd:decide ((i:Int)<(l.length:Int))=true:=by simpa using hi
  (have hb:=trivial;with_reducible repeat' (first|simp only[hb,Vc.down,seval,uE.down,h0,h1,h7,h8,hd,hx,Aa.cells,hpx,Ai hi hl]|refine Af ?_ ?_<;>intro hb|refine fd ?_|fail))
  ·exact kQ _ _ _ ⟨rfl,.inr ⟨rfl,by simp[up,mO,hb]⟩⟩
  ·exact Ah (kJ _ _ (i+1) ⟨by simp,rfl,by simp[up,h0],by simp[up,h1],by simp[up,h7],by simp[up]⟩ (by simp[mO,hb]))
 ·exact⟨rfl,rfl,by simp[up,Bw],by simp[up,Bw],by simp[up],by simp[up]⟩
 ·obtain⟨rfl,⟨rfl,hi⟩|⟨rfl,hi⟩⟩:=hk
  ·(have hb:=trivial;with_reducible repeat' (first|simp only[hb,Vc.down,seval,uE.down]|refine Af ?_ ?_<;>intro hb|refine fd ?_|fail))
   rw[hi]
  ·(have hb:=trivial;with_reducible repeat' (first|simp only[hb,Vc.down,seval,uE.down,hi]|refine Af ?_ ?_<;>intro hb|refine fd ?_|fail))
theorem zH{l:List Aa}{nn:Bool}{g bs:Nat}{brows:List (List AV)}{p:Aa→Bool}(hp:∀x∈l,Bi.call (.fn g) (.agg [.int .i64 x.hour,.int .i64 x.back,.int .i64 x.frm,.int .i64 x.to,.int .i64 x.amount]::[.ptr 0 0 0]) [.live bs true false brows]=some (.ret (.bool (p x)),[.live bs true false brows]))(hl:l.length≤maxLen):
 Bi.call (.fn 99) [Ao 5 true nn (l.map Aa.cells),.func (.func g) [] [.ptr 0 0 0]] [.live bs true false brows]=some (.ret (.bool (l.any p)),[.live bs true false brows]):=by
 (refine ce Tryz.func99 ?_;simp only[Tryz.f99];(have hb:=trivial;with_reducible repeat' (first|simp only[hb,Vc.down,seval,adR hp hl,bT p l 0 (Int.le_refl 0)]|refine Af ?_ ?_<;>intro hb|refine fd ?_|fail)))
def Jz(n:Int)(d:Ap):Bool:=decide (d.hours.length≤48)&&decide (d.noms.length≤200)&&decide (d.trades.length≤50)&&d.hours.all Xt&&d.noms.all (dP n)&&d.trades.all (Nn n)
structure Ap.small(d:Ap):Prop where
 hours:d.hours.length≤maxLen
 noms:d.noms.length≤maxLen
 trades:d.trades.length≤maxLen
theorem apZ(d:Ap)(hs:d.small)(n:Int):Bi.call (.fn 62) [.agg d.cells,.int .i64 n] []=some (.ret (.bool (Jz n d)),[]):=by
 have c1:=acX (l:=d.hours) (nn:=d.nh) (g:=98) (cap:=[]) (p:=fun h=> !Xt h) rfl rfl (fun x _=>aq2 x) hs.hours
 have c2:=vC (l:=d.noms) (nn:=d.nn) n hs.noms
 have c3:=zH (l:=d.trades) (nn:=d.nt) (g:=100) (bs:=1) (brows:=[[.int .i64 n]]) (p:=fun t=> !Nn n t) (fun x _=>atJ x n) hs.trades
 have l1:decide ((d.hours.length:Int)≤48)=decide (d.hours.length≤48):=by rw[decide_eq_decide];omega
 have l2:decide ((d.noms.length:Int)≤200)=decide (d.noms.length≤200):=by rw[decide_eq_decide];omega
 have l3:decide ((d.trades.length:Int)≤50)=decide (d.trades.length≤50):=by rw[decide_eq_decide];omega
 have k:Jz n d=(decide (d.hours.length≤48)&&decide (d.noms.length≤200)&&decide (d.trades.length≤50)&& !(d.hours.any fun h=> !Xt h)&&d.noms.all (dP n)&& !(d.trades.any fun t=> !Nn n t)):=by
  simp[Jz,List.all_eq_not_any_not]
 rw[k]
 (refine ce Tryz.func62 ?_;simp only[Tryz.f62];(have hb:=trivial;with_reducible repeat' (first|simp only[hb,Vc.down,seval,aAB.down,Ap.cells,aaS,c1,c2,c3,l1,l2,l3]|refine Af ?_ ?_<;>intro hb|refine fd ?_|fail)))
 all_goals (refine congrArg (fun b=>(Eo.ret (AV.bool b),([]:Ab))) ?_;clear k c1 c2 c3;simp_all)
structure Hl where
 hour:Int
 nG:Bool
 gas:List Int
 own:Int
 fuel:Int
 nL:Bool
 bills:List Int
 nO:Bool
 owed:List Aa
abbrev Hl.cells(x:Hl):List AV:=[.int .i64 x.hour,Ao 1 true x.nG (x.gas.map iv),.int .i64 x.own,.int .i64 x.fuel,Ao 1 true x.nL (x.bills.map iv),Ao 5 true x.nO (x.owed.map Aa.cells)]
theorem apX(d:Ap)(hs:d.small)(n:Int):Bi.call (.fn 24) [.agg d.cells,.int .i64 n] []=some (.ret (.bool (Jz n d)),[]):=by
 have c2:=auJ (l:=d.noms) (nn:=d.nn) n hs.noms
 have l1:decide ((d.hours.length:Int)≤48)=decide (d.hours.length≤48):=by rw[decide_eq_decide];omega
 have l2:decide ((d.noms.length:Int)≤200)=decide (d.noms.length≤200):=by rw[decide_eq_decide];omega
 have l3:decide ((d.trades.length:Int)≤50)=decide (d.trades.length≤50):=by rw[decide_eq_decide];omega
 have k:Jz n d=(d.hours.all Xt&&d.trades.all (Nn n)&&decide (d.hours.length≤48)&&decide (d.noms.length≤200)&&decide (d.trades.length≤50)&&d.noms.all (dP n)):=by
  unfold Jz
  rw[aeZ]
  simp only[aa0]
  constructor<;>(intro h;simp only[h,and_self])
 rw[k]
 (refine ce Tryz.func24 ?_;simp only[Tryz.f24];(have hb:=trivial;with_reducible repeat' (first|simp only[hb,Vc.down,seval,lN.down,Ap.cells,aaS]|refine Af ?_ ?_<;>intro hb|refine fd ?_|fail)))
 refine Cd (Np 79 d.hours (fun i (zz:Unit) t h=>t 1=.int .i64 n∧t 2=.ptr 0 0 0∧t 5=.int .i64 i∧(h[0]?=some (.live 3 false false [d.cells]))) (fun rest zz=>rest.all Xt) (fun r e t h=>(if r=true then e=.exit 0∧t 1=.int .i64 n∧t 2=.ptr 0 0 0∧h[0]?=some (.live 3 false false [d.cells])else e=.ret∧t 4=.bool false)) ?_ ?_ () _ _ ?_) (fun e t h hk=>?_)
 ·rintro _ t h Q' kQ ⟨h1,h2,h5,hA⟩
  (have hb:=trivial;with_reducible repeat' (first|simp only[hb,Vc.down,seval,lN.down,h1,h2,h5,ab9,decide_false,hA,aaS]|refine Af ?_ ?_<;>intro hb|refine fd ?_|fail))
  exact kQ _ _ _ (by rw[if_pos (by rfl)];exact⟨rfl,by simp[up,h1],by simp[up,h2],hA⟩)
 ·rintro x rest i _ t h J Q' kJ kQ hx hi ⟨h1,h2,h5,hA⟩
  have hd:decide ((i:Int)<(d.hours.length:Int))=true:=decide_eq_true (by omega)
  have hw:=Ai hi hs.hours
  have hA1:=Av hA
  cases c0:Xt x with
  |false=>
   have c0':=c0
   simp only[Xt,Bool.and_eq_false_iff]at c0'
   (have hb:=trivial;with_reducible repeat' (first|simp only[hb,Vc.down,seval,lN.down,h1,h2,h5,hd,hx,hw,hA,hA1,rL,Bc.cells,aaS]|refine Af ?_ ?_<;>intro hb|refine fd ?_|fail))
   all_goals first
    |exact kQ _ _ _ (by rw[if_neg (by simp[c0])];exact⟨rfl,by simp[up]⟩)
    |(exfalso;simp_all)
  |true=>
   have c0':=c0
   simp only[Xt,aa0]at c0'
   obtain⟨⟨⟨u1,u2⟩,u3⟩,u4⟩:=c0'
   (have hb:=trivial;with_reducible repeat' (first|simp only[hb,Vc.down,seval,lN.down,h1,h2,h5,hd,hx,hw,hA,hA1,rL,u1,u2,u3,u4,Bc.cells,aaS]|refine Af ?_ ?_<;>intro hb|refine fd ?_|fail))
   (refine Ah (kJ _ _ () ⟨?_,?_,?_,hA1 _⟩ ?_);(simp[up,h1]);(simp[up,h2]);(simp[up]);(simp[c0]))
 ·exact⟨by simp[up,Bw],by simp[up,Bw],by simp[up],rfl⟩
 ·split at hk
  ·obtain⟨rfl,h1,h2,hA⟩:=hk
   rename_i hr1
   (have hb:=trivial;with_reducible repeat' (first|simp only[hb,Vc.down,seval,lN.down,h1,h2,hA]|refine Af ?_ ?_<;>intro hb|refine fd ?_|fail))
   refine Cd (Np 79 d.trades (fun i (zz:Unit) t h=>t 1=.int .i64 n∧t 2=.ptr 0 0 0∧t 7=.int .i64 i∧(h[0]?=some (.live 3 false false [d.cells]))) (fun rest zz=>rest.all (Nn n)) (fun r e t h=>(if r=true then e=.exit 2∧t 1=.int .i64 n∧t 2=.ptr 0 0 0∧h[0]?=some (.live 3 false false [d.cells])else e=.ret∧t 4=.bool false)) ?_ ?_ () _ _ ?_) (fun e t h hk=>?_)
   ·rintro _ t h Q' kQ ⟨h1,h2,h7,hA⟩
    (have hb:=trivial;with_reducible repeat' (first|simp only[hb,Vc.down,seval,lN.down,h1,h2,h7,ab9,decide_false,hA,aaS]|refine Af ?_ ?_<;>intro hb|refine fd ?_|fail))
    exact kQ _ _ _ (by rw[if_pos (by rfl)];exact⟨rfl,by simp[up,h1],by simp[up,h2],hA⟩)
   ·rintro x rest i _ t h J Q' kJ kQ hx hi ⟨h1,h2,h7,hA⟩
    have hd:decide ((i:Int)<(d.trades.length:Int))=true:=decide_eq_true (by omega)
    have hw:=Ai hi hs.trades
    cases c0:Nn n x with
    |false=>
     (have hb:=trivial;with_reducible repeat' (first|simp only[hb,Vc.down,seval,lN.down,h1,h2,h7,hd,hx,hw,hA,aaK,c0,Aa.cells,aaS]|refine Af ?_ ?_<;>intro hb|refine fd ?_|fail))
     exact kQ _ _ _ (by rw[if_neg (by simp[c0])];exact⟨rfl,by simp[up]⟩)
    |true=>
     (have hb:=trivial;with_reducible repeat' (first|simp only[hb,Vc.down,seval,lN.down,h1,h2,h7,hd,hx,hw,hA,aaK,c0,Aa.cells,aaS]|refine Af ?_ ?_<;>intro hb|refine fd ?_|fail))
     (refine Ah (kJ _ _ () ⟨?_,?_,?_,hA⟩ ?_);(simp[up,h1]);(simp[up,h2]);(simp[up]);(simp[c0]))
   ·exact⟨by simp[up,Bw,h1,h2],by simp[up,Bw,h1,h2],by simp[up],hA⟩
   ·split at hk
    ·obtain⟨rfl,h1,h2,hA⟩:=hk
     rename_i hr2
     (have hb:=trivial;with_reducible repeat' (first|simp only[hb,Vc.down,seval,lN.down,h1,h2,hA,c2,l1,l2,l3,aaS]|refine Af ?_ ?_<;>intro hb|refine fd ?_|fail))
     all_goals (refine congrArg (fun b=>(Eo.ret (AV.bool b),([]:Ab))) ?_;clear k c2;simp_all)
    ·obtain⟨rfl,h4⟩:=hk
     rename_i hr2
     (have hb:=trivial;with_reducible repeat' (first|simp only[hb,Vc.down,seval,lN.down,h4]|refine Af ?_ ?_<;>intro hb|refine fd ?_|fail))
     simp[hr2]
  ·obtain⟨rfl,h4⟩:=hk
   rename_i hr1
   (have hb:=trivial;with_reducible repeat' (first|simp only[hb,Vc.down,seval,lN.down,h4]|refine Af ?_ ?_<;>intro hb|refine fd ?_|fail))
   simp[hr1]
theorem sB{l l':List Aa}{nn nn':Bool}(hl:l.length≤maxLen)(hl':l'.length≤maxLen)(heq:l=l'):Bi.call (.fn 65) [Ao 5 true nn (l.map Aa.cells),Ao 5 true nn' (l'.map Aa.cells)] []=some (.ret (.bool true),[]):=by
 subst heq
 (refine ce Tryz.func65 ?_;simp only[Tryz.f65];(have hb:=trivial;with_reducible repeat' (first|simp only[hb,Vc.down,seval,aoD.down,aaS,Nw,aeM]|refine Af ?_ ?_<;>intro hb|refine fd ?_|fail)))
 refine Cd (Np 26 l (fun i (zz:Unit) t h=>t 0=Ao 5 true nn (l.map Aa.cells)∧t 1=Ao 5 true nn' (l.map Aa.cells)∧t 5=.int .i64 i) (fun rest zz=>()) (fun r e t h=>e=.exit 0) ?_ ?_ () _ _ ?_) (fun e t h hk=>?_)
 ·rintro _ t h Q' kQ ⟨h0,h1,h5⟩
  (have hb:=trivial;with_reducible repeat' (first|simp only[hb,Vc.down,seval,aoD.down,h0,h1,h5,ab9,decide_false]|refine Af ?_ ?_<;>intro hb|refine fd ?_|fail))
  exact kQ _ _ _ rfl
 ·rintro x rest i _ t h J Q' kJ kQ hx hi ⟨h0,h1,h5⟩
  have hd:decide ((i:Int)<(l.length:Int))=true:=decide_eq_true (by omega)
  have hw:=Ai hi hl
  (have hb:=trivial;with_reducible repeat' (first|simp only[hb,Vc.down,seval,aoD.down,h0,h1,h5,hd,hx,hw,Aa.cells,aaS,Nw,aeM,Bool.and_self]|refine Af ?_ ?_<;>intro hb|refine fd ?_|fail))
  (refine Ah (kJ _ _ () ⟨?_,?_,?_⟩ ?_);(simp[up,h0]);(simp[up,h1]);(simp[up]);exact rfl)
 ·exact⟨by simp[up,Bw],by simp[up,Bw],by simp[up]⟩
 ·obtain rfl:=hk
  (have hb:=trivial;with_reducible repeat' (first|simp only[hb,Vc.down,seval,aoD.down]|refine Af ?_ ?_<;>intro hb|refine fd ?_|fail))
theorem aqH{c:Ag}{w:Int}(h: -1000000000≤w∧w≤1000000000):amY c w=cM c w:=by
 unfold amY cM Jm
 split
 ·rw[Int.sub_self];exact Qq
 ·rw[Int.sub_zero];exact Aj (by omega) (by omega)
theorem ap1:∀{cs:List Ag} {l:List Int},(∀w∈l,-1000000000≤w∧w≤1000000000)→sH cs l=Kq cs l
 | [],_,_=>rfl
 |_::_,[],_=>rfl
 |c::cs,w::l,h=>by
  have ih:=ap1 (cs:=cs) (l:=l) (fun x hx=>h x (aeP _ hx))
  simp only[sH,Kq,List.zipWith_cons_cons]at ih ⊢
  rw[ih,aqH (h w (acZ ..))]
theorem vM{cs:List Ag}{l:List Int}(h:∀w∈l,-1000000000≤w∧w≤1000000000)(m:Int):Hg cs l m=Gk cs l m:=by
 unfold Hg Gk
 rw[ap1 h]
theorem auF{x:Int}(h:Hw x (-100000000) 100000000=true):0≤Bm x∧Bm x≤100000000:=by
 simp only[Hw,aa0,decide_eq_true_eq]at h
 unfold Bm;split<;>omega
theorem atA{x:Int}(h:Hw x (-100000000) 100000000=true):0≤Bz x∧Bz x≤100000000:=by
 simp only[Hw,aa0,decide_eq_true_eq]at h
 unfold Bz Bm;rw[Aj (by omega) (by omega)];split<;>omega
theorem vQ{cs:List Ag}{l:List Int}(h:yC l=true)(a b:Int):Eu Hg cs l a b=Eu Gk cs l a b:=by
 simp only[yC,ae6]at h
 unfold Eu
 rw[vM (fun w hw=>by
  obtain⟨x,hx,rfl⟩:=List.mem_map.1 hw
  have:=auF (h x hx);omega),vM (fun w hw=>by
  obtain⟨x,hx,rfl⟩:=List.mem_map.1 hw
  have:=atA (h x hx);omega)]
theorem bO{l l':List Int}{nn nn':Bool}(hl:l.length≤maxLen)(hl':l'.length≤maxLen):Bi.call (.fn 20) [Ao 1 true nn (l.map iv),Ao 1 true nn' (l'.map iv)] []=some (.ret (.bool (decide (l=l'))),[]):=atW hl hl'
theorem Vl{hr own fuel:Int}{G L:List Int}{O:List Aa}{g1 g2 l1 l2 o1 o2:Bool}(hG:G.length≤maxLen)(hL:L.length≤maxLen)(hO:O.length≤maxLen):
 Bi.call (.fn 27) [.agg [.int .i64 hr,Ao 1 true g1 (G.map iv),.int .i64 own,.int .i64 fuel,Ao 1 true l1 (L.map iv),Ao 5 true o1 (O.map Aa.cells)],.agg [.int .i64 hr,Ao 1 true g2 (G.map iv),.int .i64 own,.int .i64 fuel,Ao 1 true l2 (L.map iv),Ao 5 true o2 (O.map Aa.cells)]] []=some (.ret (.bool true),[]):=by
 have s1:=bO (l:=G) (l':=G) (nn:=g1) (nn':=g2) hG hG
 have s2:=bO (l:=L) (l':=L) (nn:=l1) (nn':=l2) hL hL
 have s3:=sB (l:=O) (l':=O) (nn:=o1) (nn':=o2) hO hO rfl
 (refine ce Tryz.func27 ?_;simp only[Tryz.f27];(have hb:=trivial;with_reducible repeat' (first|simp only[hb,Vc.down,seval,aAI.down,s1,s2,s3,Nw,decide_true]|refine Af ?_ ?_<;>intro hb|refine fd ?_|fail)))
theorem zC{W A F R:List Int}{w1 w2 a1 a2 f1 f2 r1 r2:Bool}(hW:W.length≤maxLen)(hA:A.length≤maxLen)(hF:F.length≤maxLen)(hR:R.length≤maxLen):
 Bi.call (.fn 28) [.agg [Ao 1 true w1 (W.map iv),Ao 1 true a1 (A.map iv),Ao 1 true f1 (F.map iv),Ao 1 true r1 (R.map iv)],.agg [Ao 1 true w2 (W.map iv),Ao 1 true a2 (A.map iv),Ao 1 true f2 (F.map iv),Ao 1 true r2 (R.map iv)]] []=some (.ret (.bool true),[]):=by
 have s1:=bO (l:=W) (l':=W) (nn:=w1) (nn':=w2) hW hW
 have s2:=bO (l:=A) (l':=A) (nn:=a1) (nn':=a2) hA hA
 have s3:=bO (l:=F) (l':=F) (nn:=f1) (nn':=f2) hF hF
 have s4:=bO (l:=R) (l':=R) (nn:=r1) (nn':=r2) hR hR
 (refine ce Tryz.func28 ?_;simp only[Tryz.f28];(have hb:=trivial;with_reducible repeat' (first|simp only[hb,Vc.down,seval,azX.down,s1,s2,s3,s4,decide_true]|refine Af ?_ ?_<;>intro hb|refine fd ?_|fail)))
def inR(c:Ag):Int:=(c.rates.head?.map Bh.inn).getD 0
def ajD(c:Ag):Int:=(c.rates.getLast?.map Bh.out).getD 0
def auE(h:Int)(c:Ag):Bool:=c.firm&&Hw h c.lo c.hi
def inS(h:Int):List Ag→Int
 | []=>0
 |c::l=>(if auE h c=true then inR c else 0)+inS h l
def adL(h:Int):List Ag→Int
 | []=>0
 |c::l=>(if auE h c=true then ajD c else 0)+adL h l
def spS:List Ag→Int
 | []=>0
 |c::l=>c.space+spS l
theorem Yv:∀{l:List Bh} {p:Option Bh} {r:Bh},Jt l p=true→r∈l→0≤r.inn∧r.inn≤100000000∧0≤r.out∧r.out≤100000000
 |x::l,p,r,h,hr=>by
  simp only[Jt,aa0]at h
  rcases List.mem_cons.1 hr with rfl|hr
  ·have:=h.1
   simp only[Uk,Hw,aa0,decide_eq_true_eq]at this
   omega
  ·exact Yv h.2 hr
structure mW(c:Ag):Prop where
 inn:0≤inR c∧inR c≤100000000
 out:0≤ajD c∧ajD c≤100000000
 space:1≤c.space∧c.space≤100000000
 fixed:0≤c.fixed∧c.fixed≤10000
 hours:0≤c.lo∧c.lo≤c.hi∧c.hi<48
 rates:c.rates≠[]∧c.rates.length≤6
theorem Vz{c:Ag}(h:Jb c=true):mW c:=by
 have h0:=h
 simp only[Jb,aa0,Hw,gY,decide_eq_true_eq,adV]at h
 obtain⟨⟨⟨⟨⟨h1,h2⟩,h3⟩,h4⟩,h5⟩,h6⟩:=h
 have hr:c.rates≠[]:=fun e=>by rw[e]at h4;simp at h4
 refine⟨?_,?_,h2,h6.1,?_,hr,by omega⟩
 ·unfold inR
  cases hh:c.rates.head? with
  |none=>simp
  |some r=>have:=Yv h1 (List.mem_of_head? hh);simp;omega
 ·unfold ajD
  cases hh:c.rates.getLast? with
  |none=>simp
  |some r=>have:=Yv h1 (List.mem_of_getLast? hh);simp;omega
 ·omega
theorem axV{l:List Ag}(h:l.all Jb=true):∀c∈l,mW c:=fun c hc=>Vz (ae6.1 h c hc)
theorem eV{h:Int}:∀{l:List Ag} {a b:Int},(∀c∈l,mW c)→0≤a→0≤b→a+100000000*l.length<2 ^ 62→b+100000000*l.length<2 ^ 62→Rn h l (a,b)=(a+inS h l,b+adL h l)
 | [],a,b,_,_,_,_,_=>by simp[Rn,inS,adL]
 |c::l,a,b,hl,ha,hb,h1,h2=>by
  have c1:=(hl c (acZ ..)).inn
  have c2:=(hl c (acZ ..)).out
  simp only[abB]at h1 h2
  have ht:∀c∈l,mW c:=fun c hc=>hl c (aeP _ hc)
  simp only[Rn,oC,inS,adL]
  cases hx:auE h c with
  |true=>
   have hx':(c.firm&&Hw h c.lo c.hi)=true:=hx
   rw[if_pos hx',if_pos rfl,if_pos rfl]
   change Rn h l (IntKind.i64.wrap (a+inR c),IntKind.i64.wrap (b+ajD c))=_
   rw[Aj (by omega) (by omega),Aj (by omega) (by omega),eV ht (by omega) (by omega) (by omega) (by omega)]
   simp only[Int.add_assoc]
  |false=>
   have hx':(c.firm&&Hw h c.lo c.hi)=false:=hx
   rw[if_neg (by rw[hx'];simp),if_neg (by simp),if_neg (by simp),eV ht (by omega) (by omega) (by omega) (by omega)]
   simp
theorem mF:∀{l:List Ag} {a:Int},(∀c∈l,mW c)→0≤a→a+100000000*l.length<2 ^ 62→Kt l a=a+spS l
 | [],a,_,_,_=>by simp[Kt,spS]
 |c::l,a,hl,ha,h1=>by
  have c1:=(hl c (acZ ..)).space
  simp only[abB]at h1
  simp only[Kt,spS]
  rw[Aj (by omega) (by omega),mF (fun c hc=>hl c (aeP _ hc)) (by omega) (by omega)]
  omega
theorem mC{p:Int→Bool}:∀{n:Nat},n≤48→(Ks p n=true↔∀h:Int,48-n≤h→h<48→p h=true)
 |0,_=>⟨fun _ h h1 h2=>by omega,fun _=>rfl⟩
 |n+1,hn=>by
  simp only[Ks,aa0,mC (n:=n) (by omega)]
  constructor
  ·rintro⟨h1,h2⟩ h h3 h4
   by_cases he:h=48-((n+1:Nat):Int)
   ·rw[he];exact h1
   ·exact h2 h (by omega) h4
  ·exact fun hk=>⟨hk _ (by omega) (by omega),fun h h3 h4=>hk h (by omega) h4⟩
theorem acD{s:Ac}{l:List Ag}(hl:∀c∈l,mW c)(hn:l.length≤1000):hY s l=true↔(∀h:Int,0≤h→h<48→inS h l≤s.inn∧adL h l≤s.out)∧spS l≤s.space:=by
 simp only[hY,aa0,decide_eq_true_eq,mC (aeW 48)]
 rw[mF hl (by omega) (by omega)]
 simp only[okH,aa0,decide_eq_true_eq]
 constructor
 ·rintro⟨h1,h2⟩
  refine⟨fun h h3 h4=>?_,by omega⟩
  have:=h1 h (by omega) h4
  rw[eV hl (by omega) (by omega) (by omega) (by omega)]at this
  simpa using this
 ·rintro⟨h1,h2⟩
  refine⟨fun h h3 h4=>?_,by omega⟩
  rw[eV hl (by omega) (by omega) (by omega) (by omega)]
  simpa using h1 h (by omega) h4
structure aoV(s:Ac):Prop where
 space:0≤s.space∧s.space≤800000000
 inn:0≤s.inn∧s.inn≤800000000
 out:0≤s.out∧s.out≤800000000
 lead:0≤s.lead∧s.lead≤48
 fuel:0≤s.fuel∧s.fuel≤1000
 len:s.cons.length≤8
 cons:∀c∈s.cons,mW c
 once:(∀h:Int,0≤h→h<48→inS h s.cons≤s.inn∧adL h s.cons≤s.out)∧spS s.cons≤s.space
theorem Px{s:Ac}(h:Es s=true):aoV s:=by
 have h1:=axV (Qz h)
 have h2:=tI h
 simp only[Es,aa0,Hw,decide_eq_true_eq,adV]at h
 exact⟨h.1.1.1.1.1.1,h.1.1.1.1.1.2.1,h.1.1.1.1.1.2.2.1,h.1.1.1.1.2,h.1.1.1.2,h2,h1,(acD h1 (by omega)).1 h.2⟩
theorem mP{n:Nat}(hn:n≤1000){t:Aa}(h:Nn n t=true):t.ok n∧t.frm≠t.to∧1≤t.amount∧t.amount≤100000000∧(t.back= -1∨0≤t.back):=by
 simp only[Nn,Hw,aa0,Bool.or_eq_true,decide_eq_true_eq,beq_iff_eq,Bool.not_eq_true',beq_eq_false_iff_ne]at h
 obtain⟨⟨⟨⟨⟨h1,h2⟩,h3⟩,h4⟩,h5⟩,h6⟩:=h
 rw[Aj (by omega) (by omega)]at h2 h3 h4
 exact⟨⟨⟨h3.1,by omega⟩,h4.1,by omega⟩,h5,h6.1,h6.2,by omega⟩
theorem atY{s:Ac}{d:Ap}{x:Bc}{y:Hl}(K:cX s d y.hour x y.owed)(hG:y.gas.length=s.cons.length)(hL:y.bills.length=s.cons.length):
 Ql Bi 64 [.agg s.cells,.agg y.cells,.agg d.cells] []
  (nE s.cons.length (IntKind.i64.wrap (y.hour+1)) (bY s d y.hour x y.gas y.bills y.owed y.own) (G6 s d y.hour x y.gas y.bills y.owed y.fuel).2 (G6 s d y.hour x y.gas y.bills y.owed y.fuel).1 (L7 s d y.hour x y.gas y.bills y.owed) (T2 s d y.hour y.gas y.bills y.owed).2.1 (T2 s d y.hour y.gas y.bills y.owed).2.2 (W3 s d y.hour y.gas y.bills y.owed) (A4 s d y.hour x y.gas y.bills y.owed) (F5 s d y.hour x y.gas y.bills y.owed)):=by
 by_cases h:y.owed=[]∧y.nO=false
 ·exact an8 K hG hL h
 ·exact ao1 K hG hL h
def zSt:AV:=.agg [.int .i64 0,.nils,.int .i64 0,.int .i64 0,.nils,.nils]
theorem ah5{t:Aa}:Nn 0 t=false:=by
 rw[←Bool.not_eq_true]
 intro h
 have T:=(mP (n:=0) (by omega) (t:=t) (by simpa using h)).1
 have t1:=T.1.1;have t2:=T.1.2
 omega
theorem ao5{s:Ac}{d:Ap}{x:Bc}{y:Hl}(K:ZOK s d y.hour x)(hG:y.gas=[])(hL:y.bills=[])(hO:y.owed=[]):
 Ql Bi 64 [.agg s.cells,.agg y.cells,.agg d.cells] [] (ZQ (IntKind.i64.wrap (y.hour+1)) (eJ [] x y.own) y.fuel):=by
 obtain⟨hr,nG,gas,own,fuel,nL,bills,nO,owed⟩:=y
 simp only at hG hL hO
 subst hG hL hO
 simp only[Ap.cells]at *
 exact akQ K
def qI(cs:List Ag)(t:Aa)(G:List Int):Int:=IntKind.i64.wrap (IntKind.i64.wrap (t.amount-mn t.amount (gI G t.to))*aX cs t.to)
def kW(cs:List Ag)(t:Aa)(G:List Int):Int:=mn (mn t.amount (gI G t.to)) (IntKind.i64.wrap (Gw cs t.frm-gI G t.frm))
def vE(cs:List Ag)(t:Aa)(G:List Int):List Int:=sI (sI G t.to (IntKind.i64.wrap (gI G t.to-kW cs t G))) t.frm (IntKind.i64.wrap (gI G t.frm+kW cs t G))
def uG(cs:List Ag)(t:Aa)(G L:List Int):List Int:=sI (sI L t.to (IntKind.i64.wrap (gI L t.to+qI cs t G))) t.frm (IntKind.i64.wrap (gI L t.frm-qI cs t G))
def Uh(cs:List Ag)(hr:Int):List Aa→List Int × List Int × List Aa→List Int × List Int × List Aa
 | [],a=>a
 |t::rest,(G,L,p)=>if(t.back==hr)=true then Uh cs hr rest (vE cs t G,uG cs t G L,p)else Uh cs hr rest (G,L,p++[t])
theorem abG{hr own fuel:Int}{nG nL nO:Bool}{G L:List Int}{O:List Aa}(hG:G.length≤1000)(hL:L.length≤1000)(hGn:G≠[])(hLn:L≠[])(hO:O=[]):
 Bi.call (.fn 115) [.agg [.int .i64 hr,Ao 1 true nG (G.map iv),.int .i64 own,.int .i64 fuel,Ao 1 true nL (L.map iv),Ao 5 true nO (O.map Aa.cells)]] []=some (.ret (.agg [.int .i64 hr,.slr 1 0 0 G.length,.int .i64 own,.int .i64 fuel,.slr 1 1 0 L.length,.nils]),[.live 1 true false (G.map iv),.live 1 true false (L.map iv)]):=by
 subst hO
 obtain⟨a,G',rfl⟩:=acF hGn
 obtain⟨b,L',rfl⟩:=acF hLn
 have h1:(G'.length+1≤549755813888)=True:=eq_true (by simp at hG;omega)
 have h2:(L'.length+1≤549755813888)=True:=eq_true (by simp at hL;omega)
 cases nO with
 |false=>(refine ce Tryz.func115 ?_;simp only[Tryz.f115];(have hb:=trivial;with_reducible repeat' (first|simp only[hb,Vc.down,seval,abJ.down,aaS,h1,h2,aaW,Gi,iv]|refine Af ?_ ?_<;>intro hb|refine fd ?_|fail)))
 |true=>(refine ce Tryz.func115 ?_;simp only[Tryz.f115];(have hb:=trivial;with_reducible repeat' (first|simp only[hb,Vc.down,seval,abJ.down,aaS,h1,h2,aaW,An,iv]|refine Af ?_ ?_<;>intro hb|refine fd ?_|fail)))
theorem aaO{hr own fuel:Int}{nG nL nO:Bool}{G L:List Int}{O:List Aa}(hG:G.length≤1000)(hL:L.length≤1000)(hOl:O.length≤1000)(hGn:G≠[])(hLn:L≠[])(hO:O≠[]):
 Bi.call (.fn 115) [.agg [.int .i64 hr,Ao 1 true nG (G.map iv),.int .i64 own,.int .i64 fuel,Ao 1 true nL (L.map iv),Ao 5 true nO (O.map Aa.cells)]] []=some (.ret (.agg [.int .i64 hr,.slr 1 0 0 G.length,.int .i64 own,.int .i64 fuel,.slr 1 1 0 L.length,.slr 5 2 0 O.length]),[.live 1 true false (G.map iv),.live 1 true false (L.map iv),.live 5 true false (O.map Aa.cells)]):=by
 obtain⟨a,G',rfl⟩:=acF hGn
 obtain⟨b,L',rfl⟩:=acF hLn
 obtain⟨c,O',rfl⟩:=acF hO
 have h1:(G'.length+1≤549755813888)=True:=eq_true (by simp at hG;omega)
 have h2:(L'.length+1≤549755813888)=True:=eq_true (by simp at hL;omega)
 have h3:(O'.length+1≤549755813888)=True:=eq_true (by simp at hOl;omega)
 (refine ce Tryz.func115 ?_;simp only[Tryz.f115];(have hb:=trivial;with_reducible repeat' (first|simp only[hb,Vc.down,seval,abJ.down,aaS,h1,h2,h3,iv,Aa.cells]|refine Af ?_ ?_<;>intro hb|refine fd ?_|fail)))
theorem wO(cs:List Ag)(t:Aa)(G:List Int):(vE cs t G).length=G.length:=by simp[vE,Bg]
theorem wT(cs:List Ag)(t:Aa)(G L:List Int):(uG cs t G L).length=L.length:=by simp[uG,Bg]
def asX(n:Nat)(hr own fuel:Int)(G L:List Int)(p:List Aa)(o:Eo)(h:Ab):Prop:=
 ∃w1 w2:Bool,(p=[]∧o=.ret (.agg [.int .i64 hr,.slr 1 0 0 n,.int .i64 own,.int .i64 fuel,.slr 1 1 0 n,.nils])∧h=[Zi w1 G,Zi w2 L])∨
  (p≠[]∧o=.ret (.agg [.int .i64 hr,.slr 1 0 0 n,.int .i64 own,.int .i64 fuel,.slr 1 1 0 n,.slr 5 2 0 p.length])∧h=[Zi w1 G,Zi w2 L,lv5 false p])
theorem wI{s:Ac}{hr own fuel:Int}{nG nL nO:Bool}{G L:List Int}{O:List Aa}(hl:s.cons.length≤1000)(hne:s.cons≠[])(hG:G.length=s.cons.length)(hL:L.length=s.cons.length)(hOl:O.length≤1000)(ho:∀t∈O,t.ok s.cons.length)(hO:O=[]):
 Ql Bi 75 [.agg s.cells,.agg [.int .i64 hr,Ao 1 true nG (G.map iv),.int .i64 own,.int .i64 fuel,Ao 1 true nL (L.map iv),Ao 5 true nO (O.map Aa.cells)]] []
  (asX s.cons.length hr own fuel (Uh s.cons hr O (G,L,[])).1 (Uh s.cons hr O (G,L,[])).2.1 (Uh s.cons hr O (G,L,[])).2.2):=by
 have hl':O.length≤maxLen:=by unfold maxLen;omega
 have hp0:0<s.cons.length:=acK.2 hne
 have hGn:G≠[]:=fun e=>by rw[e]at hG;simp at hG;omega
 have hLn:L≠[]:=fun e=>by rw[e]at hL;simp at hL;omega
 have hcp:=abG (hr:=hr) (own:=own) (fuel:=fuel) (nG:=nG) (nL:=nL) (nO:=nO) (by omega) (by omega) hGn hLn hO
 rw[hG,hL]at hcp
 refine Je rfl Tryz.func75 rfl rfl ?_
 simp only[Tryz.f75]
 (have hb:=trivial;with_reducible repeat' (first|simp only[hb,Vc.down,seval,dR.down,hcp]|refine Af ?_ ?_<;>intro hb|refine fd ?_|fail))
 refine Cd (Np 127 O (fun i (zz:List Int × List Int × List Aa) t h=>t 2=.ptr 0 0 0∧t 3=.ptr 1 0 0∧t 4=.ptr 2 0 0∧t 5=.ptr 5 0 0∧t 6=.int .i64 i∧(∃wG wL wo pv g,h=.live 6 false false [s.cells]::.live 6 false false [[.int .i64 hr,Ao 1 true nG (G.map iv),.int .i64 own,.int .i64 fuel,Ao 1 true nL (L.map iv),Ao 5 true nO (O.map Aa.cells)]]::.live 6 false false [[.int .i64 0,.nils,.int .i64 0,.int .i64 0,.nils,.nils]]::.live 1 true wG (zz.1.map iv)::.live 1 true wL (zz.2.1.map iv)::  .live 6 false wo [[.int .i64 hr,.slr 1 3 0 s.cons.length,.int .i64 own,.int .i64 fuel,.slr 1 4 0 s.cons.length,pv]]::g∧zz.1.length=s.cons.length∧zz.2.1.length=s.cons.length∧zz.2.2.length≤i∧((zz.2.2=[]∧pv=.nils)∨(zz.2.2≠[]∧∃b,pv=.slr 5 (b+6) 0 zz.2.2.length∧g[b]?=some (.live 5 true false (zz.2.2.map Aa.cells)))))) (fun rest zz=>Uh s.cons hr rest (zz.1,zz.2.1,zz.2.2)) (fun r e t h=>e=.exit 0∧t 4=.ptr 2 0 0∧t 5=.ptr 5 0 0∧(∃wG wL wo pv g,h=.live 6 false false [s.cells]::.live 6 false false [[.int .i64 hr,Ao 1 true nG (G.map iv),.int .i64 own,.int .i64 fuel,Ao 1 true nL (L.map iv),Ao 5 true nO (O.map Aa.cells)]]::.live 6 false false [[.int .i64 0,.nils,.int .i64 0,.int .i64 0,.nils,.nils]]::.live 1 true wG (r.1.map iv)::.live 1 true wL (r.2.1.map iv)::  .live 6 false wo [[.int .i64 hr,.slr 1 3 0 s.cons.length,.int .i64 own,.int .i64 fuel,.slr 1 4 0 s.cons.length,pv]]::g∧((r.2.2=[]∧pv=.nils)∨(r.2.2≠[]∧∃b,pv=.slr 5 (b+6) 0 r.2.2.length∧g[b]?=some (.live 5 true false (r.2.2.map Aa.cells)))))) ?_ ?_ (G,L,[]) _ _ ?_) (fun e t h hk=>?_)
 ·rintro⟨G',L',p⟩ t h Q' kQ ⟨h2,h3,h4,h5,h6,⟨wG,wL,wo,pv,g,rfl,hG',hL',hpl,hp⟩⟩
  try dsimp only at *
  (have hb:=trivial;with_reducible repeat' (first|simp only[hb,Vc.down,seval,dR.down,h2,h3,h4,h5,h6,ab9,decide_false,aaS]|refine Af ?_ ?_<;>intro hb|refine fd ?_|fail))
  exact kQ _ _ _ ⟨rfl,by simp[up,h4],by simp[up,h5],wG,wL,wo,pv,g,rfl,hp⟩
 ·rintro x rest i ⟨G',L',p⟩ t h J Q' kJ kQ hx hi ⟨h2,h3,h4,h5,h6,⟨wG,wL,wo,pv,g,rfl,hG',hL',hpl,hp⟩⟩
  have hd:decide ((i:Int)<(O.length:Int))=true:=decide_eq_true (by omega)
  have hw:=Ai hi hl'
  try dsimp only at *
  exact absurd hx (by rw[hO];simp)
 ·exact⟨by simp[up,Bw],by simp[up,Bw],by simp[up,Bw],by simp[up,Bw],by simp[up],⟨_,_,_,_,[],rfl,hG,hL,aeW _,.inl ⟨rfl,rfl⟩⟩⟩
 ·obtain⟨rfl,h4,h5,wG,wL,wo,pv,g,rfl,hp⟩:=hk
  generalize hr0:Uh s.cons hr O (G,L,[])=r at *
  obtain⟨G',L',p⟩:=r
  dsimp only at *
  rcases hp with⟨hp,rfl⟩|⟨hp,b,rfl,hgb⟩
  ·(have hb:=trivial;with_reducible repeat' (first|simp only[hb,Vc.down,seval,dR.down,h4,h5]|refine Af ?_ ?_<;>intro hb|refine fd ?_|fail))
   exact⟨wG,wL,.inl ⟨hp,rfl,rfl⟩⟩
  ·(have hb:=trivial;with_reducible repeat' (first|simp only[hb,Vc.down,seval,dR.down,h4,h5,hgb]|refine Af ?_ ?_<;>intro hb|refine fd ?_|fail))
   exact⟨wG,wL,.inr ⟨hp,rfl,rfl⟩⟩
theorem sM{s:Ac}{hr own fuel:Int}{nG nL nO:Bool}{G L:List Int}{O:List Aa}(hl:s.cons.length≤1000)(hne:s.cons≠[])(hG:G.length=s.cons.length)(hL:L.length=s.cons.length)(hOl:O.length≤1000)(ho:∀t∈O,t.ok s.cons.length)(hO:O≠[]):
 Ql Bi 75 [.agg s.cells,.agg [.int .i64 hr,Ao 1 true nG (G.map iv),.int .i64 own,.int .i64 fuel,Ao 1 true nL (L.map iv),Ao 5 true nO (O.map Aa.cells)]] []
  (asX s.cons.length hr own fuel (Uh s.cons hr O (G,L,[])).1 (Uh s.cons hr O (G,L,[])).2.1 (Uh s.cons hr O (G,L,[])).2.2):=by
 have hl':O.length≤maxLen:=by unfold maxLen;omega
 have hp0:0<s.cons.length:=acK.2 hne
 have hGn:G≠[]:=fun e=>by rw[e]at hG;simp at hG;omega
 have hLn:L≠[]:=fun e=>by rw[e]at hL;simp at hL;omega
 have hcp:=aaO (hr:=hr) (own:=own) (fuel:=fuel) (nG:=nG) (nL:=nL) (nO:=nO) (by omega) (by omega) hOl hGn hLn hO
 rw[hG,hL]at hcp
 refine Je rfl Tryz.func75 rfl rfl ?_
 simp only[Tryz.f75]
 (have hb:=trivial;with_reducible repeat' (first|simp only[hb,Vc.down,seval,dR.down,hcp]|refine Af ?_ ?_<;>intro hb|refine fd ?_|fail))
 refine Cd (Np 127 O (fun i (zz:List Int × List Int × List Aa) t h=>t 2=.ptr 0 0 0∧t 3=.ptr 1 0 0∧t 4=.ptr 2 0 0∧t 5=.ptr 6 0 0∧t 6=.int .i64 i∧(∃wG wL wo pv g,h=.live 6 false false [s.cells]::.live 6 false false [[.int .i64 hr,Ao 1 true nG (G.map iv),.int .i64 own,.int .i64 fuel,Ao 1 true nL (L.map iv),Ao 5 true nO (O.map Aa.cells)]]::.live 6 false false [[.int .i64 0,.nils,.int .i64 0,.int .i64 0,.nils,.nils]]::.live 1 true wG (zz.1.map iv)::.live 1 true wL (zz.2.1.map iv)::.live 5 true false (O.map Aa.cells)::.live 6 false wo [[.int .i64 hr,.slr 1 3 0 s.cons.length,.int .i64 own,.int .i64 fuel,.slr 1 4 0 s.cons.length,pv]]::g∧zz.1.length=s.cons.length∧zz.2.1.length=s.cons.length∧zz.2.2.length≤i∧((zz.2.2=[]∧pv=.nils)∨(zz.2.2≠[]∧∃b,pv=.slr 5 (b+7) 0 zz.2.2.length∧g[b]?=some (.live 5 true false (zz.2.2.map Aa.cells)))))) (fun rest zz=>Uh s.cons hr rest (zz.1,zz.2.1,zz.2.2)) (fun r e t h=>e=.exit 0∧t 4=.ptr 2 0 0∧t 5=.ptr 6 0 0∧(∃wG wL wo pv g,h=.live 6 false false [s.cells]::.live 6 false false [[.int .i64 hr,Ao 1 true nG (G.map iv),.int .i64 own,.int .i64 fuel,Ao 1 true nL (L.map iv),Ao 5 true nO (O.map Aa.cells)]]::.live 6 false false [[.int .i64 0,.nils,.int .i64 0,.int .i64 0,.nils,.nils]]::.live 1 true wG (r.1.map iv)::.live 1 true wL (r.2.1.map iv)::.live 5 true false (O.map Aa.cells)::.live 6 false wo [[.int .i64 hr,.slr 1 3 0 s.cons.length,.int .i64 own,.int .i64 fuel,.slr 1 4 0 s.cons.length,pv]]::g∧((r.2.2=[]∧pv=.nils)∨(r.2.2≠[]∧∃b,pv=.slr 5 (b+7) 0 r.2.2.length∧g[b]?=some (.live 5 true false (r.2.2.map Aa.cells)))))) ?_ ?_ (G,L,[]) _ _ ?_) (fun e t h hk=>?_)
 ·rintro⟨G',L',p⟩ t h Q' kQ ⟨h2,h3,h4,h5,h6,⟨wG,wL,wo,pv,g,rfl,hG',hL',hpl,hp⟩⟩
  try dsimp only at *
  (have hb:=trivial;with_reducible repeat' (first|simp only[hb,Vc.down,seval,dR.down,h2,h3,h4,h5,h6,ab9,decide_false,aaS]|refine Af ?_ ?_<;>intro hb|refine fd ?_|fail))
  exact kQ _ _ _ ⟨rfl,by simp[up,h4],by simp[up,h5],wG,wL,wo,pv,g,rfl,hp⟩
 ·rintro x rest i ⟨G',L',p⟩ t h J Q' kJ kQ hx hi ⟨h2,h3,h4,h5,h6,⟨wG,wL,wo,pv,g,rfl,hG',hL',hpl,hp⟩⟩
  have hd:decide ((i:Int)<(O.length:Int))=true:=decide_eq_true (by omega)
  have hw:=Ai hi hl'
  try dsimp only at *
  obtain⟨⟨f0,f1⟩,k0,k1⟩:=ho x (aeH hx)
  have e1:(0≤x.to)=True:=eq_true k0
  have e2:(x.to<(s.cons.length:Int))=True:=eq_true (by omega)
  have e4:(0≤x.frm)=True:=eq_true f0
  have e5:(x.frm<(s.cons.length:Int))=True:=eq_true (by omega)
  obtain⟨ct,hct⟩:∃c,s.cons[x.to.toNat]?=some c:=⟨_,ae7 (by omega)⟩
  obtain⟨cf,hcf⟩:∃c,s.cons[x.frm.toNat]?=some c:=⟨_,ae7 (by omega)⟩
  have a1:G'[x.to.toNat]?=some (gI G' x.to):=Ff (by omega)
  have a2:L'[x.to.toNat]?=some (gI L' x.to):=Ff (by omega)
  have a3:G'[x.frm.toNat]?=some (gI G' x.frm):=Ff (by omega)
  have a4:L'[x.frm.toNat]?=some (gI L' x.frm):=Ff (by omega)
  have a5:∀v,(sI G' x.to v)[x.frm.toNat]?=some (gI (sI G' x.to v) x.frm):=fun v=>Ff (by rw[Bg];omega)
  have a6:∀v,(sI L' x.to v)[x.frm.toNat]?=some (gI (sI L' x.to v) x.frm):=fun v=>Ff (by rw[Bg];omega)
  cases hbk:(x.back==hr)with
  |false=>
   rcases hp with⟨rfl,rfl⟩|⟨hpn,b,rfl,hgb⟩
   ·(have hb:=trivial;with_reducible repeat' (first|simp only[hb,Vc.down,seval,dR.down,h2,h3,h5,h6,hd,hx,hw,hbk,Aa.cells,ae8]|refine Af ?_ ?_<;>intro hb|refine fd ?_|fail))
    (refine Ah (kJ _ _ (G',L',[x]) ⟨?_,?_,?_,?_,?_,⟨wG,wL,true,_,_,rfl,hG',hL',by simp<;>omega,.inr ⟨by simp,g.length+2,by simp,by simp[Aa.cells]⟩⟩⟩ ?_);(simp[up,h2]);(simp[up,h3]);(simp[up,h4]);(simp[up,h5]);(simp[up]);(simp[Uh,hbk]))
   ·have hbl:b<g.length:=(List.getElem?_eq_some_iff.1 hgb).1
    have hA:=Av hgb
    have hS:=Fa hbl
    have hi39:(p.length+1≤549755813888)=True:=eq_true (by have:=hpl;omega)
    (have hb:=trivial;with_reducible repeat' (first|simp only[hb,Vc.down,seval,dR.down,h2,h3,h5,h6,hd,hx,hw,hbk,Aa.cells,hA,hS,Lr,Ge,abO,aaS,hi39,ae8]|refine Af ?_ ?_<;>intro hb|refine fd ?_|fail))
    (refine Ah (kJ _ _ (G',L',p++[x]) ⟨?_,?_,?_,?_,?_,⟨wG,wL,true,_,_,rfl,hG',hL',by simp<;>omega,.inr ⟨by simp,g.length+2,by simp,by rw[Ge];simp[Aa.cells]⟩⟩⟩ ?_);(simp[up,h2]);(simp[up,h3]);(simp[up,h4]);(simp[up,h5]);(simp[up]);(simp[Uh,hbk]))
  |true=>
   have hpg:∀l:Ab,((p=[]∧pv=.nils)∨(p≠[]∧∃b,pv=.slr 5 (b+7) 0 p.length∧(g++l)[b]?=some (.live 5 true false (p.map Aa.cells)))):=fun l=>by
    rcases hp with h|⟨h,b,h',h''⟩
    ·exact .inl h
    ·exact .inr ⟨h,b,h',Av h'' _⟩
   (have hb:=trivial;with_reducible repeat' (first|simp only[hb,Vc.down,seval,dR.down,h2,h3,h5,h6,hd,hx,hw,hbk,Aa.cells,Ag.cells,e1,e2,e4,e5,a1,a2,a3,a4,a5,a6,hct,hcf,iv,Dt,aeM,aaS]|refine Af ?_ ?_<;>intro hb|((refine Dh (g.length) 7 ?_ ?_);(simp (discharger:=decide) only[Dc,Bq,aa6,aaW,Bf,Db,Dj,Df,Di,Bd,Bo,Br,abB,abT];kernel_rfl);intro _)|refine Wz ?_|fail))
   (refine Ah (kJ _ _ (vE s.cons x G',uG s.cons x G' L',p) ⟨?_,?_,?_,?_,?_,⟨true,true,wo,pv,_,by simp[vE,uG,kW,qI,mn,Gw,aX,hcf,hct];rfl,by rw[wO];exact hG',by rw[wT];exact hL',Nat.le_succ_of_le hpl,hpg _⟩⟩ ?_);(simp[up,h2]);(simp[up,h3]);(simp[up,h4]);(simp[up,h5]);(simp[up]);(simp[Uh,hbk]))
 ·exact⟨by simp[up,Bw],by simp[up,Bw],by simp[up,Bw],by simp[up,Bw],by simp[up],⟨_,_,_,_,[],rfl,hG,hL,aeW _,.inl ⟨rfl,rfl⟩⟩⟩
 ·obtain⟨rfl,h4,h5,wG,wL,wo,pv,g,rfl,hp⟩:=hk
  generalize hr0:Uh s.cons hr O (G,L,[])=r at *
  obtain⟨G',L',p⟩:=r
  dsimp only at *
  rcases hp with⟨hp,rfl⟩|⟨hp,b,rfl,hgb⟩
  ·(have hb:=trivial;with_reducible repeat' (first|simp only[hb,Vc.down,seval,dR.down,h4,h5]|refine Af ?_ ?_<;>intro hb|refine fd ?_|fail))
   exact⟨wG,wL,.inl ⟨hp,rfl,rfl⟩⟩
  ·(have hb:=trivial;with_reducible repeat' (first|simp only[hb,Vc.down,seval,dR.down,h4,h5,hgb]|refine Af ?_ ?_<;>intro hb|refine fd ?_|fail))
   exact⟨wG,wL,.inr ⟨hp,rfl,rfl⟩⟩
end Go.Proofs.YtdbiogihimdpcaaGreatDoor
