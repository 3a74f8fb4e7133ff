/- The functions of the layer, walked. -/
import Derived.Test.YtdbiogihimdpcaaGreatDoorPartAF
import Derived.Test.YtdbiogihimdpcaaGreatDoorPartAE
open List renaming length_set→aa9,nil_append→abQ,cons_append→acI,append_assoc→acL,getElem?_append_left→acQ,getElem?_append_right→acR,getElem?_set_ne→acV,getElem?_set_self→adG,getElem?_cons_zero→adL,getElem?_cons_succ→adM,replicate→adN,map_nil→adO,length_nil→adP,length_eq_zero_iff→adQ
open Nat renaming sub_self→adJ,add_sub_cancel_left→adK
set_option linter.unusedSimpArgs false
set_option linter.unusedVariables false
namespace Go.Proofs.YtdbiogihimdpcaaGreatDoor
open Go.Ev Go
set_option maxRecDepth 100000
set_option maxHeartbeats 16000000
def HsB(s:Ac)(d:An)(hr own fuel:Int)(G L:List Int)(O:List Ab)(R:List Int)(W:List Int)(r:Nat)(h:Aa):Prop:=
 6<r∧G.length=s.cons.length∧L.length=s.cons.length∧W.length=s.cons.length∧∃w w1 w2 ov rv iw w4,h[r]?=some (.live 19 false w [(rc s d hr (.slr 1 5 0 s.cons.length) own fuel (.slr 1 6 0 s.cons.length) ov (.slr 1 iw 0 s.cons.length) .nils .nils rv)])∧h[5]?=some (.live 1 true w1 (G.map iv))∧h[6]?=some (.live 1 true w2 (L.map iv))∧OvS O ov h∧RvS R rv [iw] h∧h[iw]?=some (.live 1 true w4 (W.map iv))∧6<iw
def HsC(s:Ac)(d:An)(hr own fuel:Int)(G L:List Int)(O:List Ab)(R:List Int)(W A:List Int)(r:Nat)(h:Aa):Prop:=
 6<r∧G.length=s.cons.length∧L.length=s.cons.length∧W.length=s.cons.length∧A.length=s.cons.length∧∃w w1 w2 ov rv iw ia w4 w6,h[r]?=some (.live 19 false w [(rc s d hr (.slr 1 5 0 s.cons.length) own fuel (.slr 1 6 0 s.cons.length) ov (.slr 1 iw 0 s.cons.length) (.slr 1 ia 0 s.cons.length) .nils rv)])∧h[5]?=some (.live 1 true w1 (G.map iv))∧h[6]?=some (.live 1 true w2 (L.map iv))∧OvS O ov h∧RvS R rv [iw,ia] h∧h[iw]?=some (.live 1 true w4 (W.map iv))∧6<iw∧h[ia]?=some (.live 1 true w6 (A.map iv))∧6<ia∧iw≠ia
def HsD(s:Ac)(d:An)(hr own fuel:Int)(G L:List Int)(O:List Ab)(R:List Int)(W A F:List Int)(r:Nat)(h:Aa):Prop:=
 6<r∧G.length=s.cons.length∧L.length=s.cons.length∧W.length=s.cons.length∧A.length=s.cons.length∧F.length=s.cons.length∧∃w w1 w2 ov rv iw ia jf w4 w6 w7,h[r]?=some (.live 19 false w [(rc s d hr (.slr 1 5 0 s.cons.length) own fuel (.slr 1 6 0 s.cons.length) ov (.slr 1 iw 0 s.cons.length) (.slr 1 ia 0 s.cons.length) (.slr 1 jf 0 s.cons.length) rv)])∧h[5]?=some (.live 1 true w1 (G.map iv))∧h[6]?=some (.live 1 true w2 (L.map iv))∧OvS O ov h∧RvS R rv [iw,ia,jf] h∧h[iw]?=some (.live 1 true w4 (W.map iv))∧6<iw∧h[ia]?=some (.live 1 true w6 (A.map iv))∧6<ia∧h[jf]?=some (.live 1 true w7 (F.map iv))∧6<jf∧iw≠ia∧iw≠jf∧ia≠jf
theorem bV(s:Ac)(d:An)(hr:Int)(G:List Int):∀(cs:List Ah) (i:Nat) (a:List Int),(It (Bn s d hr G) cs i a).length=a.length
 | [],_,_=>rfl
 |c::cs,i,a=>by
  simp only[It]
  rw[bV s d hr G cs]
  unfold Bn;split<;>(try split)<;>simp[Bj]
theorem Wi(hr:Int)(F W A:List Int):∀(cs:List Ah) (i:Nat) (a:List Int),(It (Bt hr F W A) cs i a).length=a.length
 | [],_,_=>rfl
 |c::cs,i,a=>by
  simp only[It]
  rw[Wi hr F W A cs,Nz]
theorem Yf(f:Int):∀(F:List Int) (i:Nat) (G:List Int) (fu:Int),(Gt f F i (G,fu)).1.length=G.length
 | [],_,_,_=>rfl
 |n::F,i,G,fu=>by simp only[Gt];rw[Yf f F,Bj]
theorem aiZ{s:Ac}{d:An}{hr own fuel:Int}{h:Aa}{r:Nat}{G L:List Int}{O:List Ab}{R:List Int}(hl:s.cons.length≤1000)(hn:d.noms.length≤1000)(hc:∀c∈s.cons,ac3 c)(H:HsA s d hr own fuel G L O R r h):
 ∃es,cl Bl h (some (.func (.func 106) [.ptr r 0 0] [])) (some [])=some (.ret (.tup []),es)∧zZ h (Ar h es)∧
  HsB s d hr own fuel G L O R (It (Bn s d hr G) s.cons 0 (adN s.cons.length 0)) r (Ar h es):=by
 obtain⟨hr6,hG,hL,w,w1,w2,ov,rv,hR,hg,hb,hov,hrv⟩:=H
 have l1:=Eb hR
 have l2:=Eb hg
 have l3:=Eb hb
 have hWl:(It (Bn s d hr G) s.cons 0 (adN s.cons.length 0)).length=s.cons.length:=by rw[bV];simp
 rcases hov with⟨rfl,rfl⟩|⟨io,w3,rfl,hio,hio6⟩<;>rcases hrv with⟨rfl,rfl⟩|⟨iq,w5,hRn,rfl,hiq,hiq6,hqx⟩
 ·have n_0_1:(r=5)=False:=eq_false (by omega)
  have n_0_2:(r=6)=False:=eq_false (by omega)
  obtain⟨o,h',e,rfl,ww,rfl⟩:=aeB (s:=s) (d:=d) (hr:=hr) (own:=own) (fuel:=fuel) (G:=G) (L:=L) (O:=[]) (R:=[]) (w:=false) (w1:=false) (w2:=false) (w3:=false) (w5:=false) hG hl hn hc
  simp only[hG,hL,acI,abQ]at e
  refine⟨_,by simp only[Vc.down,seval,hR,hg,hb,n_0_1,n_0_2,e];exact rfl,?_⟩
  simp only[Ar,Cc]
  refine⟨fun x hx=>by((try simp (discharger:=((try simp only[aa9]);omega)) only[acL,acI,abQ,acQ,acR,acV,adG,aa9,adJ,adK,adL,adM])<;>(first|exact rfl|exact rfl)),hr6,hG,hL,hWl,true,w1,w2,.nils,.nils,h.length,ww,?_,?_,?_,.inl ⟨rfl,rfl⟩,.inl ⟨rfl,rfl⟩,?_,by omega⟩
  all_goals ((try simp (discharger:=((try simp only[aa9]);omega)) only[acL,acI,abQ,acQ,acR,acV,adG,aa9,adJ,adK,adL,adM])<;>(first|exact rfl|exact hR|exact hg|exact hb))
 ·have n_0_1:(r=5)=False:=eq_false (by omega)
  have n_0_2:(r=6)=False:=eq_false (by omega)
  have n_0_3:(r=iq)=False:=eq_false fun e=>by subst e;rw[hR]at hiq;simp at hiq
  have qn_0_3:r≠iq:=of_eq_false n_0_3
  have n_1_3:(5=iq)=False:=eq_false (by omega)
  have n_2_3:(6=iq)=False:=eq_false (by omega)
  have l5:=Eb hiq
  obtain⟨o,h',e,rfl,ww,rfl⟩:=ag1 (s:=s) (d:=d) (hr:=hr) (own:=own) (fuel:=fuel) (G:=G) (L:=L) (O:=[]) (R:=R) (w:=false) (w1:=false) (w2:=false) (w3:=false) (w5:=false) hG hl hn hc
  simp only[hG,hL,acI,abQ]at e
  refine⟨_,by simp only[Vc.down,seval,hR,hg,hb,hiq,n_0_1,n_0_2,n_0_3,n_1_3,n_2_3,e];exact rfl,?_⟩
  simp only[Ar,Cc]
  refine⟨fun x hx=>by((try simp (discharger:=((try simp only[aa9]);omega)) only[acL,acI,abQ,acQ,acR,acV,adG,aa9,adJ,adK,adL,adM])<;>(first|exact rfl|exact rfl)),hr6,hG,hL,hWl,true,w1,w2,.nils,.slr 1 iq 0 R.length,h.length,ww,?_,?_,?_,.inl ⟨rfl,rfl⟩,.inr ⟨iq,w5,hRn,rfl,?_,hiq6,by simp;omega⟩,?_,by omega⟩
  all_goals ((try simp (discharger:=((try simp only[aa9]);omega)) only[acL,acI,abQ,acQ,acR,acV,adG,aa9,adJ,adK,adL,adM])<;>(first|exact rfl|exact hR|exact hg|exact hb|exact hiq))
 ·have n_0_1:(r=5)=False:=eq_false (by omega)
  have n_0_2:(r=6)=False:=eq_false (by omega)
  have n_0_3:(r=io)=False:=eq_false fun e=>by subst e;rw[hR]at hio;simp at hio
  have qn_0_3:r≠io:=of_eq_false n_0_3
  have n_1_3:(5=io)=False:=eq_false (by omega)
  have n_2_3:(6=io)=False:=eq_false (by omega)
  have l4:=Eb hio
  obtain⟨o,h',e,rfl,ww,rfl⟩:=ad4 (s:=s) (d:=d) (hr:=hr) (own:=own) (fuel:=fuel) (G:=G) (L:=L) (O:=O) (R:=[]) (w:=false) (w1:=false) (w2:=false) (w3:=false) (w5:=false) hG hl hn hc
  simp only[hG,hL,acI,abQ]at e
  refine⟨_,by simp only[Vc.down,seval,hR,hg,hb,hio,n_0_1,n_0_2,n_0_3,n_1_3,n_2_3,e];exact rfl,?_⟩
  simp only[Ar,Cc]
  refine⟨fun x hx=>by((try simp (discharger:=((try simp only[aa9]);omega)) only[acL,acI,abQ,acQ,acR,acV,adG,aa9,adJ,adK,adL,adM])<;>(first|exact rfl|exact rfl)),hr6,hG,hL,hWl,true,w1,w2,.slr 5 io 0 O.length,.nils,h.length,ww,?_,?_,?_,.inr ⟨io,w3,rfl,?_,hio6⟩,.inl ⟨rfl,rfl⟩,?_,by omega⟩
  all_goals ((try simp (discharger:=((try simp only[aa9]);omega)) only[acL,acI,abQ,acQ,acR,acV,adG,aa9,adJ,adK,adL,adM])<;>(first|exact rfl|exact hR|exact hg|exact hb|exact hio))
 ·have n_0_1:(r=5)=False:=eq_false (by omega)
  have n_0_2:(r=6)=False:=eq_false (by omega)
  have n_0_3:(r=io)=False:=eq_false fun e=>by subst e;rw[hR]at hio;simp at hio
  have qn_0_3:r≠io:=of_eq_false n_0_3
  have n_0_4:(r=iq)=False:=eq_false fun e=>by subst e;rw[hR]at hiq;simp at hiq
  have qn_0_4:r≠iq:=of_eq_false n_0_4
  have n_1_3:(5=io)=False:=eq_false (by omega)
  have n_1_4:(5=iq)=False:=eq_false (by omega)
  have n_2_3:(6=io)=False:=eq_false (by omega)
  have n_2_4:(6=iq)=False:=eq_false (by omega)
  have n_3_4:(io=iq)=False:=eq_false fun e=>by subst e;rw[hio]at hiq;simp at hiq
  have qn_3_4:io≠iq:=of_eq_false n_3_4
  have l4:=Eb hio
  have l5:=Eb hiq
  obtain⟨o,h',e,rfl,ww,rfl⟩:=ai2 (s:=s) (d:=d) (hr:=hr) (own:=own) (fuel:=fuel) (G:=G) (L:=L) (O:=O) (R:=R) (w:=false) (w1:=false) (w2:=false) (w3:=false) (w5:=false) hG hl hn hc
  simp only[hG,hL,acI,abQ]at e
  refine⟨_,by simp only[Vc.down,seval,hR,hg,hb,hio,hiq,n_0_1,n_0_2,n_0_3,n_0_4,n_1_3,n_1_4,n_2_3,n_2_4,n_3_4,e];exact rfl,?_⟩
  simp only[Ar,Cc]
  refine⟨fun x hx=>by((try simp (discharger:=((try simp only[aa9]);omega)) only[acL,acI,abQ,acQ,acR,acV,adG,aa9,adJ,adK,adL,adM])<;>(first|exact rfl|exact rfl)),hr6,hG,hL,hWl,true,w1,w2,.slr 5 io 0 O.length,.slr 1 iq 0 R.length,h.length,ww,?_,?_,?_,.inr ⟨io,w3,rfl,?_,hio6⟩,.inr ⟨iq,w5,hRn,rfl,?_,hiq6,by simp;omega⟩,?_,by omega⟩
  all_goals ((try simp (discharger:=((try simp only[aa9]);omega)) only[acL,acI,abQ,acQ,acR,acV,adG,aa9,adJ,adK,adL,adM])<;>(first|exact rfl|exact hR|exact hg|exact hb|exact hio|exact hiq))
theorem abT{s:Ac}{d:An}{hr own fuel:Int}{h:Aa}{r:Nat}{G L:List Int}{O:List Ab}{R W:List Int}{x:Au}(hl:s.cons.length≤1000)(hn0:s.cons≠[])(h0:0≤hr)(hx:d.hours[hr.toNat]?=some x)(H:HsB s d hr own fuel G L O R W r h):
 ∃es,cl Bl h (some (.func (.func 107) [.ptr r 0 0] [])) (some [])=some (.ret (.tup []),es)∧zZ h (Ar h es)∧
  HsC s d hr own fuel G L O R W (Gk Ft s.cons W x.inn x.out) r (Ar h es):=by
 obtain⟨hr6,hG,hL,hWl,w,w1,w2,ov,rv,iw,w4,hR,hg,hb,hov,hrv,hw,hw6⟩:=H
 have l1:=Eb hR
 have l2:=Eb hg
 have l3:=Eb hb
 have lw0:=Eb hw
 have hW0:W≠[]:=fun e=>hn0 (adQ.1 (by rw[←hWl,e];rfl))
 have hAl:(Gk Ft s.cons W x.inn x.out).length=s.cons.length:=by simp[Gk,Ut,hWl]
 rcases hov with⟨rfl,rfl⟩|⟨io,w3,rfl,hio,hio6⟩<;>rcases hrv with⟨rfl,rfl⟩|⟨iq,w5,hRn,rfl,hiq,hiq6,hqx⟩
 ·have n_0_1:(r=5)=False:=eq_false (by omega)
  have n_0_2:(r=6)=False:=eq_false (by omega)
  have n_0_3:(r=iw)=False:=eq_false fun e=>by subst e;rw[hR]at hw;simp at hw
  have qn_0_3:r≠iw:=of_eq_false n_0_3
  have n_1_3:(5=iw)=False:=eq_false (by omega)
  have n_2_3:(6=iw)=False:=eq_false (by omega)
  obtain⟨o,h',e,rfl,rfl⟩:=abP (s:=s) (d:=d) (hr:=hr) (own:=own) (fuel:=fuel) (G:=G) (L:=L) (O:=[]) (R:=[]) (W:=W) (w:=false) (w1:=false) (w2:=false) (w3:=false) (w5:=false) (w4:=false) hWl (by omega) hW0 h0 hx
  simp only[hG,hL,hWl,acI,abQ]at e
  refine⟨_,by simp only[Vc.down,seval,hR,hg,hb,hw,n_0_1,n_0_2,n_0_3,n_1_3,n_2_3,e];exact rfl,?_⟩
  simp only[Ar,Cc]
  refine⟨fun x hx=>by((try simp (discharger:=((try simp only[aa9]);omega)) only[acL,acI,abQ,acQ,acR,acV,adG,aa9,adJ,adK,adL,adM])<;>(first|exact rfl|exact rfl)),hr6,hG,hL,hWl,hAl,true,w1,w2,.nils,.nils,iw,h.length,w4,false,?_,?_,?_,.inl ⟨rfl,rfl⟩,.inl ⟨rfl,rfl⟩,?_,hw6,?_,by omega,by omega⟩
  all_goals ((try simp (discharger:=((try simp only[aa9]);omega)) only[acL,acI,abQ,acQ,acR,acV,adG,aa9,adJ,adK,adL,adM])<;>(first|exact rfl|exact hR|exact hg|exact hb|exact hw))
 ·have n_0_1:(r=5)=False:=eq_false (by omega)
  have n_0_2:(r=6)=False:=eq_false (by omega)
  have n_0_3:(r=iw)=False:=eq_false fun e=>by subst e;rw[hR]at hw;simp at hw
  have qn_0_3:r≠iw:=of_eq_false n_0_3
  have n_0_4:(r=iq)=False:=eq_false fun e=>by subst e;rw[hR]at hiq;simp at hiq
  have qn_0_4:r≠iq:=of_eq_false n_0_4
  have n_1_3:(5=iw)=False:=eq_false (by omega)
  have n_1_4:(5=iq)=False:=eq_false (by omega)
  have n_2_3:(6=iw)=False:=eq_false (by omega)
  have n_2_4:(6=iq)=False:=eq_false (by omega)
  have n_3_4:(iw=iq)=False:=eq_false fun e=>by subst e;simp at hqx
  have qn_3_4:iw≠iq:=of_eq_false n_3_4
  have l5:=Eb hiq
  obtain⟨o,h',e,rfl,rfl⟩:=aa7 (s:=s) (d:=d) (hr:=hr) (own:=own) (fuel:=fuel) (G:=G) (L:=L) (O:=[]) (R:=R) (W:=W) (w:=false) (w1:=false) (w2:=false) (w3:=false) (w5:=false) (w4:=false) hWl (by omega) hW0 h0 hx
  simp only[hG,hL,hWl,acI,abQ]at e
  refine⟨_,by simp only[Vc.down,seval,hR,hg,hb,hw,hiq,n_0_1,n_0_2,n_0_3,n_0_4,n_1_3,n_1_4,n_2_3,n_2_4,n_3_4,e];exact rfl,?_⟩
  simp only[Ar,Cc]
  refine⟨fun x hx=>by((try simp (discharger:=((try simp only[aa9]);omega)) only[acL,acI,abQ,acQ,acR,acV,adG,aa9,adJ,adK,adL,adM])<;>(first|exact rfl|exact rfl)),hr6,hG,hL,hWl,hAl,true,w1,w2,.nils,.slr 1 iq 0 R.length,iw,h.length,w4,false,?_,?_,?_,.inl ⟨rfl,rfl⟩,.inr ⟨iq,w5,hRn,rfl,?_,hiq6,by simp;omega⟩,?_,hw6,?_,by omega,by omega⟩
  all_goals ((try simp (discharger:=((try simp only[aa9]);omega)) only[acL,acI,abQ,acQ,acR,acV,adG,aa9,adJ,adK,adL,adM])<;>(first|exact rfl|exact hR|exact hg|exact hb|exact hw|exact hiq))
 ·have n_0_1:(r=5)=False:=eq_false (by omega)
  have n_0_2:(r=6)=False:=eq_false (by omega)
  have n_0_3:(r=io)=False:=eq_false fun e=>by subst e;rw[hR]at hio;simp at hio
  have qn_0_3:r≠io:=of_eq_false n_0_3
  have n_0_4:(r=iw)=False:=eq_false fun e=>by subst e;rw[hR]at hw;simp at hw
  have qn_0_4:r≠iw:=of_eq_false n_0_4
  have n_1_3:(5=io)=False:=eq_false (by omega)
  have n_1_4:(5=iw)=False:=eq_false (by omega)
  have n_2_3:(6=io)=False:=eq_false (by omega)
  have n_2_4:(6=iw)=False:=eq_false (by omega)
  have n_3_4:(io=iw)=False:=eq_false fun e=>by subst e;rw[hio]at hw;simp at hw
  have qn_3_4:io≠iw:=of_eq_false n_3_4
  have l4:=Eb hio
  obtain⟨o,h',e,rfl,rfl⟩:=aa8 (s:=s) (d:=d) (hr:=hr) (own:=own) (fuel:=fuel) (G:=G) (L:=L) (O:=O) (R:=[]) (W:=W) (w:=false) (w1:=false) (w2:=false) (w3:=false) (w5:=false) (w4:=false) hWl (by omega) hW0 h0 hx
  simp only[hG,hL,hWl,acI,abQ]at e
  refine⟨_,by simp only[Vc.down,seval,hR,hg,hb,hio,hw,n_0_1,n_0_2,n_0_3,n_0_4,n_1_3,n_1_4,n_2_3,n_2_4,n_3_4,e];exact rfl,?_⟩
  simp only[Ar,Cc]
  refine⟨fun x hx=>by((try simp (discharger:=((try simp only[aa9]);omega)) only[acL,acI,abQ,acQ,acR,acV,adG,aa9,adJ,adK,adL,adM])<;>(first|exact rfl|exact rfl)),hr6,hG,hL,hWl,hAl,true,w1,w2,.slr 5 io 0 O.length,.nils,iw,h.length,w4,false,?_,?_,?_,.inr ⟨io,w3,rfl,?_,hio6⟩,.inl ⟨rfl,rfl⟩,?_,hw6,?_,by omega,by omega⟩
  all_goals ((try simp (discharger:=((try simp only[aa9]);omega)) only[acL,acI,abQ,acQ,acR,acV,adG,aa9,adJ,adK,adL,adM])<;>(first|exact rfl|exact hR|exact hg|exact hb|exact hio|exact hw))
 ·have n_0_1:(r=5)=False:=eq_false (by omega)
  have n_0_2:(r=6)=False:=eq_false (by omega)
  have n_0_3:(r=io)=False:=eq_false fun e=>by subst e;rw[hR]at hio;simp at hio
  have qn_0_3:r≠io:=of_eq_false n_0_3
  have n_0_4:(r=iw)=False:=eq_false fun e=>by subst e;rw[hR]at hw;simp at hw
  have qn_0_4:r≠iw:=of_eq_false n_0_4
  have n_0_5:(r=iq)=False:=eq_false fun e=>by subst e;rw[hR]at hiq;simp at hiq
  have qn_0_5:r≠iq:=of_eq_false n_0_5
  have n_1_3:(5=io)=False:=eq_false (by omega)
  have n_1_4:(5=iw)=False:=eq_false (by omega)
  have n_1_5:(5=iq)=False:=eq_false (by omega)
  have n_2_3:(6=io)=False:=eq_false (by omega)
  have n_2_4:(6=iw)=False:=eq_false (by omega)
  have n_2_5:(6=iq)=False:=eq_false (by omega)
  have n_3_4:(io=iw)=False:=eq_false fun e=>by subst e;rw[hio]at hw;simp at hw
  have qn_3_4:io≠iw:=of_eq_false n_3_4
  have n_3_5:(io=iq)=False:=eq_false fun e=>by subst e;rw[hio]at hiq;simp at hiq
  have qn_3_5:io≠iq:=of_eq_false n_3_5
  have n_4_5:(iw=iq)=False:=eq_false fun e=>by subst e;simp at hqx
  have qn_4_5:iw≠iq:=of_eq_false n_4_5
  have l4:=Eb hio
  have l5:=Eb hiq
  obtain⟨o,h',e,rfl,rfl⟩:=abX (s:=s) (d:=d) (hr:=hr) (own:=own) (fuel:=fuel) (G:=G) (L:=L) (O:=O) (R:=R) (W:=W) (w:=false) (w1:=false) (w2:=false) (w3:=false) (w5:=false) (w4:=false) hWl (by omega) hW0 h0 hx
  simp only[hG,hL,hWl,acI,abQ]at e
  refine⟨_,by simp only[Vc.down,seval,hR,hg,hb,hio,hw,hiq,n_0_1,n_0_2,n_0_3,n_0_4,n_0_5,n_1_3,n_1_4,n_1_5,n_2_3,n_2_4,n_2_5,n_3_4,n_3_5,n_4_5,e];exact rfl,?_⟩
  simp only[Ar,Cc]
  refine⟨fun x hx=>by((try simp (discharger:=((try simp only[aa9]);omega)) only[acL,acI,abQ,acQ,acR,acV,adG,aa9,adJ,adK,adL,adM])<;>(first|exact rfl|exact rfl)),hr6,hG,hL,hWl,hAl,true,w1,w2,.slr 5 io 0 O.length,.slr 1 iq 0 R.length,iw,h.length,w4,false,?_,?_,?_,.inr ⟨io,w3,rfl,?_,hio6⟩,.inr ⟨iq,w5,hRn,rfl,?_,hiq6,by simp;omega⟩,?_,hw6,?_,by omega,by omega⟩
  all_goals ((try simp (discharger:=((try simp only[aa9]);omega)) only[acL,acI,abQ,acQ,acR,acV,adG,aa9,adJ,adK,adL,adM])<;>(first|exact rfl|exact hR|exact hg|exact hb|exact hio|exact hw|exact hiq))
theorem ae7{s:Ac}{d:An}{hr own fuel:Int}{h:Aa}{r:Nat}{G L:List Int}{O:List Ab}{R W A:List Int}{x:Au}(hl:s.cons.length≤1000)(hn0:s.cons≠[])(h0:0≤hr)(hx:d.hours[hr.toNat]?=some x)(H:HsC s d hr own fuel G L O R W A r h):
 ∃es,cl Bl h (some (.func (.func 108) [.ptr r 0 0] [])) (some [])=some (.ret (.tup []),es)∧zZ h (Ar h es)∧
  HsD s d hr (cX A x own) fuel G L O R W A (Zc A x) r (Ar h es):=by
 obtain⟨hr6,hG,hL,hWl,hAl,w,w1,w2,ov,rv,iw,ia,w4,w6,hR,hg,hb,hov,hrv,hw,hw6,ha,ha6,d01⟩:=H
 have l1:=Eb hR
 have l2:=Eb hg
 have l3:=Eb hb
 have lw0:=Eb hw
 have lw1:=Eb ha
 have hA0:A≠[]:=fun e=>hn0 (adQ.1 (by rw[←hAl,e];rfl))
 have hFl:(Zc A x).length=s.cons.length:=by simp[Zc,Br,Dz,hAl]
 rcases hov with⟨rfl,rfl⟩|⟨io,w3,rfl,hio,hio6⟩<;>rcases hrv with⟨rfl,rfl⟩|⟨iq,w5,hRn,rfl,hiq,hiq6,hqx⟩
 ·have n_0_1:(r=5)=False:=eq_false (by omega)
  have n_0_2:(r=6)=False:=eq_false (by omega)
  have n_0_3:(r=iw)=False:=eq_false fun e=>by subst e;rw[hR]at hw;simp at hw
  have qn_0_3:r≠iw:=of_eq_false n_0_3
  have n_0_4:(r=ia)=False:=eq_false fun e=>by subst e;rw[hR]at ha;simp at ha
  have qn_0_4:r≠ia:=of_eq_false n_0_4
  have n_1_3:(5=iw)=False:=eq_false (by omega)
  have n_1_4:(5=ia)=False:=eq_false (by omega)
  have n_2_3:(6=iw)=False:=eq_false (by omega)
  have n_2_4:(6=ia)=False:=eq_false (by omega)
  have n_3_4:(iw=ia)=False:=eq_false d01
  have qn_3_4:iw≠ia:=of_eq_false n_3_4
  obtain⟨o,h',e,rfl,rfl⟩:=aeM (s:=s) (d:=d) (hr:=hr) (own:=own) (fuel:=fuel) (G:=G) (L:=L) (O:=[]) (R:=[]) (W:=W) (A:=A) (w:=false) (w1:=false) (w2:=false) (w3:=false) (w5:=false) (w4:=false) (w6:=false) (by omega) hA0 h0 hx
  simp only[hG,hL,hWl,hAl,acI,abQ]at e
  refine⟨_,by simp only[Vc.down,seval,hR,hg,hb,hw,ha,n_0_1,n_0_2,n_0_3,n_0_4,n_1_3,n_1_4,n_2_3,n_2_4,n_3_4,e];exact rfl,?_⟩
  simp only[Ar,Cc]
  refine⟨fun x hx=>by((try simp (discharger:=((try simp only[aa9]);omega)) only[acL,acI,abQ,acQ,acR,acV,adG,aa9,adJ,adK,adL,adM])<;>(first|exact rfl|exact rfl)),hr6,hG,hL,hWl,hAl,hFl,true,w1,w2,.nils,.nils,iw,ia,h.length,w4,w6,false,?_,?_,?_,.inl ⟨rfl,rfl⟩,.inl ⟨rfl,rfl⟩,?_,hw6,?_,ha6,?_,by omega,d01,by omega,by omega⟩
  all_goals ((try simp (discharger:=((try simp only[aa9]);omega)) only[acL,acI,abQ,acQ,acR,acV,adG,aa9,adJ,adK,adL,adM])<;>(first|exact rfl|exact hR|exact hg|exact hb|exact hw|exact ha))
 ·have n_0_1:(r=5)=False:=eq_false (by omega)
  have n_0_2:(r=6)=False:=eq_false (by omega)
  have n_0_3:(r=iw)=False:=eq_false fun e=>by subst e;rw[hR]at hw;simp at hw
  have qn_0_3:r≠iw:=of_eq_false n_0_3
  have n_0_4:(r=ia)=False:=eq_false fun e=>by subst e;rw[hR]at ha;simp at ha
  have qn_0_4:r≠ia:=of_eq_false n_0_4
  have n_0_5:(r=iq)=False:=eq_false fun e=>by subst e;rw[hR]at hiq;simp at hiq
  have qn_0_5:r≠iq:=of_eq_false n_0_5
  have n_1_3:(5=iw)=False:=eq_false (by omega)
  have n_1_4:(5=ia)=False:=eq_false (by omega)
  have n_1_5:(5=iq)=False:=eq_false (by omega)
  have n_2_3:(6=iw)=False:=eq_false (by omega)
  have n_2_4:(6=ia)=False:=eq_false (by omega)
  have n_2_5:(6=iq)=False:=eq_false (by omega)
  have n_3_4:(iw=ia)=False:=eq_false d01
  have qn_3_4:iw≠ia:=of_eq_false n_3_4
  have n_3_5:(iw=iq)=False:=eq_false fun e=>by subst e;simp at hqx
  have qn_3_5:iw≠iq:=of_eq_false n_3_5
  have n_4_5:(ia=iq)=False:=eq_false fun e=>by subst e;simp at hqx
  have qn_4_5:ia≠iq:=of_eq_false n_4_5
  have l5:=Eb hiq
  obtain⟨o,h',e,rfl,rfl⟩:=ahT (s:=s) (d:=d) (hr:=hr) (own:=own) (fuel:=fuel) (G:=G) (L:=L) (O:=[]) (R:=R) (W:=W) (A:=A) (w:=false) (w1:=false) (w2:=false) (w3:=false) (w5:=false) (w4:=false) (w6:=false) (by omega) hA0 h0 hx
  simp only[hG,hL,hWl,hAl,acI,abQ]at e
  refine⟨_,by simp only[Vc.down,seval,hR,hg,hb,hw,ha,hiq,n_0_1,n_0_2,n_0_3,n_0_4,n_0_5,n_1_3,n_1_4,n_1_5,n_2_3,n_2_4,n_2_5,n_3_4,n_3_5,n_4_5,e];exact rfl,?_⟩
  simp only[Ar,Cc]
  refine⟨fun x hx=>by((try simp (discharger:=((try simp only[aa9]);omega)) only[acL,acI,abQ,acQ,acR,acV,adG,aa9,adJ,adK,adL,adM])<;>(first|exact rfl|exact rfl)),hr6,hG,hL,hWl,hAl,hFl,true,w1,w2,.nils,.slr 1 iq 0 R.length,iw,ia,h.length,w4,w6,false,?_,?_,?_,.inl ⟨rfl,rfl⟩,.inr ⟨iq,w5,hRn,rfl,?_,hiq6,by simp at hqx ⊢;omega⟩,?_,hw6,?_,ha6,?_,by omega,d01,by omega,by omega⟩
  all_goals ((try simp (discharger:=((try simp only[aa9]);omega)) only[acL,acI,abQ,acQ,acR,acV,adG,aa9,adJ,adK,adL,adM])<;>(first|exact rfl|exact hR|exact hg|exact hb|exact hw|exact ha|exact hiq))
 ·have n_0_1:(r=5)=False:=eq_false (by omega)
  have n_0_2:(r=6)=False:=eq_false (by omega)
  have n_0_3:(r=io)=False:=eq_false fun e=>by subst e;rw[hR]at hio;simp at hio
  have qn_0_3:r≠io:=of_eq_false n_0_3
  have n_0_4:(r=iw)=False:=eq_false fun e=>by subst e;rw[hR]at hw;simp at hw
  have qn_0_4:r≠iw:=of_eq_false n_0_4
  have n_0_5:(r=ia)=False:=eq_false fun e=>by subst e;rw[hR]at ha;simp at ha
  have qn_0_5:r≠ia:=of_eq_false n_0_5
  have n_1_3:(5=io)=False:=eq_false (by omega)
  have n_1_4:(5=iw)=False:=eq_false (by omega)
  have n_1_5:(5=ia)=False:=eq_false (by omega)
  have n_2_3:(6=io)=False:=eq_false (by omega)
  have n_2_4:(6=iw)=False:=eq_false (by omega)
  have n_2_5:(6=ia)=False:=eq_false (by omega)
  have n_3_4:(io=iw)=False:=eq_false fun e=>by subst e;rw[hio]at hw;simp at hw
  have qn_3_4:io≠iw:=of_eq_false n_3_4
  have n_3_5:(io=ia)=False:=eq_false fun e=>by subst e;rw[hio]at ha;simp at ha
  have qn_3_5:io≠ia:=of_eq_false n_3_5
  have n_4_5:(iw=ia)=False:=eq_false d01
  have qn_4_5:iw≠ia:=of_eq_false n_4_5
  have l4:=Eb hio
  obtain⟨o,h',e,rfl,rfl⟩:=ahK (s:=s) (d:=d) (hr:=hr) (own:=own) (fuel:=fuel) (G:=G) (L:=L) (O:=O) (R:=[]) (W:=W) (A:=A) (w:=false) (w1:=false) (w2:=false) (w3:=false) (w5:=false) (w4:=false) (w6:=false) (by omega) hA0 h0 hx
  simp only[hG,hL,hWl,hAl,acI,abQ]at e
  refine⟨_,by simp only[Vc.down,seval,hR,hg,hb,hio,hw,ha,n_0_1,n_0_2,n_0_3,n_0_4,n_0_5,n_1_3,n_1_4,n_1_5,n_2_3,n_2_4,n_2_5,n_3_4,n_3_5,n_4_5,e];exact rfl,?_⟩
  simp only[Ar,Cc]
  refine⟨fun x hx=>by((try simp (discharger:=((try simp only[aa9]);omega)) only[acL,acI,abQ,acQ,acR,acV,adG,aa9,adJ,adK,adL,adM])<;>(first|exact rfl|exact rfl)),hr6,hG,hL,hWl,hAl,hFl,true,w1,w2,.slr 5 io 0 O.length,.nils,iw,ia,h.length,w4,w6,false,?_,?_,?_,.inr ⟨io,w3,rfl,?_,hio6⟩,.inl ⟨rfl,rfl⟩,?_,hw6,?_,ha6,?_,by omega,d01,by omega,by omega⟩
  all_goals ((try simp (discharger:=((try simp only[aa9]);omega)) only[acL,acI,abQ,acQ,acR,acV,adG,aa9,adJ,adK,adL,adM])<;>(first|exact rfl|exact hR|exact hg|exact hb|exact hio|exact hw|exact ha))
 ·have n_0_1:(r=5)=False:=eq_false (by omega)
  have n_0_2:(r=6)=False:=eq_false (by omega)
  have n_0_3:(r=io)=False:=eq_false fun e=>by subst e;rw[hR]at hio;simp at hio
  have qn_0_3:r≠io:=of_eq_false n_0_3
  have n_0_4:(r=iw)=False:=eq_false fun e=>by subst e;rw[hR]at hw;simp at hw
  have qn_0_4:r≠iw:=of_eq_false n_0_4
  have n_0_5:(r=ia)=False:=eq_false fun e=>by subst e;rw[hR]at ha;simp at ha
  have qn_0_5:r≠ia:=of_eq_false n_0_5
  have n_0_6:(r=iq)=False:=eq_false fun e=>by subst e;rw[hR]at hiq;simp at hiq
  have qn_0_6:r≠iq:=of_eq_false n_0_6
  have n_1_3:(5=io)=False:=eq_false (by omega)
  have n_1_4:(5=iw)=False:=eq_false (by omega)
  have n_1_5:(5=ia)=False:=eq_false (by omega)
  have n_1_6:(5=iq)=False:=eq_false (by omega)
  have n_2_3:(6=io)=False:=eq_false (by omega)
  have n_2_4:(6=iw)=False:=eq_false (by omega)
  have n_2_5:(6=ia)=False:=eq_false (by omega)
  have n_2_6:(6=iq)=False:=eq_false (by omega)
  have n_3_4:(io=iw)=False:=eq_false fun e=>by subst e;rw[hio]at hw;simp at hw
  have qn_3_4:io≠iw:=of_eq_false n_3_4
  have n_3_5:(io=ia)=False:=eq_false fun e=>by subst e;rw[hio]at ha;simp at ha
  have qn_3_5:io≠ia:=of_eq_false n_3_5
  have n_3_6:(io=iq)=False:=eq_false fun e=>by subst e;rw[hio]at hiq;simp at hiq
  have qn_3_6:io≠iq:=of_eq_false n_3_6
  have n_4_5:(iw=ia)=False:=eq_false d01
  have qn_4_5:iw≠ia:=of_eq_false n_4_5
  have n_4_6:(iw=iq)=False:=eq_false fun e=>by subst e;simp at hqx
  have qn_4_6:iw≠iq:=of_eq_false n_4_6
  have n_5_6:(ia=iq)=False:=eq_false fun e=>by subst e;simp at hqx
  have qn_5_6:ia≠iq:=of_eq_false n_5_6
  have l4:=Eb hio
  have l5:=Eb hiq
  obtain⟨o,h',e,rfl,rfl⟩:=aiA (s:=s) (d:=d) (hr:=hr) (own:=own) (fuel:=fuel) (G:=G) (L:=L) (O:=O) (R:=R) (W:=W) (A:=A) (w:=false) (w1:=false) (w2:=false) (w3:=false) (w5:=false) (w4:=false) (w6:=false) (by omega) hA0 h0 hx
  simp only[hG,hL,hWl,hAl,acI,abQ]at e
  refine⟨_,by simp only[Vc.down,seval,hR,hg,hb,hio,hw,ha,hiq,n_0_1,n_0_2,n_0_3,n_0_4,n_0_5,n_0_6,n_1_3,n_1_4,n_1_5,n_1_6,n_2_3,n_2_4,n_2_5,n_2_6,n_3_4,n_3_5,n_3_6,n_4_5,n_4_6,n_5_6,e];exact rfl,?_⟩
  simp only[Ar,Cc]
  refine⟨fun x hx=>by((try simp (discharger:=((try simp only[aa9]);omega)) only[acL,acI,abQ,acQ,acR,acV,adG,aa9,adJ,adK,adL,adM])<;>(first|exact rfl|exact rfl)),hr6,hG,hL,hWl,hAl,hFl,true,w1,w2,.slr 5 io 0 O.length,.slr 1 iq 0 R.length,iw,ia,h.length,w4,w6,false,?_,?_,?_,.inr ⟨io,w3,rfl,?_,hio6⟩,.inr ⟨iq,w5,hRn,rfl,?_,hiq6,by simp at hqx ⊢;omega⟩,?_,hw6,?_,ha6,?_,by omega,d01,by omega,by omega⟩
  all_goals ((try simp (discharger:=((try simp only[aa9]);omega)) only[acL,acI,abQ,acQ,acR,acV,adG,aa9,adJ,adK,adL,adM])<;>(first|exact rfl|exact hR|exact hg|exact hb|exact hio|exact hw|exact ha|exact hiq))
theorem arV{s:Ac}{d:An}{hr own fuel:Int}{h:Aa}{r:Nat}{G L:List Int}{O:List Ab}{R W A F:List Int}(hl:s.cons.length≤1000)(H:HsD s d hr own fuel G L O R W A F r h):
 ∃es,cl Bl h (some (.func (.func 109) [.ptr r 0 0] [])) (some [])=some (.ret (.tup []),es)∧zZ h (Ar h es)∧
  HsD s d hr own (Gt s.fuel F 0 (G,fuel)).2 (Gt s.fuel F 0 (G,fuel)).1 L O R W A F r (Ar h es):=by
 obtain⟨hr6,hG,hL,hWl,hAl,hFl,w,w1,w2,ov,rv,iw,ia,jf,w4,w6,w7,hR,hg,hb,hov,hrv,hw,hw6,ha,ha6,hf,hf6,d01,d02,d12⟩:=H
 have l1:=Eb hR
 have l2:=Eb hg
 have l3:=Eb hb
 have lw0:=Eb hw
 have lw1:=Eb ha
 have lw2:=Eb hf
 have hGl:(Gt s.fuel F 0 (G,fuel)).1.length=s.cons.length:=by rw[Yf,hG]
 rcases hov with⟨rfl,rfl⟩|⟨io,w3,rfl,hio,hio6⟩<;>rcases hrv with⟨rfl,rfl⟩|⟨iq,w5,hRn,rfl,hiq,hiq6,hqx⟩
 ·have n_0_1:(r=5)=False:=eq_false (by omega)
  have n_0_2:(r=6)=False:=eq_false (by omega)
  have n_0_3:(r=iw)=False:=eq_false fun e=>by subst e;rw[hR]at hw;simp at hw
  have qn_0_3:r≠iw:=of_eq_false n_0_3
  have n_0_4:(r=ia)=False:=eq_false fun e=>by subst e;rw[hR]at ha;simp at ha
  have qn_0_4:r≠ia:=of_eq_false n_0_4
  have n_0_5:(r=jf)=False:=eq_false fun e=>by subst e;rw[hR]at hf;simp at hf
  have qn_0_5:r≠jf:=of_eq_false n_0_5
  have n_1_3:(5=iw)=False:=eq_false (by omega)
  have n_1_4:(5=ia)=False:=eq_false (by omega)
  have n_1_5:(5=jf)=False:=eq_false (by omega)
  have n_2_3:(6=iw)=False:=eq_false (by omega)
  have n_2_4:(6=ia)=False:=eq_false (by omega)
  have n_2_5:(6=jf)=False:=eq_false (by omega)
  have n_3_4:(iw=ia)=False:=eq_false d01
  have qn_3_4:iw≠ia:=of_eq_false n_3_4
  have n_3_5:(iw=jf)=False:=eq_false d02
  have qn_3_5:iw≠jf:=of_eq_false n_3_5
  have n_4_5:(ia=jf)=False:=eq_false d12
  have qn_4_5:ia≠jf:=of_eq_false n_4_5
  obtain⟨o,h',e,rfl,wr,wG,hwG,hwr,rfl⟩:=aq2 (s:=s) (d:=d) (hr:=hr) (own:=own) (fuel:=fuel) (G:=G) (L:=L) (O:=[]) (R:=[]) (W:=W) (A:=A) (F:=F) (w:=false) (w1:=false) (w2:=false) (w3:=false) (w5:=false) (w4:=false) (w6:=false) (w7:=false) (by omega) (by omega)
  generalize hFu:Gt s.fuel F 0 (G,fuel)=gf at *
  obtain⟨G',fu'⟩:=gf
  dsimp only at *
  simp only[hG,hL,hWl,hAl,hFl,acI,abQ]at e
  obtain⟨vG,hvG⟩:∃v,v=wG:=⟨_,rfl⟩
  obtain⟨vr,hvr⟩:∃v,v=wr:=⟨_,rfl⟩
  cases wr<;>cases wG<;>(try have:=hwG rfl)<;>(try subst G')<;>(try have:=hwr rfl)<;>(try subst fu')<;>(
   refine⟨_,by simp only[Vc.down,seval,hR,hg,hb,hw,ha,hf,n_0_1,n_0_2,n_0_3,n_0_4,n_0_5,n_1_3,n_1_4,n_1_5,n_2_3,n_2_4,n_2_5,n_3_4,n_3_5,n_4_5,e];exact rfl,?_⟩
   simp only[Ar,Cc]
   refine⟨fun x hx=>by((try simp (discharger:=((try simp only[aa9]);omega)) only[acL,acI,abQ,acQ,acR,acV,adG,aa9,adJ,adK,adL,adM])<;>(first|exact rfl|exact rfl)),hr6,hGl,hL,hWl,hAl,hFl,(vr||w),(vG||w1),w2,.nils,.nils,iw,ia,jf,w4,w6,w7,?_,?_,?_,.inl ⟨rfl,rfl⟩,.inl ⟨rfl,rfl⟩,?_,hw6,?_,ha6,?_,hf6,d01,d02,d12⟩
   all_goals (subst vr;subst vG;((try simp (discharger:=((try simp only[aa9]);omega)) only[acL,acI,abQ,acQ,acR,acV,adG,aa9,adJ,adK,adL,adM])<;>(first|exact rfl|exact hR|exact hg|exact hb|exact hw|exact ha|exact hf))))
 ·have n_0_1:(r=5)=False:=eq_false (by omega)
  have n_0_2:(r=6)=False:=eq_false (by omega)
  have n_0_3:(r=iw)=False:=eq_false fun e=>by subst e;rw[hR]at hw;simp at hw
  have qn_0_3:r≠iw:=of_eq_false n_0_3
  have n_0_4:(r=ia)=False:=eq_false fun e=>by subst e;rw[hR]at ha;simp at ha
  have qn_0_4:r≠ia:=of_eq_false n_0_4
  have n_0_5:(r=jf)=False:=eq_false fun e=>by subst e;rw[hR]at hf;simp at hf
  have qn_0_5:r≠jf:=of_eq_false n_0_5
  have n_0_6:(r=iq)=False:=eq_false fun e=>by subst e;rw[hR]at hiq;simp at hiq
  have qn_0_6:r≠iq:=of_eq_false n_0_6
  have n_1_3:(5=iw)=False:=eq_false (by omega)
  have n_1_4:(5=ia)=False:=eq_false (by omega)
  have n_1_5:(5=jf)=False:=eq_false (by omega)
  have n_1_6:(5=iq)=False:=eq_false (by omega)
  have n_2_3:(6=iw)=False:=eq_false (by omega)
  have n_2_4:(6=ia)=False:=eq_false (by omega)
  have n_2_5:(6=jf)=False:=eq_false (by omega)
  have n_2_6:(6=iq)=False:=eq_false (by omega)
  have n_3_4:(iw=ia)=False:=eq_false d01
  have qn_3_4:iw≠ia:=of_eq_false n_3_4
  have n_3_5:(iw=jf)=False:=eq_false d02
  have qn_3_5:iw≠jf:=of_eq_false n_3_5
  have n_3_6:(iw=iq)=False:=eq_false fun e=>by subst e;simp at hqx
  have qn_3_6:iw≠iq:=of_eq_false n_3_6
  have n_4_5:(ia=jf)=False:=eq_false d12
  have qn_4_5:ia≠jf:=of_eq_false n_4_5
  have n_4_6:(ia=iq)=False:=eq_false fun e=>by subst e;simp at hqx
  have qn_4_6:ia≠iq:=of_eq_false n_4_6
  have n_5_6:(jf=iq)=False:=eq_false fun e=>by subst e;simp at hqx
  have qn_5_6:jf≠iq:=of_eq_false n_5_6
  have l5:=Eb hiq
  obtain⟨o,h',e,rfl,wr,wG,hwG,hwr,rfl⟩:=apL (s:=s) (d:=d) (hr:=hr) (own:=own) (fuel:=fuel) (G:=G) (L:=L) (O:=[]) (R:=R) (W:=W) (A:=A) (F:=F) (w:=false) (w1:=false) (w2:=false) (w3:=false) (w5:=false) (w4:=false) (w6:=false) (w7:=false) (by omega) (by omega)
  generalize hFu:Gt s.fuel F 0 (G,fuel)=gf at *
  obtain⟨G',fu'⟩:=gf
  dsimp only at *
  simp only[hG,hL,hWl,hAl,hFl,acI,abQ]at e
  obtain⟨vG,hvG⟩:∃v,v=wG:=⟨_,rfl⟩
  obtain⟨vr,hvr⟩:∃v,v=wr:=⟨_,rfl⟩
  cases wr<;>cases wG<;>(try have:=hwG rfl)<;>(try subst G')<;>(try have:=hwr rfl)<;>(try subst fu')<;>(
   refine⟨_,by simp only[Vc.down,seval,hR,hg,hb,hw,ha,hf,hiq,n_0_1,n_0_2,n_0_3,n_0_4,n_0_5,n_0_6,n_1_3,n_1_4,n_1_5,n_1_6,n_2_3,n_2_4,n_2_5,n_2_6,n_3_4,n_3_5,n_3_6,n_4_5,n_4_6,n_5_6,e];exact rfl,?_⟩
   simp only[Ar,Cc]
   refine⟨fun x hx=>by((try simp (discharger:=((try simp only[aa9]);omega)) only[acL,acI,abQ,acQ,acR,acV,adG,aa9,adJ,adK,adL,adM])<;>(first|exact rfl|exact rfl)),hr6,hGl,hL,hWl,hAl,hFl,(vr||w),(vG||w1),w2,.nils,.slr 1 iq 0 R.length,iw,ia,jf,w4,w6,w7,?_,?_,?_,.inl ⟨rfl,rfl⟩,.inr ⟨iq,w5,hRn,rfl,?_,hiq6,hqx⟩,?_,hw6,?_,ha6,?_,hf6,d01,d02,d12⟩
   all_goals (subst vr;subst vG;((try simp (discharger:=((try simp only[aa9]);omega)) only[acL,acI,abQ,acQ,acR,acV,adG,aa9,adJ,adK,adL,adM])<;>(first|exact rfl|exact hR|exact hg|exact hb|exact hw|exact ha|exact hf|exact hiq))))
 ·have n_0_1:(r=5)=False:=eq_false (by omega)
  have n_0_2:(r=6)=False:=eq_false (by omega)
  have n_0_3:(r=io)=False:=eq_false fun e=>by subst e;rw[hR]at hio;simp at hio
  have qn_0_3:r≠io:=of_eq_false n_0_3
  have n_0_4:(r=iw)=False:=eq_false fun e=>by subst e;rw[hR]at hw;simp at hw
  have qn_0_4:r≠iw:=of_eq_false n_0_4
  have n_0_5:(r=ia)=False:=eq_false fun e=>by subst e;rw[hR]at ha;simp at ha
  have qn_0_5:r≠ia:=of_eq_false n_0_5
  have n_0_6:(r=jf)=False:=eq_false fun e=>by subst e;rw[hR]at hf;simp at hf
  have qn_0_6:r≠jf:=of_eq_false n_0_6
  have n_1_3:(5=io)=False:=eq_false (by omega)
  have n_1_4:(5=iw)=False:=eq_false (by omega)
  have n_1_5:(5=ia)=False:=eq_false (by omega)
  have n_1_6:(5=jf)=False:=eq_false (by omega)
  have n_2_3:(6=io)=False:=eq_false (by omega)
  have n_2_4:(6=iw)=False:=eq_false (by omega)
  have n_2_5:(6=ia)=False:=eq_false (by omega)
  have n_2_6:(6=jf)=False:=eq_false (by omega)
  have n_3_4:(io=iw)=False:=eq_false fun e=>by subst e;rw[hio]at hw;simp at hw
  have qn_3_4:io≠iw:=of_eq_false n_3_4
  have n_3_5:(io=ia)=False:=eq_false fun e=>by subst e;rw[hio]at ha;simp at ha
  have qn_3_5:io≠ia:=of_eq_false n_3_5
  have n_3_6:(io=jf)=False:=eq_false fun e=>by subst e;rw[hio]at hf;simp at hf
  have qn_3_6:io≠jf:=of_eq_false n_3_6
  have n_4_5:(iw=ia)=False:=eq_false d01
  have qn_4_5:iw≠ia:=of_eq_false n_4_5
  have n_4_6:(iw=jf)=False:=eq_false d02
  have qn_4_6:iw≠jf:=of_eq_false n_4_6
  have n_5_6:(ia=jf)=False:=eq_false d12
  have qn_5_6:ia≠jf:=of_eq_false n_5_6
  have l4:=Eb hio
  obtain⟨o,h',e,rfl,wr,wG,hwG,hwr,rfl⟩:=aqY (s:=s) (d:=d) (hr:=hr) (own:=own) (fuel:=fuel) (G:=G) (L:=L) (O:=O) (R:=[]) (W:=W) (A:=A) (F:=F) (w:=false) (w1:=false) (w2:=false) (w3:=false) (w5:=false) (w4:=false) (w6:=false) (w7:=false) (by omega) (by omega)
  generalize hFu:Gt s.fuel F 0 (G,fuel)=gf at *
  obtain⟨G',fu'⟩:=gf
  dsimp only at *
  simp only[hG,hL,hWl,hAl,hFl,acI,abQ]at e
  obtain⟨vG,hvG⟩:∃v,v=wG:=⟨_,rfl⟩
  obtain⟨vr,hvr⟩:∃v,v=wr:=⟨_,rfl⟩
  cases wr<;>cases wG<;>(try have:=hwG rfl)<;>(try subst G')<;>(try have:=hwr rfl)<;>(try subst fu')<;>(
   refine⟨_,by simp only[Vc.down,seval,hR,hg,hb,hio,hw,ha,hf,n_0_1,n_0_2,n_0_3,n_0_4,n_0_5,n_0_6,n_1_3,n_1_4,n_1_5,n_1_6,n_2_3,n_2_4,n_2_5,n_2_6,n_3_4,n_3_5,n_3_6,n_4_5,n_4_6,n_5_6,e];exact rfl,?_⟩
   simp only[Ar,Cc]
   refine⟨fun x hx=>by((try simp (discharger:=((try simp only[aa9]);omega)) only[acL,acI,abQ,acQ,acR,acV,adG,aa9,adJ,adK,adL,adM])<;>(first|exact rfl|exact rfl)),hr6,hGl,hL,hWl,hAl,hFl,(vr||w),(vG||w1),w2,.slr 5 io 0 O.length,.nils,iw,ia,jf,w4,w6,w7,?_,?_,?_,.inr ⟨io,w3,rfl,?_,hio6⟩,.inl ⟨rfl,rfl⟩,?_,hw6,?_,ha6,?_,hf6,d01,d02,d12⟩
   all_goals (subst vr;subst vG;((try simp (discharger:=((try simp only[aa9]);omega)) only[acL,acI,abQ,acQ,acR,acV,adG,aa9,adJ,adK,adL,adM])<;>(first|exact rfl|exact hR|exact hg|exact hb|exact hio|exact hw|exact ha|exact hf))))
 ·have n_0_1:(r=5)=False:=eq_false (by omega)
  have n_0_2:(r=6)=False:=eq_false (by omega)
  have n_0_3:(r=io)=False:=eq_false fun e=>by subst e;rw[hR]at hio;simp at hio
  have qn_0_3:r≠io:=of_eq_false n_0_3
  have n_0_4:(r=iw)=False:=eq_false fun e=>by subst e;rw[hR]at hw;simp at hw
  have qn_0_4:r≠iw:=of_eq_false n_0_4
  have n_0_5:(r=ia)=False:=eq_false fun e=>by subst e;rw[hR]at ha;simp at ha
  have qn_0_5:r≠ia:=of_eq_false n_0_5
  have n_0_6:(r=jf)=False:=eq_false fun e=>by subst e;rw[hR]at hf;simp at hf
  have qn_0_6:r≠jf:=of_eq_false n_0_6
  have n_0_7:(r=iq)=False:=eq_false fun e=>by subst e;rw[hR]at hiq;simp at hiq
  have qn_0_7:r≠iq:=of_eq_false n_0_7
  have n_1_3:(5=io)=False:=eq_false (by omega)
  have n_1_4:(5=iw)=False:=eq_false (by omega)
  have n_1_5:(5=ia)=False:=eq_false (by omega)
  have n_1_6:(5=jf)=False:=eq_false (by omega)
  have n_1_7:(5=iq)=False:=eq_false (by omega)
  have n_2_3:(6=io)=False:=eq_false (by omega)
  have n_2_4:(6=iw)=False:=eq_false (by omega)
  have n_2_5:(6=ia)=False:=eq_false (by omega)
  have n_2_6:(6=jf)=False:=eq_false (by omega)
  have n_2_7:(6=iq)=False:=eq_false (by omega)
  have n_3_4:(io=iw)=False:=eq_false fun e=>by subst e;rw[hio]at hw;simp at hw
  have qn_3_4:io≠iw:=of_eq_false n_3_4
  have n_3_5:(io=ia)=False:=eq_false fun e=>by subst e;rw[hio]at ha;simp at ha
  have qn_3_5:io≠ia:=of_eq_false n_3_5
  have n_3_6:(io=jf)=False:=eq_false fun e=>by subst e;rw[hio]at hf;simp at hf
  have qn_3_6:io≠jf:=of_eq_false n_3_6
  have n_3_7:(io=iq)=False:=eq_false fun e=>by subst e;rw[hio]at hiq;simp at hiq
  have qn_3_7:io≠iq:=of_eq_false n_3_7
  have n_4_5:(iw=ia)=False:=eq_false d01
  have qn_4_5:iw≠ia:=of_eq_false n_4_5
  have n_4_6:(iw=jf)=False:=eq_false d02
  have qn_4_6:iw≠jf:=of_eq_false n_4_6
  have n_4_7:(iw=iq)=False:=eq_false fun e=>by subst e;simp at hqx
  have qn_4_7:iw≠iq:=of_eq_false n_4_7
  have n_5_6:(ia=jf)=False:=eq_false d12
  have qn_5_6:ia≠jf:=of_eq_false n_5_6
  have n_5_7:(ia=iq)=False:=eq_false fun e=>by subst e;simp at hqx
  have qn_5_7:ia≠iq:=of_eq_false n_5_7
  have n_6_7:(jf=iq)=False:=eq_false fun e=>by subst e;simp at hqx
  have qn_6_7:jf≠iq:=of_eq_false n_6_7
  have l4:=Eb hio
  have l5:=Eb hiq
  obtain⟨o,h',e,rfl,wr,wG,hwG,hwr,rfl⟩:=aoT (s:=s) (d:=d) (hr:=hr) (own:=own) (fuel:=fuel) (G:=G) (L:=L) (O:=O) (R:=R) (W:=W) (A:=A) (F:=F) (w:=false) (w1:=false) (w2:=false) (w3:=false) (w5:=false) (w4:=false) (w6:=false) (w7:=false) (by omega) (by omega)
  generalize hFu:Gt s.fuel F 0 (G,fuel)=gf at *
  obtain⟨G',fu'⟩:=gf
  dsimp only at *
  simp only[hG,hL,hWl,hAl,hFl,acI,abQ]at e
  obtain⟨vG,hvG⟩:∃v,v=wG:=⟨_,rfl⟩
  obtain⟨vr,hvr⟩:∃v,v=wr:=⟨_,rfl⟩
  cases wr<;>cases wG<;>(try have:=hwG rfl)<;>(try subst G')<;>(try have:=hwr rfl)<;>(try subst fu')<;>(
   refine⟨_,by simp only[Vc.down,seval,hR,hg,hb,hio,hw,ha,hf,hiq,n_0_1,n_0_2,n_0_3,n_0_4,n_0_5,n_0_6,n_0_7,n_1_3,n_1_4,n_1_5,n_1_6,n_1_7,n_2_3,n_2_4,n_2_5,n_2_6,n_2_7,n_3_4,n_3_5,n_3_6,n_3_7,n_4_5,n_4_6,n_4_7,n_5_6,n_5_7,n_6_7,e];exact rfl,?_⟩
   simp only[Ar,Cc]
   refine⟨fun x hx=>by((try simp (discharger:=((try simp only[aa9]);omega)) only[acL,acI,abQ,acQ,acR,acV,adG,aa9,adJ,adK,adL,adM])<;>(first|exact rfl|exact rfl)),hr6,hGl,hL,hWl,hAl,hFl,(vr||w),(vG||w1),w2,.slr 5 io 0 O.length,.slr 1 iq 0 R.length,iw,ia,jf,w4,w6,w7,?_,?_,?_,.inr ⟨io,w3,rfl,?_,hio6⟩,.inr ⟨iq,w5,hRn,rfl,?_,hiq6,hqx⟩,?_,hw6,?_,ha6,?_,hf6,d01,d02,d12⟩
   all_goals (subst vr;subst vG;((try simp (discharger:=((try simp only[aa9]);omega)) only[acL,acI,abQ,acQ,acR,acV,adG,aa9,adJ,adK,adL,adM])<;>(first|exact rfl|exact hR|exact hg|exact hb|exact hio|exact hw|exact ha|exact hf|exact hiq))))
theorem aeA{s:Ac}{d:An}{hr own fuel:Int}{h:Aa}{r:Nat}{G L:List Int}{O:List Ab}{R W A F:List Int}(hl:s.cons.length≤1000)(H:HsD s d hr own fuel G L O R W A F r h):
 ∃es,cl Bl h (some (.func (.func 110) [.ptr r 0 0] [])) (some [])=some (.ret (.tup []),es)∧zZ h (Ar h es)∧
  HsD s d hr own fuel G (It (Bt hr F W A) s.cons 0 L) O R W A F r (Ar h es):=by
 obtain⟨hr6,hG,hL,hWl,hAl,hFl,w,w1,w2,ov,rv,iw,ia,jf,w4,w6,w7,hR,hg,hb,hov,hrv,hw,hw6,ha,ha6,hf,hf6,d01,d02,d12⟩:=H
 have l1:=Eb hR
 have l2:=Eb hg
 have l3:=Eb hb
 have lw0:=Eb hw
 have lw1:=Eb ha
 have lw2:=Eb hf
 have hLl:(It (Bt hr F W A) s.cons 0 L).length=s.cons.length:=by rw[Wi,hL]
 rcases hov with⟨rfl,rfl⟩|⟨io,w3,rfl,hio,hio6⟩<;>rcases hrv with⟨rfl,rfl⟩|⟨iq,w5,hRn,rfl,hiq,hiq6,hqx⟩
 ·have n_0_1:(r=5)=False:=eq_false (by omega)
  have n_0_2:(r=6)=False:=eq_false (by omega)
  have n_0_3:(r=iw)=False:=eq_false fun e=>by subst e;rw[hR]at hw;simp at hw
  have qn_0_3:r≠iw:=of_eq_false n_0_3
  have n_0_4:(r=ia)=False:=eq_false fun e=>by subst e;rw[hR]at ha;simp at ha
  have qn_0_4:r≠ia:=of_eq_false n_0_4
  have n_0_5:(r=jf)=False:=eq_false fun e=>by subst e;rw[hR]at hf;simp at hf
  have qn_0_5:r≠jf:=of_eq_false n_0_5
  have n_1_3:(5=iw)=False:=eq_false (by omega)
  have n_1_4:(5=ia)=False:=eq_false (by omega)
  have n_1_5:(5=jf)=False:=eq_false (by omega)
  have n_2_3:(6=iw)=False:=eq_false (by omega)
  have n_2_4:(6=ia)=False:=eq_false (by omega)
  have n_2_5:(6=jf)=False:=eq_false (by omega)
  have n_3_4:(iw=ia)=False:=eq_false d01
  have qn_3_4:iw≠ia:=of_eq_false n_3_4
  have n_3_5:(iw=jf)=False:=eq_false d02
  have qn_3_5:iw≠jf:=of_eq_false n_3_5
  have n_4_5:(ia=jf)=False:=eq_false d12
  have qn_4_5:ia≠jf:=of_eq_false n_4_5
  obtain⟨o,h',e,rfl,wL,hwL,rfl⟩:=aeP (s:=s) (d:=d) (hr:=hr) (own:=own) (fuel:=fuel) (G:=G) (L:=L) (O:=[]) (R:=[]) (W:=W) (A:=A) (F:=F) (w:=false) (w1:=false) (w2:=false) (w3:=false) (w5:=false) (w4:=false) (w6:=false) (w7:=false) hL hWl hAl hFl hl
  generalize hLL:It (Bt hr F W A) s.cons 0 L=L' at *
  simp only[hG,hL,hWl,hAl,hFl,acI,abQ]at e
  obtain⟨vL,hvL⟩:∃v,v=wL:=⟨_,rfl⟩
  cases wL<;>(try (have q:=hwL rfl;subst q))<;>(
   refine⟨_,by simp only[Vc.down,seval,hR,hg,hb,hw,ha,hf,n_0_1,n_0_2,n_0_3,n_0_4,n_0_5,n_1_3,n_1_4,n_1_5,n_2_3,n_2_4,n_2_5,n_3_4,n_3_5,n_4_5,e];exact rfl,?_⟩
   simp only[Ar,Cc]
   refine⟨fun x hx=>by((try simp (discharger:=((try simp only[aa9]);omega)) only[acL,acI,abQ,acQ,acR,acV,adG,aa9,adJ,adK,adL,adM])<;>(first|exact rfl|exact rfl)),hr6,hG,hLl,hWl,hAl,hFl,w,w1,(vL||w2),.nils,.nils,iw,ia,jf,w4,w6,w7,?_,?_,?_,.inl ⟨rfl,rfl⟩,.inl ⟨rfl,rfl⟩,?_,hw6,?_,ha6,?_,hf6,d01,d02,d12⟩
   all_goals (subst vL;((try simp (discharger:=((try simp only[aa9]);omega)) only[acL,acI,abQ,acQ,acR,acV,adG,aa9,adJ,adK,adL,adM])<;>(first|exact rfl|exact hR|exact hg|exact hb|exact hw|exact ha|exact hf))))
 ·have n_0_1:(r=5)=False:=eq_false (by omega)
  have n_0_2:(r=6)=False:=eq_false (by omega)
  have n_0_3:(r=iw)=False:=eq_false fun e=>by subst e;rw[hR]at hw;simp at hw
  have qn_0_3:r≠iw:=of_eq_false n_0_3
  have n_0_4:(r=ia)=False:=eq_false fun e=>by subst e;rw[hR]at ha;simp at ha
  have qn_0_4:r≠ia:=of_eq_false n_0_4
  have n_0_5:(r=jf)=False:=eq_false fun e=>by subst e;rw[hR]at hf;simp at hf
  have qn_0_5:r≠jf:=of_eq_false n_0_5
  have n_0_6:(r=iq)=False:=eq_false fun e=>by subst e;rw[hR]at hiq;simp at hiq
  have qn_0_6:r≠iq:=of_eq_false n_0_6
  have n_1_3:(5=iw)=False:=eq_false (by omega)
  have n_1_4:(5=ia)=False:=eq_false (by omega)
  have n_1_5:(5=jf)=False:=eq_false (by omega)
  have n_1_6:(5=iq)=False:=eq_false (by omega)
  have n_2_3:(6=iw)=False:=eq_false (by omega)
  have n_2_4:(6=ia)=False:=eq_false (by omega)
  have n_2_5:(6=jf)=False:=eq_false (by omega)
  have n_2_6:(6=iq)=False:=eq_false (by omega)
  have n_3_4:(iw=ia)=False:=eq_false d01
  have qn_3_4:iw≠ia:=of_eq_false n_3_4
  have n_3_5:(iw=jf)=False:=eq_false d02
  have qn_3_5:iw≠jf:=of_eq_false n_3_5
  have n_3_6:(iw=iq)=False:=eq_false fun e=>by subst e;simp at hqx
  have qn_3_6:iw≠iq:=of_eq_false n_3_6
  have n_4_5:(ia=jf)=False:=eq_false d12
  have qn_4_5:ia≠jf:=of_eq_false n_4_5
  have n_4_6:(ia=iq)=False:=eq_false fun e=>by subst e;simp at hqx
  have qn_4_6:ia≠iq:=of_eq_false n_4_6
  have n_5_6:(jf=iq)=False:=eq_false fun e=>by subst e;simp at hqx
  have qn_5_6:jf≠iq:=of_eq_false n_5_6
  have l5:=Eb hiq
  obtain⟨o,h',e,rfl,wL,hwL,rfl⟩:=aeH (s:=s) (d:=d) (hr:=hr) (own:=own) (fuel:=fuel) (G:=G) (L:=L) (O:=[]) (R:=R) (W:=W) (A:=A) (F:=F) (w:=false) (w1:=false) (w2:=false) (w3:=false) (w5:=false) (w4:=false) (w6:=false) (w7:=false) hL hWl hAl hFl hl
  generalize hLL:It (Bt hr F W A) s.cons 0 L=L' at *
  simp only[hG,hL,hWl,hAl,hFl,acI,abQ]at e
  obtain⟨vL,hvL⟩:∃v,v=wL:=⟨_,rfl⟩
  cases wL<;>(try (have q:=hwL rfl;subst q))<;>(
   refine⟨_,by simp only[Vc.down,seval,hR,hg,hb,hw,ha,hf,hiq,n_0_1,n_0_2,n_0_3,n_0_4,n_0_5,n_0_6,n_1_3,n_1_4,n_1_5,n_1_6,n_2_3,n_2_4,n_2_5,n_2_6,n_3_4,n_3_5,n_3_6,n_4_5,n_4_6,n_5_6,e];exact rfl,?_⟩
   simp only[Ar,Cc]
   refine⟨fun x hx=>by((try simp (discharger:=((try simp only[aa9]);omega)) only[acL,acI,abQ,acQ,acR,acV,adG,aa9,adJ,adK,adL,adM])<;>(first|exact rfl|exact rfl)),hr6,hG,hLl,hWl,hAl,hFl,w,w1,(vL||w2),.nils,.slr 1 iq 0 R.length,iw,ia,jf,w4,w6,w7,?_,?_,?_,.inl ⟨rfl,rfl⟩,.inr ⟨iq,w5,hRn,rfl,?_,hiq6,hqx⟩,?_,hw6,?_,ha6,?_,hf6,d01,d02,d12⟩
   all_goals (subst vL;((try simp (discharger:=((try simp only[aa9]);omega)) only[acL,acI,abQ,acQ,acR,acV,adG,aa9,adJ,adK,adL,adM])<;>(first|exact rfl|exact hR|exact hg|exact hb|exact hw|exact ha|exact hf|exact hiq))))
 ·have n_0_1:(r=5)=False:=eq_false (by omega)
  have n_0_2:(r=6)=False:=eq_false (by omega)
  have n_0_3:(r=io)=False:=eq_false fun e=>by subst e;rw[hR]at hio;simp at hio
  have qn_0_3:r≠io:=of_eq_false n_0_3
  have n_0_4:(r=iw)=False:=eq_false fun e=>by subst e;rw[hR]at hw;simp at hw
  have qn_0_4:r≠iw:=of_eq_false n_0_4
  have n_0_5:(r=ia)=False:=eq_false fun e=>by subst e;rw[hR]at ha;simp at ha
  have qn_0_5:r≠ia:=of_eq_false n_0_5
  have n_0_6:(r=jf)=False:=eq_false fun e=>by subst e;rw[hR]at hf;simp at hf
  have qn_0_6:r≠jf:=of_eq_false n_0_6
  have n_1_3:(5=io)=False:=eq_false (by omega)
  have n_1_4:(5=iw)=False:=eq_false (by omega)
  have n_1_5:(5=ia)=False:=eq_false (by omega)
  have n_1_6:(5=jf)=False:=eq_false (by omega)
  have n_2_3:(6=io)=False:=eq_false (by omega)
  have n_2_4:(6=iw)=False:=eq_false (by omega)
  have n_2_5:(6=ia)=False:=eq_false (by omega)
  have n_2_6:(6=jf)=False:=eq_false (by omega)
  have n_3_4:(io=iw)=False:=eq_false fun e=>by subst e;rw[hio]at hw;simp at hw
  have qn_3_4:io≠iw:=of_eq_false n_3_4
  have n_3_5:(io=ia)=False:=eq_false fun e=>by subst e;rw[hio]at ha;simp at ha
  have qn_3_5:io≠ia:=of_eq_false n_3_5
  have n_3_6:(io=jf)=False:=eq_false fun e=>by subst e;rw[hio]at hf;simp at hf
  have qn_3_6:io≠jf:=of_eq_false n_3_6
  have n_4_5:(iw=ia)=False:=eq_false d01
  have qn_4_5:iw≠ia:=of_eq_false n_4_5
  have n_4_6:(iw=jf)=False:=eq_false d02
  have qn_4_6:iw≠jf:=of_eq_false n_4_6
  have n_5_6:(ia=jf)=False:=eq_false d12
  have qn_5_6:ia≠jf:=of_eq_false n_5_6
  have l4:=Eb hio
  obtain⟨o,h',e,rfl,wL,hwL,rfl⟩:=ajU (s:=s) (d:=d) (hr:=hr) (own:=own) (fuel:=fuel) (G:=G) (L:=L) (O:=O) (R:=[]) (W:=W) (A:=A) (F:=F) (w:=false) (w1:=false) (w2:=false) (w3:=false) (w5:=false) (w4:=false) (w6:=false) (w7:=false) hL hWl hAl hFl hl
  generalize hLL:It (Bt hr F W A) s.cons 0 L=L' at *
  simp only[hG,hL,hWl,hAl,hFl,acI,abQ]at e
  obtain⟨vL,hvL⟩:∃v,v=wL:=⟨_,rfl⟩
  cases wL<;>(try (have q:=hwL rfl;subst q))<;>(
   refine⟨_,by simp only[Vc.down,seval,hR,hg,hb,hio,hw,ha,hf,n_0_1,n_0_2,n_0_3,n_0_4,n_0_5,n_0_6,n_1_3,n_1_4,n_1_5,n_1_6,n_2_3,n_2_4,n_2_5,n_2_6,n_3_4,n_3_5,n_3_6,n_4_5,n_4_6,n_5_6,e];exact rfl,?_⟩
   simp only[Ar,Cc]
   refine⟨fun x hx=>by((try simp (discharger:=((try simp only[aa9]);omega)) only[acL,acI,abQ,acQ,acR,acV,adG,aa9,adJ,adK,adL,adM])<;>(first|exact rfl|exact rfl)),hr6,hG,hLl,hWl,hAl,hFl,w,w1,(vL||w2),.slr 5 io 0 O.length,.nils,iw,ia,jf,w4,w6,w7,?_,?_,?_,.inr ⟨io,w3,rfl,?_,hio6⟩,.inl ⟨rfl,rfl⟩,?_,hw6,?_,ha6,?_,hf6,d01,d02,d12⟩
   all_goals (subst vL;((try simp (discharger:=((try simp only[aa9]);omega)) only[acL,acI,abQ,acQ,acR,acV,adG,aa9,adJ,adK,adL,adM])<;>(first|exact rfl|exact hR|exact hg|exact hb|exact hio|exact hw|exact ha|exact hf))))
 ·have n_0_1:(r=5)=False:=eq_false (by omega)
  have n_0_2:(r=6)=False:=eq_false (by omega)
  have n_0_3:(r=io)=False:=eq_false fun e=>by subst e;rw[hR]at hio;simp at hio
  have qn_0_3:r≠io:=of_eq_false n_0_3
  have n_0_4:(r=iw)=False:=eq_false fun e=>by subst e;rw[hR]at hw;simp at hw
  have qn_0_4:r≠iw:=of_eq_false n_0_4
  have n_0_5:(r=ia)=False:=eq_false fun e=>by subst e;rw[hR]at ha;simp at ha
  have qn_0_5:r≠ia:=of_eq_false n_0_5
  have n_0_6:(r=jf)=False:=eq_false fun e=>by subst e;rw[hR]at hf;simp at hf
  have qn_0_6:r≠jf:=of_eq_false n_0_6
  have n_0_7:(r=iq)=False:=eq_false fun e=>by subst e;rw[hR]at hiq;simp at hiq
  have qn_0_7:r≠iq:=of_eq_false n_0_7
  have n_1_3:(5=io)=False:=eq_false (by omega)
  have n_1_4:(5=iw)=False:=eq_false (by omega)
  have n_1_5:(5=ia)=False:=eq_false (by omega)
  have n_1_6:(5=jf)=False:=eq_false (by omega)
  have n_1_7:(5=iq)=False:=eq_false (by omega)
  have n_2_3:(6=io)=False:=eq_false (by omega)
  have n_2_4:(6=iw)=False:=eq_false (by omega)
  have n_2_5:(6=ia)=False:=eq_false (by omega)
  have n_2_6:(6=jf)=False:=eq_false (by omega)
  have n_2_7:(6=iq)=False:=eq_false (by omega)
  have n_3_4:(io=iw)=False:=eq_false fun e=>by subst e;rw[hio]at hw;simp at hw
  have qn_3_4:io≠iw:=of_eq_false n_3_4
  have n_3_5:(io=ia)=False:=eq_false fun e=>by subst e;rw[hio]at ha;simp at ha
  have qn_3_5:io≠ia:=of_eq_false n_3_5
  have n_3_6:(io=jf)=False:=eq_false fun e=>by subst e;rw[hio]at hf;simp at hf
  have qn_3_6:io≠jf:=of_eq_false n_3_6
  have n_3_7:(io=iq)=False:=eq_false fun e=>by subst e;rw[hio]at hiq;simp at hiq
  have qn_3_7:io≠iq:=of_eq_false n_3_7
  have n_4_5:(iw=ia)=False:=eq_false d01
  have qn_4_5:iw≠ia:=of_eq_false n_4_5
  have n_4_6:(iw=jf)=False:=eq_false d02
  have qn_4_6:iw≠jf:=of_eq_false n_4_6
  have n_4_7:(iw=iq)=False:=eq_false fun e=>by subst e;simp at hqx
  have qn_4_7:iw≠iq:=of_eq_false n_4_7
  have n_5_6:(ia=jf)=False:=eq_false d12
  have qn_5_6:ia≠jf:=of_eq_false n_5_6
  have n_5_7:(ia=iq)=False:=eq_false fun e=>by subst e;simp at hqx
  have qn_5_7:ia≠iq:=of_eq_false n_5_7
  have n_6_7:(jf=iq)=False:=eq_false fun e=>by subst e;simp at hqx
  have qn_6_7:jf≠iq:=of_eq_false n_6_7
  have l4:=Eb hio
  have l5:=Eb hiq
  obtain⟨o,h',e,rfl,wL,hwL,rfl⟩:=af4 (s:=s) (d:=d) (hr:=hr) (own:=own) (fuel:=fuel) (G:=G) (L:=L) (O:=O) (R:=R) (W:=W) (A:=A) (F:=F) (w:=false) (w1:=false) (w2:=false) (w3:=false) (w5:=false) (w4:=false) (w6:=false) (w7:=false) hL hWl hAl hFl hl
  generalize hLL:It (Bt hr F W A) s.cons 0 L=L' at *
  simp only[hG,hL,hWl,hAl,hFl,acI,abQ]at e
  obtain⟨vL,hvL⟩:∃v,v=wL:=⟨_,rfl⟩
  cases wL<;>(try (have q:=hwL rfl;subst q))<;>(
   refine⟨_,by simp only[Vc.down,seval,hR,hg,hb,hio,hw,ha,hf,hiq,n_0_1,n_0_2,n_0_3,n_0_4,n_0_5,n_0_6,n_0_7,n_1_3,n_1_4,n_1_5,n_1_6,n_1_7,n_2_3,n_2_4,n_2_5,n_2_6,n_2_7,n_3_4,n_3_5,n_3_6,n_3_7,n_4_5,n_4_6,n_4_7,n_5_6,n_5_7,n_6_7,e];exact rfl,?_⟩
   simp only[Ar,Cc]
   refine⟨fun x hx=>by((try simp (discharger:=((try simp only[aa9]);omega)) only[acL,acI,abQ,acQ,acR,acV,adG,aa9,adJ,adK,adL,adM])<;>(first|exact rfl|exact rfl)),hr6,hG,hLl,hWl,hAl,hFl,w,w1,(vL||w2),.slr 5 io 0 O.length,.slr 1 iq 0 R.length,iw,ia,jf,w4,w6,w7,?_,?_,?_,.inr ⟨io,w3,rfl,?_,hio6⟩,.inr ⟨iq,w5,hRn,rfl,?_,hiq6,hqx⟩,?_,hw6,?_,ha6,?_,hf6,d01,d02,d12⟩
   all_goals (subst vL;((try simp (discharger:=((try simp only[aa9]);omega)) only[acL,acI,abQ,acQ,acR,acV,adG,aa9,adJ,adK,adL,adM])<;>(first|exact rfl|exact hR|exact hg|exact hb|exact hio|exact hw|exact ha|exact hf|exact hiq))))
theorem nC{l:List Ab}{nn:Bool}(hl:l.length≤1000)(hne:¬(l=[]∧nn=false)):Bl.call (.fn 103) [Az 5 true nn (l.map Ab.cells)] []=some (.ret (.slr 5 0 0 l.length),[.live 5 true false (l.map Ab.cells)]):=by
 cases l with
 |nil=>
  cases nn with
  |false=>exact(hne ⟨rfl,rfl⟩).elim
  |true=>
   (refine ce Tryz.func103 ?_;simp only[Tryz.f103];(have hb:=trivial;with_reducible repeat' (first|simp only[hb,Vc.down,seval,adS.down,adO,Bh]|refine Ai ?_ ?_<;>intro hb|refine fd ?_|fail)))
 |cons x l=>
  have h39:(l.length+1≤549755813888)=True:=eq_true (by simp at hl;omega)
  (refine ce Tryz.func103 ?_;simp only[Tryz.f103];(have hb:=trivial;with_reducible repeat' (first|simp only[hb,Vc.down,seval,adS.down,List.length_map,h39,Ab.cells]|refine Ai ?_ ?_<;>intro hb|refine fd ?_|fail)))
theorem kK:Bl.call (.fn 103) [Az 5 true false []] []=some (.ret .nils,[]):=by
 (refine ce Tryz.func103 ?_;simp only[Tryz.f103];(have hb:=trivial;with_reducible repeat' (first|simp only[hb,Vc.down,seval,adS.down,Wn]|refine Ai ?_ ?_<;>intro hb|refine fd ?_|fail)))
def vA:List Nat:=[104,105,106,107,108,109,110]
def qL(r:Nat)(f:Nat):AV:=.func (.func f) [.ptr r 0 0] []
theorem arM(cs:List AV)(i:Int):lR Tryz.prog 145 (.agg cs) (.int .i64 i)=if 0≤i∧i<7 then cs[i.toNat*1]? else none:=by kernel_rfl
theorem mV(r:Nat):eF Tryz.prog 145 [(0,qL r 104),(1,qL r 105),(2,qL r 106),(3,qL r 107),(4,qL r 108),(5,qL r 109),(6,qL r 110)]=some (.agg (vA.map (qL r))):=by kernel_rfl
def al0(h:Aa):Prop:=(∃fl w,h[3]?=some (.live 6 fl w [[.int .i64 0,.nils,.int .i64 0,.int .i64 0,.nils,.nils]]))∧∃fl w,h[4]?=some (.live 4 fl w [[.nils,.nils,.nils,.nils]])
theorem Pg(cs:List Ah)(hr:Int):∀(O:List Ab) (G L:List Int) (p:List Ab),(Cd cs hr O (G,L,p)).2.2=p++O.filter (fun t=>decide (t.back≠hr))
 | [],_,_,p=>by simp[Cd]
 |t::O,G,L,p=>by
  by_cases h:t.back=hr
  ·simp only[Cd,h,if_true,Pg cs hr O]
   simp[h]
  ·simp only[Cd,h,if_false,Pg cs hr O]
   simp[h]
theorem av3{f i:Nat}(h:vA[i]?=some f):(i=0∧f=104)∨(i=1∧f=105)∨(i=2∧f=106)∨(i=3∧f=107)∨(i=4∧f=108)∨(i=5∧f=109)∨(i=6∧f=110):=by
 match i,h with
 |0,h|1,h|2,h|3,h|4,h|5,h|6,h=>simp[vA]at h;subst h;simp
 |n+7,h=>simp[vA]at h
def G1(s:Ac)(hr:Int)(G L:List Int)(O:List Ab):List Int:=(Cd s.cons hr O (G,L,[])).1
def L1(s:Ac)(hr:Int)(G L:List Int)(O:List Ab):List Int:=(Cd s.cons hr O (G,L,[])).2.1
def O1(s:Ac)(hr:Int)(G L:List Int)(O:List Ab):List Ab:=(Cd s.cons hr O (G,L,[])).2.2
def T2(s:Ac)(d:An)(hr:Int)(G L:List Int)(O:List Ab):List Int × List Ab × List Int:=Bd s.cons hr d.trades 0 (G1 s hr G L O,O1 s hr G L O,[])
def W3(s:Ac)(d:An)(hr:Int)(G L:List Int)(O:List Ab):List Int:=It (Bn s d hr (T2 s d hr G L O).1) s.cons 0 (adN s.cons.length 0)
def A4(s:Ac)(d:An)(hr:Int)(x:Au)(G L:List Int)(O:List Ab):List Int:=Gk Ft s.cons (W3 s d hr G L O) x.inn x.out
def F5(s:Ac)(d:An)(hr:Int)(x:Au)(G L:List Int)(O:List Ab):List Int:=Zc (A4 s d hr x G L O) x
def Xp(s:Ac)(d:An)(hr:Int)(x:Au)(G L:List Int)(O:List Ab)(own:Int):Int:=cX (A4 s d hr x G L O) x own
def G6(s:Ac)(d:An)(hr:Int)(x:Au)(G L:List Int)(O:List Ab)(fuel:Int):List Int × Int:=Gt s.fuel (F5 s d hr x G L O) 0 ((T2 s d hr G L O).1,fuel)
def L7(s:Ac)(d:An)(hr:Int)(x:Au)(G L:List Int)(O:List Ab):List Int:=It (Bt hr (F5 s d hr x G L O) (W3 s d hr G L O) (A4 s d hr x G L O)) s.cons 0 (L1 s hr G L O)
def StS(s:Ac)(d:An)(hr own fuel:Int)(x:Au)(G L:List Int)(O:List Ab)(r:Nat):Nat→Aa→Prop
 |0,h=>HsA s d hr own fuel G L O [] r h
 |1,h=>HsA s d hr own fuel (G1 s hr G L O) (L1 s hr G L O) (O1 s hr G L O) [] r h
 |2,h=>HsA s d hr own fuel (T2 s d hr G L O).1 (L1 s hr G L O) (T2 s d hr G L O).2.1 (T2 s d hr G L O).2.2 r h
 |3,h=>HsB s d hr own fuel (T2 s d hr G L O).1 (L1 s hr G L O) (T2 s d hr G L O).2.1 (T2 s d hr G L O).2.2 (W3 s d hr G L O) r h
 |4,h=>HsC s d hr own fuel (T2 s d hr G L O).1 (L1 s hr G L O) (T2 s d hr G L O).2.1 (T2 s d hr G L O).2.2 (W3 s d hr G L O) (A4 s d hr x G L O) r h
 |5,h=>HsD s d hr (Xp s d hr x G L O own) fuel (T2 s d hr G L O).1 (L1 s hr G L O) (T2 s d hr G L O).2.1 (T2 s d hr G L O).2.2 (W3 s d hr G L O) (A4 s d hr x G L O) (F5 s d hr x G L O) r h
 |6,h=>HsD s d hr (Xp s d hr x G L O own) (G6 s d hr x G L O fuel).2 (G6 s d hr x G L O fuel).1 (L1 s hr G L O) (T2 s d hr G L O).2.1 (T2 s d hr G L O).2.2 (W3 s d hr G L O) (A4 s d hr x G L O) (F5 s d hr x G L O) r h
 |7,h=>HsD s d hr (Xp s d hr x G L O own) (G6 s d hr x G L O fuel).2 (G6 s d hr x G L O fuel).1 (L7 s d hr x G L O) (T2 s d hr G L O).2.1 (T2 s d hr G L O).2.2 (W3 s d hr G L O) (A4 s d hr x G L O) (F5 s d hr x G L O) r h
 |_,_=>False
structure eT(s:Ac)(d:An)(hr:Int)(x:Au)(O:List Ab):Prop where
 ne:s.cons≠[]
 len:s.cons.length≤1000
 noms:d.noms.length≤1000
 con:∀c∈s.cons,ac3 c
 owed:O.length≤1000
 ow:∀t∈O,t.ok s.cons.length
 trl:d.trades.length≤1000
 tr:∀t∈d.trades,t.ok s.cons.length
 h0:0≤hr
 hx:d.hours[hr.toNat]?=some x
theorem ah1{s:Ac}{d:An}{hr own fuel:Int}{x:Au}{G L:List Int}{O:List Ab}(K:eT s d hr x O){r i f:Nat}{h:Aa}(hf:vA[i]?=some f)(H:StS s d hr own fuel x G L O r i h):
 ∃es,cl Bl h (some (qL r f)) (some [])=some (.ret (.tup []),es)∧zZ h (Ar h es)∧StS s d hr own fuel x G L O r (i+1) (Ar h es):=by
 rcases av3 hf with⟨rfl,rfl⟩|⟨rfl,rfl⟩|⟨rfl,rfl⟩|⟨rfl,rfl⟩|⟨rfl,rfl⟩|⟨rfl,rfl⟩|⟨rfl,rfl⟩
 ·exact aeU K.owed K.ow H
 ·refine ac6 ?_ K.trl K.tr H
  unfold O1
  rw[Pg]
  have:=List.length_filter_le (fun t:Ab=>decide (t.back≠hr)) O
  have:=K.owed
  simp only[abQ]
  omega
 ·exact aiZ K.len K.noms K.con H
 ·exact abT K.len K.ne K.h0 K.hx H
 ·exact ae7 K.len K.ne K.h0 K.hx H
 ·exact arV K.len H
 ·exact aeA K.len H
theorem agK:Bl.call (.fn 102) [.imm 1 true []] []=some (.ret (.slr 1 0 0 0),[.live 1 true false []]):=by
 (refine ce Tryz.func102 ?_;simp only[Tryz.f102];(have hb:=trivial;with_reducible repeat' (first|simp only[hb,Vc.down,seval,zJ.down,adP]|refine Ai ?_ ?_<;>intro hb|refine fd ?_|fail)))
theorem agR:Bl.call (.fn 102) [.nils] []=some (.ret .nils,[]):=by
 (refine ce Tryz.func102 ?_;simp only[Tryz.f102];(have hb:=trivial;with_reducible repeat' (first|simp only[hb,Vc.down,seval,zJ.down,adP]|refine Ai ?_ ?_<;>intro hb|refine fd ?_|fail)))
def ZQ(hr own fuel:Int)(o:Ea)(h:Aa):Prop:=∃w1 w2 w3:Bool,
 (o=.ret (.tup [.agg [.int .i64 hr,.nils,.int .i64 own,.int .i64 fuel,.nils,.nils],.agg [.slr 1 0 0 0,.nils,.nils,.nils]])∧h=[.live 1 true w3 []])∨
 (o=.ret (.tup [.agg [.int .i64 hr,.slr 1 0 0 0,.int .i64 own,.int .i64 fuel,.nils,.nils],.agg [.slr 1 1 0 0,.nils,.nils,.nils]])∧h=[.live 1 true w1 [],.live 1 true w3 []])∨
 (o=.ret (.tup [.agg [.int .i64 hr,.nils,.int .i64 own,.int .i64 fuel,.slr 1 0 0 0,.nils],.agg [.slr 1 1 0 0,.nils,.nils,.nils]])∧h=[.live 1 true w2 [],.live 1 true w3 []])∨
 (o=.ret (.tup [.agg [.int .i64 hr,.slr 1 0 0 0,.int .i64 own,.int .i64 fuel,.slr 1 1 0 0,.nils],.agg [.slr 1 2 0 0,.nils,.nils,.nils]])∧h=[.live 1 true w1 [],.live 1 true w2 [],.live 1 true w3 []])
structure ZOK(s:Ac)(d:An)(hr:Int)(x:Au):Prop where
 con:s.cons=[]
 tr:d.trades=[]
 h0:0≤hr
 hx:d.hours[hr.toNat]?=some x
 inn:0≤x.inn
 out:0≤x.out
theorem ajG{s:Ac}{d:An}{x:Au}{hr own fuel:Int}{nG nL nO:Bool}(K:ZOK s d hr x):
 Vg Bl 64 [.agg s.cells,.agg [.int .i64 hr,Az 1 true nG [],.int .i64 own,.int .i64 fuel,Az 1 true nL [],Az 5 true nO []],.agg d.cells] [] (ZQ (IntKind.i64.wrap (hr+1)) (cX [] x own) fuel):=by
 have k1:=amV nG nL nO (s:=s) (d:=d) (fl:=false) (w:=false) (w1:=false) (w2:=false) (w3:=false) (hr:=hr) (own:=own) (fuel:=fuel)
 have k2:=ag8 nG nL (s:=s) (w:=false) (w1:=false) (w2:=false) (hr:=hr) (own:=own) (fuel:=fuel) K.tr
 have k3:=amC nG nL (d:=d) (w:=false) (w1:=false) (w2:=false) (hr:=hr) (own:=own) (fuel:=fuel) K.con
 have k4:=ahN nG nL (s:=s) (w:=false) (w1:=false) (w2:=false) (w3:=false) (own:=own) (fuel:=fuel) K.h0 K.hx K.inn K.out
 have k5:=al7 nG nL (s:=s) (w:=false) (w1:=false) (w2:=false) (w3:=false) (own:=own) (fuel:=fuel) K.h0 K.hx
 have k6:=au6 nG nL (s:=s) (d:=d) (w:=false) (w1:=false) (w2:=false) (w3:=false) (hr:=hr) (own:=cX [] x own) (fuel:=fuel)
 have k7:=ak7 nG nL (d:=d) (w:=false) (w1:=false) (w2:=false) (w3:=false) (hr:=hr) (own:=cX [] x own) (fuel:=fuel) K.con
 have b5:=mV 5
 have b6:=mV 6
 have b7:=mV 7
 have b8:=mV 8
 simp only[qL,vA,List.map_cons,adO]at b5 b6 b7 b8
 have c0:=agK
 have c1:=agR
 have c2:=kK
 have c3:=nC (l:=[]) (nn:=true) (by simp) (by simp)
 simp only[adO,Bh,adP,An.cells]at *
 cases nG<;>cases nL<;>cases nO<;>simp only[Wn,Bh,zg,zi,zl,zo,zb]at *
 all_goals
  refine Nj rfl Tryz.func64 rfl rfl ?_
  simp only[Tryz.f64]
  (have hb:=trivial;with_reducible repeat' (first|simp only[hb,Vc.down,seval,aZ.down,c0,c1,c2,c3,Ag,arM,b5,b6,b7,b8,k1,k2,k3,k4,k5,k6,k7]|refine Ai ?_ ?_<;>intro hb|refine fd ?_|refine vE ?_|fail))
  first
  |exact⟨false,false,_,.inl ⟨rfl,rfl⟩⟩
  |exact⟨_,false,_,.inr (.inl ⟨rfl,rfl⟩)⟩
  |exact⟨false,_,_,.inr (.inr (.inl ⟨rfl,rfl⟩))⟩
  |exact⟨_,_,_,.inr (.inr (.inr ⟨rfl,rfl⟩))⟩
end Go.Proofs.YtdbiogihimdpcaaGreatDoor
