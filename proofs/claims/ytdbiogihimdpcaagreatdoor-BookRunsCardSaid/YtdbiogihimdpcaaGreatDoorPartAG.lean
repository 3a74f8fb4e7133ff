/- The functions of the layer, walked. -/
import Derived.Test.YtdbiogihimdpcaaGreatDoorPartAF
open List renaming length_set→aaS,nil_append→aaW,cons_append→aa0,append_assoc→aa6,getElem?_append_left→abB,getElem?_append_right→abO,getElem?_set_ne→abT,getElem?_set_self→abY,getElem?_cons_zero→acK,getElem?_cons_succ→acZ,replicate→adV,map_nil→aeH,length_nil→aeM,length_eq_zero_iff→aeP
open Nat renaming sub_self→ab9,add_sub_cancel_left→acF
set_option linter.unusedSimpArgs false
set_option linter.unusedVariables false
namespace Go.Proofs.YtdbiogihimdpcaaGreatDoor
open Go.Ev Go
set_option maxRecDepth 100000
set_option maxHeartbeats 16000000
def HsB(s:Ac)(d:Ap)(hr own fuel:Int)(G L:List Int)(O:List Aa)(R:List Int)(W:List Int)(r:Nat)(h:Ab):Prop:=
 6<r∧G.length=s.cons.length∧L.length=s.cons.length∧W.length=s.cons.length∧∃w w1 w2 ov rv iw w4,h[r]?=some (.live 19 false w [(rc s d hr (.slr 1 5 0 s.cons.length) own fuel (.slr 1 6 0 s.cons.length) ov (.slr 1 iw 0 s.cons.length) .nils .nils rv)])∧h[5]?=some (.live 1 true w1 (G.map iv))∧h[6]?=some (.live 1 true w2 (L.map iv))∧OvS O ov h∧RvS R rv [iw] h∧h[iw]?=some (.live 1 true w4 (W.map iv))∧6<iw
def HsC(s:Ac)(d:Ap)(hr own fuel:Int)(G L:List Int)(O:List Aa)(R:List Int)(W A:List Int)(r:Nat)(h:Ab):Prop:=
 6<r∧G.length=s.cons.length∧L.length=s.cons.length∧W.length=s.cons.length∧A.length=s.cons.length∧∃w w1 w2 ov rv iw ia w4 w6,h[r]?=some (.live 19 false w [(rc s d hr (.slr 1 5 0 s.cons.length) own fuel (.slr 1 6 0 s.cons.length) ov (.slr 1 iw 0 s.cons.length) (.slr 1 ia 0 s.cons.length) .nils rv)])∧h[5]?=some (.live 1 true w1 (G.map iv))∧h[6]?=some (.live 1 true w2 (L.map iv))∧OvS O ov h∧RvS R rv [iw,ia] h∧h[iw]?=some (.live 1 true w4 (W.map iv))∧6<iw∧h[ia]?=some (.live 1 true w6 (A.map iv))∧6<ia∧iw≠ia
def HsD(s:Ac)(d:Ap)(hr own fuel:Int)(G L:List Int)(O:List Aa)(R:List Int)(W A F:List Int)(r:Nat)(h:Ab):Prop:=
 6<r∧G.length=s.cons.length∧L.length=s.cons.length∧W.length=s.cons.length∧A.length=s.cons.length∧F.length=s.cons.length∧∃w w1 w2 ov rv iw ia jf w4 w6 w7,h[r]?=some (.live 19 false w [(rc s d hr (.slr 1 5 0 s.cons.length) own fuel (.slr 1 6 0 s.cons.length) ov (.slr 1 iw 0 s.cons.length) (.slr 1 ia 0 s.cons.length) (.slr 1 jf 0 s.cons.length) rv)])∧h[5]?=some (.live 1 true w1 (G.map iv))∧h[6]?=some (.live 1 true w2 (L.map iv))∧OvS O ov h∧RvS R rv [iw,ia,jf] h∧h[iw]?=some (.live 1 true w4 (W.map iv))∧6<iw∧h[ia]?=some (.live 1 true w6 (A.map iv))∧6<ia∧h[jf]?=some (.live 1 true w7 (F.map iv))∧6<jf∧iw≠ia∧iw≠jf∧ia≠jf
theorem eD(s:Ac)(d:Ap)(hr:Int)(G:List Int):∀(cs:List Ag) (i:Nat) (a:List Int),(Kr (Dk s d hr G) cs i a).length=a.length
 | [],_,_=>rfl
 |c::cs,i,a=>by
  simp only[Kr]
  rw[eD s d hr G cs]
  unfold Dk;split<;>(try split)<;>simp[Bg]
theorem Yf(hr:Int)(F W A:List Int):∀(cs:List Ag) (i:Nat) (a:List Int),(Kr (Da hr F W A) cs i a).length=a.length
 | [],_,_=>rfl
 |c::cs,i,a=>by
  simp only[Kr]
  rw[Yf hr F W A cs,Pq]
theorem bH(f:Int):∀(F:List Int) (i:Nat) (G:List Int) (fu:Int),(Hy f F i (G,fu)).1.length=G.length
 | [],_,_,_=>rfl
 |n::F,i,G,fu=>by simp only[Hy];rw[bH f F,Bg]
theorem ahT{s:Ac}{d:Ap}{hr own fuel:Int}{h:Ab}{r:Nat}{G L:List Int}{O:List Aa}{R:List Int}(hl:s.cons.length≤1000)(hn:d.noms.length≤1000)(hc:∀c∈s.cons,yA c)(H:HsA s d hr own fuel G L O R r h):
 ∃es,cl Bi h (some (.func (.func 106) [.ptr r 0 0] [])) (some [])=some (.ret (.tup []),es)∧Bh5 h (Ba h es)∧
  HsB s d hr own fuel G L O R (Kr (Dk s d hr G) s.cons 0 (adV s.cons.length 0)) r (Ba h es):=by
 obtain⟨hr6,hG,hL,w,w1,w2,ov,rv,hR,hg,hb,hov,hrv⟩:=H
 have l1:=Fb hR
 have l2:=Fb hg
 have l3:=Fb hb
 have hWl:(Kr (Dk s d hr G) s.cons 0 (adV s.cons.length 0)).length=s.cons.length:=by rw[eD];simp
 rcases hov with⟨rfl,rfl⟩|⟨io,w3,rfl,hio,hio6⟩<;>rcases hrv with⟨rfl,rfl⟩|⟨iq,w5,hRn,rfl,hiq,hiq6,hqx⟩
 ·have n_0_1:(r=5)=False:=eq_false (by omega)
  have n_0_2:(r=6)=False:=eq_false (by omega)
  obtain⟨o,h',e,rfl,ww,rfl⟩:=ajA (s:=s) (d:=d) (hr:=hr) (own:=own) (fuel:=fuel) (G:=G) (L:=L) (O:=[]) (R:=[]) (w:=false) (w1:=false) (w2:=false) (w3:=false) (w5:=false) hG hl hn hc
  simp only[hG,hL,aa0,aaW]at e
  refine⟨_,by simp only[Vc.down,seval,hR,hg,hb,n_0_1,n_0_2,e];exact rfl,?_⟩
  simp only[Ba,Du]
  refine⟨fun x hx=>by((try simp (discharger:=((try simp only[aaS]);omega)) only[aa6,aa0,aaW,abB,abO,abT,abY,aaS,ab9,acF,acK,acZ])<;>(first|exact rfl|exact rfl)),hr6,hG,hL,hWl,true,w1,w2,.nils,.nils,h.length,ww,?_,?_,?_,.inl ⟨rfl,rfl⟩,.inl ⟨rfl,rfl⟩,?_,by omega⟩
  all_goals ((try simp (discharger:=((try simp only[aaS]);omega)) only[aa6,aa0,aaW,abB,abO,abT,abY,aaS,ab9,acF,acK,acZ])<;>(first|exact rfl|exact hR|exact hg|exact hb))
 ·have n_0_1:(r=5)=False:=eq_false (by omega)
  have n_0_2:(r=6)=False:=eq_false (by omega)
  have n_0_3:(r=iq)=False:=eq_false fun e=>by subst e;rw[hR]at hiq;simp at hiq
  have qn_0_3:r≠iq:=of_eq_false n_0_3
  have n_1_3:(5=iq)=False:=eq_false (by omega)
  have n_2_3:(6=iq)=False:=eq_false (by omega)
  have l5:=Fb hiq
  obtain⟨o,h',e,rfl,ww,rfl⟩:=afG (s:=s) (d:=d) (hr:=hr) (own:=own) (fuel:=fuel) (G:=G) (L:=L) (O:=[]) (R:=R) (w:=false) (w1:=false) (w2:=false) (w3:=false) (w5:=false) hG hl hn hc
  simp only[hG,hL,aa0,aaW]at e
  refine⟨_,by simp only[Vc.down,seval,hR,hg,hb,hiq,n_0_1,n_0_2,n_0_3,n_1_3,n_2_3,e];exact rfl,?_⟩
  simp only[Ba,Du]
  refine⟨fun x hx=>by((try simp (discharger:=((try simp only[aaS]);omega)) only[aa6,aa0,aaW,abB,abO,abT,abY,aaS,ab9,acF,acK,acZ])<;>(first|exact rfl|exact rfl)),hr6,hG,hL,hWl,true,w1,w2,.nils,.slr 1 iq 0 R.length,h.length,ww,?_,?_,?_,.inl ⟨rfl,rfl⟩,.inr ⟨iq,w5,hRn,rfl,?_,hiq6,by simp;omega⟩,?_,by omega⟩
  all_goals ((try simp (discharger:=((try simp only[aaS]);omega)) only[aa6,aa0,aaW,abB,abO,abT,abY,aaS,ab9,acF,acK,acZ])<;>(first|exact rfl|exact hR|exact hg|exact hb|exact hiq))
 ·have n_0_1:(r=5)=False:=eq_false (by omega)
  have n_0_2:(r=6)=False:=eq_false (by omega)
  have n_0_3:(r=io)=False:=eq_false fun e=>by subst e;rw[hR]at hio;simp at hio
  have qn_0_3:r≠io:=of_eq_false n_0_3
  have n_1_3:(5=io)=False:=eq_false (by omega)
  have n_2_3:(6=io)=False:=eq_false (by omega)
  have l4:=Fb hio
  obtain⟨o,h',e,rfl,ww,rfl⟩:=ahW (s:=s) (d:=d) (hr:=hr) (own:=own) (fuel:=fuel) (G:=G) (L:=L) (O:=O) (R:=[]) (w:=false) (w1:=false) (w2:=false) (w3:=false) (w5:=false) hG hl hn hc
  simp only[hG,hL,aa0,aaW]at e
  refine⟨_,by simp only[Vc.down,seval,hR,hg,hb,hio,n_0_1,n_0_2,n_0_3,n_1_3,n_2_3,e];exact rfl,?_⟩
  simp only[Ba,Du]
  refine⟨fun x hx=>by((try simp (discharger:=((try simp only[aaS]);omega)) only[aa6,aa0,aaW,abB,abO,abT,abY,aaS,ab9,acF,acK,acZ])<;>(first|exact rfl|exact rfl)),hr6,hG,hL,hWl,true,w1,w2,.slr 5 io 0 O.length,.nils,h.length,ww,?_,?_,?_,.inr ⟨io,w3,rfl,?_,hio6⟩,.inl ⟨rfl,rfl⟩,?_,by omega⟩
  all_goals ((try simp (discharger:=((try simp only[aaS]);omega)) only[aa6,aa0,aaW,abB,abO,abT,abY,aaS,ab9,acF,acK,acZ])<;>(first|exact rfl|exact hR|exact hg|exact hb|exact hio))
 ·have n_0_1:(r=5)=False:=eq_false (by omega)
  have n_0_2:(r=6)=False:=eq_false (by omega)
  have n_0_3:(r=io)=False:=eq_false fun e=>by subst e;rw[hR]at hio;simp at hio
  have qn_0_3:r≠io:=of_eq_false n_0_3
  have n_0_4:(r=iq)=False:=eq_false fun e=>by subst e;rw[hR]at hiq;simp at hiq
  have qn_0_4:r≠iq:=of_eq_false n_0_4
  have n_1_3:(5=io)=False:=eq_false (by omega)
  have n_1_4:(5=iq)=False:=eq_false (by omega)
  have n_2_3:(6=io)=False:=eq_false (by omega)
  have n_2_4:(6=iq)=False:=eq_false (by omega)
  have n_3_4:(io=iq)=False:=eq_false fun e=>by subst e;rw[hio]at hiq;simp at hiq
  have qn_3_4:io≠iq:=of_eq_false n_3_4
  have l4:=Fb hio
  have l5:=Fb hiq
  obtain⟨o,h',e,rfl,ww,rfl⟩:=akH (s:=s) (d:=d) (hr:=hr) (own:=own) (fuel:=fuel) (G:=G) (L:=L) (O:=O) (R:=R) (w:=false) (w1:=false) (w2:=false) (w3:=false) (w5:=false) hG hl hn hc
  simp only[hG,hL,aa0,aaW]at e
  refine⟨_,by simp only[Vc.down,seval,hR,hg,hb,hio,hiq,n_0_1,n_0_2,n_0_3,n_0_4,n_1_3,n_1_4,n_2_3,n_2_4,n_3_4,e];exact rfl,?_⟩
  simp only[Ba,Du]
  refine⟨fun x hx=>by((try simp (discharger:=((try simp only[aaS]);omega)) only[aa6,aa0,aaW,abB,abO,abT,abY,aaS,ab9,acF,acK,acZ])<;>(first|exact rfl|exact rfl)),hr6,hG,hL,hWl,true,w1,w2,.slr 5 io 0 O.length,.slr 1 iq 0 R.length,h.length,ww,?_,?_,?_,.inr ⟨io,w3,rfl,?_,hio6⟩,.inr ⟨iq,w5,hRn,rfl,?_,hiq6,by simp;omega⟩,?_,by omega⟩
  all_goals ((try simp (discharger:=((try simp only[aaS]);omega)) only[aa6,aa0,aaW,abB,abO,abT,abY,aaS,ab9,acF,acK,acZ])<;>(first|exact rfl|exact hR|exact hg|exact hb|exact hio|exact hiq))
theorem acN{s:Ac}{d:Ap}{hr own fuel:Int}{h:Ab}{r:Nat}{G L:List Int}{O:List Aa}{R W:List Int}{x:Bc}(hl:s.cons.length≤1000)(hn0:s.cons≠[])(h0:0≤hr)(hx:d.hours[hr.toNat]?=some x)(H:HsB s d hr own fuel G L O R W r h):
 ∃es,cl Bi h (some (.func (.func 107) [.ptr r 0 0] [])) (some [])=some (.ret (.tup []),es)∧Bh5 h (Ba h es)∧
  HsC s d hr own fuel G L O R W (Eu Hg s.cons W x.inn x.out) r (Ba h es):=by
 obtain⟨hr6,hG,hL,hWl,w,w1,w2,ov,rv,iw,w4,hR,hg,hb,hov,hrv,hw,hw6⟩:=H
 have l1:=Fb hR
 have l2:=Fb hg
 have l3:=Fb hb
 have lw0:=Fb hw
 have hW0:W≠[]:=fun e=>hn0 (aeP.1 (by rw[←hWl,e];rfl))
 have hAl:(Eu Hg s.cons W x.inn x.out).length=s.cons.length:=by simp[Eu,Xa,hWl]
 rcases hov with⟨rfl,rfl⟩|⟨io,w3,rfl,hio,hio6⟩<;>rcases hrv with⟨rfl,rfl⟩|⟨iq,w5,hRn,rfl,hiq,hiq6,hqx⟩
 ·have n_0_1:(r=5)=False:=eq_false (by omega)
  have n_0_2:(r=6)=False:=eq_false (by omega)
  have n_0_3:(r=iw)=False:=eq_false fun e=>by subst e;rw[hR]at hw;simp at hw
  have qn_0_3:r≠iw:=of_eq_false n_0_3
  have n_1_3:(5=iw)=False:=eq_false (by omega)
  have n_2_3:(6=iw)=False:=eq_false (by omega)
  obtain⟨o,h',e,rfl,rfl⟩:=acP (s:=s) (d:=d) (hr:=hr) (own:=own) (fuel:=fuel) (G:=G) (L:=L) (O:=[]) (R:=[]) (W:=W) (w:=false) (w1:=false) (w2:=false) (w3:=false) (w5:=false) (w4:=false) hWl (by omega) hW0 h0 hx
  simp only[hG,hL,hWl,aa0,aaW]at e
  refine⟨_,by simp only[Vc.down,seval,hR,hg,hb,hw,n_0_1,n_0_2,n_0_3,n_1_3,n_2_3,e];exact rfl,?_⟩
  simp only[Ba,Du]
  refine⟨fun x hx=>by((try simp (discharger:=((try simp only[aaS]);omega)) only[aa6,aa0,aaW,abB,abO,abT,abY,aaS,ab9,acF,acK,acZ])<;>(first|exact rfl|exact rfl)),hr6,hG,hL,hWl,hAl,true,w1,w2,.nils,.nils,iw,h.length,w4,false,?_,?_,?_,.inl ⟨rfl,rfl⟩,.inl ⟨rfl,rfl⟩,?_,hw6,?_,by omega,by omega⟩
  all_goals ((try simp (discharger:=((try simp only[aaS]);omega)) only[aa6,aa0,aaW,abB,abO,abT,abY,aaS,ab9,acF,acK,acZ])<;>(first|exact rfl|exact hR|exact hg|exact hb|exact hw))
 ·have n_0_1:(r=5)=False:=eq_false (by omega)
  have n_0_2:(r=6)=False:=eq_false (by omega)
  have n_0_3:(r=iw)=False:=eq_false fun e=>by subst e;rw[hR]at hw;simp at hw
  have qn_0_3:r≠iw:=of_eq_false n_0_3
  have n_0_4:(r=iq)=False:=eq_false fun e=>by subst e;rw[hR]at hiq;simp at hiq
  have qn_0_4:r≠iq:=of_eq_false n_0_4
  have n_1_3:(5=iw)=False:=eq_false (by omega)
  have n_1_4:(5=iq)=False:=eq_false (by omega)
  have n_2_3:(6=iw)=False:=eq_false (by omega)
  have n_2_4:(6=iq)=False:=eq_false (by omega)
  have n_3_4:(iw=iq)=False:=eq_false fun e=>by subst e;simp at hqx
  have qn_3_4:iw≠iq:=of_eq_false n_3_4
  have l5:=Fb hiq
  obtain⟨o,h',e,rfl,rfl⟩:=acW (s:=s) (d:=d) (hr:=hr) (own:=own) (fuel:=fuel) (G:=G) (L:=L) (O:=[]) (R:=R) (W:=W) (w:=false) (w1:=false) (w2:=false) (w3:=false) (w5:=false) (w4:=false) hWl (by omega) hW0 h0 hx
  simp only[hG,hL,hWl,aa0,aaW]at e
  refine⟨_,by simp only[Vc.down,seval,hR,hg,hb,hw,hiq,n_0_1,n_0_2,n_0_3,n_0_4,n_1_3,n_1_4,n_2_3,n_2_4,n_3_4,e];exact rfl,?_⟩
  simp only[Ba,Du]
  refine⟨fun x hx=>by((try simp (discharger:=((try simp only[aaS]);omega)) only[aa6,aa0,aaW,abB,abO,abT,abY,aaS,ab9,acF,acK,acZ])<;>(first|exact rfl|exact rfl)),hr6,hG,hL,hWl,hAl,true,w1,w2,.nils,.slr 1 iq 0 R.length,iw,h.length,w4,false,?_,?_,?_,.inl ⟨rfl,rfl⟩,.inr ⟨iq,w5,hRn,rfl,?_,hiq6,by simp;omega⟩,?_,hw6,?_,by omega,by omega⟩
  all_goals ((try simp (discharger:=((try simp only[aaS]);omega)) only[aa6,aa0,aaW,abB,abO,abT,abY,aaS,ab9,acF,acK,acZ])<;>(first|exact rfl|exact hR|exact hg|exact hb|exact hw|exact hiq))
 ·have n_0_1:(r=5)=False:=eq_false (by omega)
  have n_0_2:(r=6)=False:=eq_false (by omega)
  have n_0_3:(r=io)=False:=eq_false fun e=>by subst e;rw[hR]at hio;simp at hio
  have qn_0_3:r≠io:=of_eq_false n_0_3
  have n_0_4:(r=iw)=False:=eq_false fun e=>by subst e;rw[hR]at hw;simp at hw
  have qn_0_4:r≠iw:=of_eq_false n_0_4
  have n_1_3:(5=io)=False:=eq_false (by omega)
  have n_1_4:(5=iw)=False:=eq_false (by omega)
  have n_2_3:(6=io)=False:=eq_false (by omega)
  have n_2_4:(6=iw)=False:=eq_false (by omega)
  have n_3_4:(io=iw)=False:=eq_false fun e=>by subst e;rw[hio]at hw;simp at hw
  have qn_3_4:io≠iw:=of_eq_false n_3_4
  have l4:=Fb hio
  obtain⟨o,h',e,rfl,rfl⟩:=ad1 (s:=s) (d:=d) (hr:=hr) (own:=own) (fuel:=fuel) (G:=G) (L:=L) (O:=O) (R:=[]) (W:=W) (w:=false) (w1:=false) (w2:=false) (w3:=false) (w5:=false) (w4:=false) hWl (by omega) hW0 h0 hx
  simp only[hG,hL,hWl,aa0,aaW]at e
  refine⟨_,by simp only[Vc.down,seval,hR,hg,hb,hio,hw,n_0_1,n_0_2,n_0_3,n_0_4,n_1_3,n_1_4,n_2_3,n_2_4,n_3_4,e];exact rfl,?_⟩
  simp only[Ba,Du]
  refine⟨fun x hx=>by((try simp (discharger:=((try simp only[aaS]);omega)) only[aa6,aa0,aaW,abB,abO,abT,abY,aaS,ab9,acF,acK,acZ])<;>(first|exact rfl|exact rfl)),hr6,hG,hL,hWl,hAl,true,w1,w2,.slr 5 io 0 O.length,.nils,iw,h.length,w4,false,?_,?_,?_,.inr ⟨io,w3,rfl,?_,hio6⟩,.inl ⟨rfl,rfl⟩,?_,hw6,?_,by omega,by omega⟩
  all_goals ((try simp (discharger:=((try simp only[aaS]);omega)) only[aa6,aa0,aaW,abB,abO,abT,abY,aaS,ab9,acF,acK,acZ])<;>(first|exact rfl|exact hR|exact hg|exact hb|exact hio|exact hw))
 ·have n_0_1:(r=5)=False:=eq_false (by omega)
  have n_0_2:(r=6)=False:=eq_false (by omega)
  have n_0_3:(r=io)=False:=eq_false fun e=>by subst e;rw[hR]at hio;simp at hio
  have qn_0_3:r≠io:=of_eq_false n_0_3
  have n_0_4:(r=iw)=False:=eq_false fun e=>by subst e;rw[hR]at hw;simp at hw
  have qn_0_4:r≠iw:=of_eq_false n_0_4
  have n_0_5:(r=iq)=False:=eq_false fun e=>by subst e;rw[hR]at hiq;simp at hiq
  have qn_0_5:r≠iq:=of_eq_false n_0_5
  have n_1_3:(5=io)=False:=eq_false (by omega)
  have n_1_4:(5=iw)=False:=eq_false (by omega)
  have n_1_5:(5=iq)=False:=eq_false (by omega)
  have n_2_3:(6=io)=False:=eq_false (by omega)
  have n_2_4:(6=iw)=False:=eq_false (by omega)
  have n_2_5:(6=iq)=False:=eq_false (by omega)
  have n_3_4:(io=iw)=False:=eq_false fun e=>by subst e;rw[hio]at hw;simp at hw
  have qn_3_4:io≠iw:=of_eq_false n_3_4
  have n_3_5:(io=iq)=False:=eq_false fun e=>by subst e;rw[hio]at hiq;simp at hiq
  have qn_3_5:io≠iq:=of_eq_false n_3_5
  have n_4_5:(iw=iq)=False:=eq_false fun e=>by subst e;simp at hqx
  have qn_4_5:iw≠iq:=of_eq_false n_4_5
  have l4:=Fb hio
  have l5:=Fb hiq
  obtain⟨o,h',e,rfl,rfl⟩:=ab6 (s:=s) (d:=d) (hr:=hr) (own:=own) (fuel:=fuel) (G:=G) (L:=L) (O:=O) (R:=R) (W:=W) (w:=false) (w1:=false) (w2:=false) (w3:=false) (w5:=false) (w4:=false) hWl (by omega) hW0 h0 hx
  simp only[hG,hL,hWl,aa0,aaW]at e
  refine⟨_,by simp only[Vc.down,seval,hR,hg,hb,hio,hw,hiq,n_0_1,n_0_2,n_0_3,n_0_4,n_0_5,n_1_3,n_1_4,n_1_5,n_2_3,n_2_4,n_2_5,n_3_4,n_3_5,n_4_5,e];exact rfl,?_⟩
  simp only[Ba,Du]
  refine⟨fun x hx=>by((try simp (discharger:=((try simp only[aaS]);omega)) only[aa6,aa0,aaW,abB,abO,abT,abY,aaS,ab9,acF,acK,acZ])<;>(first|exact rfl|exact rfl)),hr6,hG,hL,hWl,hAl,true,w1,w2,.slr 5 io 0 O.length,.slr 1 iq 0 R.length,iw,h.length,w4,false,?_,?_,?_,.inr ⟨io,w3,rfl,?_,hio6⟩,.inr ⟨iq,w5,hRn,rfl,?_,hiq6,by simp;omega⟩,?_,hw6,?_,by omega,by omega⟩
  all_goals ((try simp (discharger:=((try simp only[aaS]);omega)) only[aa6,aa0,aaW,abB,abO,abT,abY,aaS,ab9,acF,acK,acZ])<;>(first|exact rfl|exact hR|exact hg|exact hb|exact hio|exact hw|exact hiq))
theorem agB{s:Ac}{d:Ap}{hr own fuel:Int}{h:Ab}{r:Nat}{G L:List Int}{O:List Aa}{R W A:List Int}{x:Bc}(hl:s.cons.length≤1000)(hn0:s.cons≠[])(h0:0≤hr)(hx:d.hours[hr.toNat]?=some x)(H:HsC s d hr own fuel G L O R W A r h):
 ∃es,cl Bi h (some (.func (.func 108) [.ptr r 0 0] [])) (some [])=some (.ret (.tup []),es)∧Bh5 h (Ba h es)∧
  HsD s d hr (eJ A x own) fuel G L O R W A (aU A x) r (Ba h es):=by
 obtain⟨hr6,hG,hL,hWl,hAl,w,w1,w2,ov,rv,iw,ia,w4,w6,hR,hg,hb,hov,hrv,hw,hw6,ha,ha6,d01⟩:=H
 have l1:=Fb hR
 have l2:=Fb hg
 have l3:=Fb hb
 have lw0:=Fb hw
 have lw1:=Fb ha
 have hA0:A≠[]:=fun e=>hn0 (aeP.1 (by rw[←hAl,e];rfl))
 have hFl:(aU A x).length=s.cons.length:=by simp[aU,Bl,Eg,hAl]
 rcases hov with⟨rfl,rfl⟩|⟨io,w3,rfl,hio,hio6⟩<;>rcases hrv with⟨rfl,rfl⟩|⟨iq,w5,hRn,rfl,hiq,hiq6,hqx⟩
 ·have n_0_1:(r=5)=False:=eq_false (by omega)
  have n_0_2:(r=6)=False:=eq_false (by omega)
  have n_0_3:(r=iw)=False:=eq_false fun e=>by subst e;rw[hR]at hw;simp at hw
  have qn_0_3:r≠iw:=of_eq_false n_0_3
  have n_0_4:(r=ia)=False:=eq_false fun e=>by subst e;rw[hR]at ha;simp at ha
  have qn_0_4:r≠ia:=of_eq_false n_0_4
  have n_1_3:(5=iw)=False:=eq_false (by omega)
  have n_1_4:(5=ia)=False:=eq_false (by omega)
  have n_2_3:(6=iw)=False:=eq_false (by omega)
  have n_2_4:(6=ia)=False:=eq_false (by omega)
  have n_3_4:(iw=ia)=False:=eq_false d01
  have qn_3_4:iw≠ia:=of_eq_false n_3_4
  obtain⟨o,h',e,rfl,rfl⟩:=aiT (s:=s) (d:=d) (hr:=hr) (own:=own) (fuel:=fuel) (G:=G) (L:=L) (O:=[]) (R:=[]) (W:=W) (A:=A) (w:=false) (w1:=false) (w2:=false) (w3:=false) (w5:=false) (w4:=false) (w6:=false) (by omega) hA0 h0 hx
  simp only[hG,hL,hWl,hAl,aa0,aaW]at e
  refine⟨_,by simp only[Vc.down,seval,hR,hg,hb,hw,ha,n_0_1,n_0_2,n_0_3,n_0_4,n_1_3,n_1_4,n_2_3,n_2_4,n_3_4,e];exact rfl,?_⟩
  simp only[Ba,Du]
  refine⟨fun x hx=>by((try simp (discharger:=((try simp only[aaS]);omega)) only[aa6,aa0,aaW,abB,abO,abT,abY,aaS,ab9,acF,acK,acZ])<;>(first|exact rfl|exact rfl)),hr6,hG,hL,hWl,hAl,hFl,true,w1,w2,.nils,.nils,iw,ia,h.length,w4,w6,false,?_,?_,?_,.inl ⟨rfl,rfl⟩,.inl ⟨rfl,rfl⟩,?_,hw6,?_,ha6,?_,by omega,d01,by omega,by omega⟩
  all_goals ((try simp (discharger:=((try simp only[aaS]);omega)) only[aa6,aa0,aaW,abB,abO,abT,abY,aaS,ab9,acF,acK,acZ])<;>(first|exact rfl|exact hR|exact hg|exact hb|exact hw|exact ha))
 ·have n_0_1:(r=5)=False:=eq_false (by omega)
  have n_0_2:(r=6)=False:=eq_false (by omega)
  have n_0_3:(r=iw)=False:=eq_false fun e=>by subst e;rw[hR]at hw;simp at hw
  have qn_0_3:r≠iw:=of_eq_false n_0_3
  have n_0_4:(r=ia)=False:=eq_false fun e=>by subst e;rw[hR]at ha;simp at ha
  have qn_0_4:r≠ia:=of_eq_false n_0_4
  have n_0_5:(r=iq)=False:=eq_false fun e=>by subst e;rw[hR]at hiq;simp at hiq
  have qn_0_5:r≠iq:=of_eq_false n_0_5
  have n_1_3:(5=iw)=False:=eq_false (by omega)
  have n_1_4:(5=ia)=False:=eq_false (by omega)
  have n_1_5:(5=iq)=False:=eq_false (by omega)
  have n_2_3:(6=iw)=False:=eq_false (by omega)
  have n_2_4:(6=ia)=False:=eq_false (by omega)
  have n_2_5:(6=iq)=False:=eq_false (by omega)
  have n_3_4:(iw=ia)=False:=eq_false d01
  have qn_3_4:iw≠ia:=of_eq_false n_3_4
  have n_3_5:(iw=iq)=False:=eq_false fun e=>by subst e;simp at hqx
  have qn_3_5:iw≠iq:=of_eq_false n_3_5
  have n_4_5:(ia=iq)=False:=eq_false fun e=>by subst e;simp at hqx
  have qn_4_5:ia≠iq:=of_eq_false n_4_5
  have l5:=Fb hiq
  obtain⟨o,h',e,rfl,rfl⟩:=aiE (s:=s) (d:=d) (hr:=hr) (own:=own) (fuel:=fuel) (G:=G) (L:=L) (O:=[]) (R:=R) (W:=W) (A:=A) (w:=false) (w1:=false) (w2:=false) (w3:=false) (w5:=false) (w4:=false) (w6:=false) (by omega) hA0 h0 hx
  simp only[hG,hL,hWl,hAl,aa0,aaW]at e
  refine⟨_,by simp only[Vc.down,seval,hR,hg,hb,hw,ha,hiq,n_0_1,n_0_2,n_0_3,n_0_4,n_0_5,n_1_3,n_1_4,n_1_5,n_2_3,n_2_4,n_2_5,n_3_4,n_3_5,n_4_5,e];exact rfl,?_⟩
  simp only[Ba,Du]
  refine⟨fun x hx=>by((try simp (discharger:=((try simp only[aaS]);omega)) only[aa6,aa0,aaW,abB,abO,abT,abY,aaS,ab9,acF,acK,acZ])<;>(first|exact rfl|exact rfl)),hr6,hG,hL,hWl,hAl,hFl,true,w1,w2,.nils,.slr 1 iq 0 R.length,iw,ia,h.length,w4,w6,false,?_,?_,?_,.inl ⟨rfl,rfl⟩,.inr ⟨iq,w5,hRn,rfl,?_,hiq6,by simp at hqx ⊢;omega⟩,?_,hw6,?_,ha6,?_,by omega,d01,by omega,by omega⟩
  all_goals ((try simp (discharger:=((try simp only[aaS]);omega)) only[aa6,aa0,aaW,abB,abO,abT,abY,aaS,ab9,acF,acK,acZ])<;>(first|exact rfl|exact hR|exact hg|exact hb|exact hw|exact ha|exact hiq))
 ·have n_0_1:(r=5)=False:=eq_false (by omega)
  have n_0_2:(r=6)=False:=eq_false (by omega)
  have n_0_3:(r=io)=False:=eq_false fun e=>by subst e;rw[hR]at hio;simp at hio
  have qn_0_3:r≠io:=of_eq_false n_0_3
  have n_0_4:(r=iw)=False:=eq_false fun e=>by subst e;rw[hR]at hw;simp at hw
  have qn_0_4:r≠iw:=of_eq_false n_0_4
  have n_0_5:(r=ia)=False:=eq_false fun e=>by subst e;rw[hR]at ha;simp at ha
  have qn_0_5:r≠ia:=of_eq_false n_0_5
  have n_1_3:(5=io)=False:=eq_false (by omega)
  have n_1_4:(5=iw)=False:=eq_false (by omega)
  have n_1_5:(5=ia)=False:=eq_false (by omega)
  have n_2_3:(6=io)=False:=eq_false (by omega)
  have n_2_4:(6=iw)=False:=eq_false (by omega)
  have n_2_5:(6=ia)=False:=eq_false (by omega)
  have n_3_4:(io=iw)=False:=eq_false fun e=>by subst e;rw[hio]at hw;simp at hw
  have qn_3_4:io≠iw:=of_eq_false n_3_4
  have n_3_5:(io=ia)=False:=eq_false fun e=>by subst e;rw[hio]at ha;simp at ha
  have qn_3_5:io≠ia:=of_eq_false n_3_5
  have n_4_5:(iw=ia)=False:=eq_false d01
  have qn_4_5:iw≠ia:=of_eq_false n_4_5
  have l4:=Fb hio
  obtain⟨o,h',e,rfl,rfl⟩:=aiK (s:=s) (d:=d) (hr:=hr) (own:=own) (fuel:=fuel) (G:=G) (L:=L) (O:=O) (R:=[]) (W:=W) (A:=A) (w:=false) (w1:=false) (w2:=false) (w3:=false) (w5:=false) (w4:=false) (w6:=false) (by omega) hA0 h0 hx
  simp only[hG,hL,hWl,hAl,aa0,aaW]at e
  refine⟨_,by simp only[Vc.down,seval,hR,hg,hb,hio,hw,ha,n_0_1,n_0_2,n_0_3,n_0_4,n_0_5,n_1_3,n_1_4,n_1_5,n_2_3,n_2_4,n_2_5,n_3_4,n_3_5,n_4_5,e];exact rfl,?_⟩
  simp only[Ba,Du]
  refine⟨fun x hx=>by((try simp (discharger:=((try simp only[aaS]);omega)) only[aa6,aa0,aaW,abB,abO,abT,abY,aaS,ab9,acF,acK,acZ])<;>(first|exact rfl|exact rfl)),hr6,hG,hL,hWl,hAl,hFl,true,w1,w2,.slr 5 io 0 O.length,.nils,iw,ia,h.length,w4,w6,false,?_,?_,?_,.inr ⟨io,w3,rfl,?_,hio6⟩,.inl ⟨rfl,rfl⟩,?_,hw6,?_,ha6,?_,by omega,d01,by omega,by omega⟩
  all_goals ((try simp (discharger:=((try simp only[aaS]);omega)) only[aa6,aa0,aaW,abB,abO,abT,abY,aaS,ab9,acF,acK,acZ])<;>(first|exact rfl|exact hR|exact hg|exact hb|exact hio|exact hw|exact ha))
 ·have n_0_1:(r=5)=False:=eq_false (by omega)
  have n_0_2:(r=6)=False:=eq_false (by omega)
  have n_0_3:(r=io)=False:=eq_false fun e=>by subst e;rw[hR]at hio;simp at hio
  have qn_0_3:r≠io:=of_eq_false n_0_3
  have n_0_4:(r=iw)=False:=eq_false fun e=>by subst e;rw[hR]at hw;simp at hw
  have qn_0_4:r≠iw:=of_eq_false n_0_4
  have n_0_5:(r=ia)=False:=eq_false fun e=>by subst e;rw[hR]at ha;simp at ha
  have qn_0_5:r≠ia:=of_eq_false n_0_5
  have n_0_6:(r=iq)=False:=eq_false fun e=>by subst e;rw[hR]at hiq;simp at hiq
  have qn_0_6:r≠iq:=of_eq_false n_0_6
  have n_1_3:(5=io)=False:=eq_false (by omega)
  have n_1_4:(5=iw)=False:=eq_false (by omega)
  have n_1_5:(5=ia)=False:=eq_false (by omega)
  have n_1_6:(5=iq)=False:=eq_false (by omega)
  have n_2_3:(6=io)=False:=eq_false (by omega)
  have n_2_4:(6=iw)=False:=eq_false (by omega)
  have n_2_5:(6=ia)=False:=eq_false (by omega)
  have n_2_6:(6=iq)=False:=eq_false (by omega)
  have n_3_4:(io=iw)=False:=eq_false fun e=>by subst e;rw[hio]at hw;simp at hw
  have qn_3_4:io≠iw:=of_eq_false n_3_4
  have n_3_5:(io=ia)=False:=eq_false fun e=>by subst e;rw[hio]at ha;simp at ha
  have qn_3_5:io≠ia:=of_eq_false n_3_5
  have n_3_6:(io=iq)=False:=eq_false fun e=>by subst e;rw[hio]at hiq;simp at hiq
  have qn_3_6:io≠iq:=of_eq_false n_3_6
  have n_4_5:(iw=ia)=False:=eq_false d01
  have qn_4_5:iw≠ia:=of_eq_false n_4_5
  have n_4_6:(iw=iq)=False:=eq_false fun e=>by subst e;simp at hqx
  have qn_4_6:iw≠iq:=of_eq_false n_4_6
  have n_5_6:(ia=iq)=False:=eq_false fun e=>by subst e;simp at hqx
  have qn_5_6:ia≠iq:=of_eq_false n_5_6
  have l4:=Fb hio
  have l5:=Fb hiq
  obtain⟨o,h',e,rfl,rfl⟩:=ak3 (s:=s) (d:=d) (hr:=hr) (own:=own) (fuel:=fuel) (G:=G) (L:=L) (O:=O) (R:=R) (W:=W) (A:=A) (w:=false) (w1:=false) (w2:=false) (w3:=false) (w5:=false) (w4:=false) (w6:=false) (by omega) hA0 h0 hx
  simp only[hG,hL,hWl,hAl,aa0,aaW]at e
  refine⟨_,by simp only[Vc.down,seval,hR,hg,hb,hio,hw,ha,hiq,n_0_1,n_0_2,n_0_3,n_0_4,n_0_5,n_0_6,n_1_3,n_1_4,n_1_5,n_1_6,n_2_3,n_2_4,n_2_5,n_2_6,n_3_4,n_3_5,n_3_6,n_4_5,n_4_6,n_5_6,e];exact rfl,?_⟩
  simp only[Ba,Du]
  refine⟨fun x hx=>by((try simp (discharger:=((try simp only[aaS]);omega)) only[aa6,aa0,aaW,abB,abO,abT,abY,aaS,ab9,acF,acK,acZ])<;>(first|exact rfl|exact rfl)),hr6,hG,hL,hWl,hAl,hFl,true,w1,w2,.slr 5 io 0 O.length,.slr 1 iq 0 R.length,iw,ia,h.length,w4,w6,false,?_,?_,?_,.inr ⟨io,w3,rfl,?_,hio6⟩,.inr ⟨iq,w5,hRn,rfl,?_,hiq6,by simp at hqx ⊢;omega⟩,?_,hw6,?_,ha6,?_,by omega,d01,by omega,by omega⟩
  all_goals ((try simp (discharger:=((try simp only[aaS]);omega)) only[aa6,aa0,aaW,abB,abO,abT,abY,aaS,ab9,acF,acK,acZ])<;>(first|exact rfl|exact hR|exact hg|exact hb|exact hio|exact hw|exact ha|exact hiq))
theorem asK{s:Ac}{d:Ap}{hr own fuel:Int}{h:Ab}{r:Nat}{G L:List Int}{O:List Aa}{R W A F:List Int}(hl:s.cons.length≤1000)(H:HsD s d hr own fuel G L O R W A F r h):
 ∃es,cl Bi h (some (.func (.func 109) [.ptr r 0 0] [])) (some [])=some (.ret (.tup []),es)∧Bh5 h (Ba h es)∧
  HsD s d hr own (Hy s.fuel F 0 (G,fuel)).2 (Hy s.fuel F 0 (G,fuel)).1 L O R W A F r (Ba h es):=by
 obtain⟨hr6,hG,hL,hWl,hAl,hFl,w,w1,w2,ov,rv,iw,ia,jf,w4,w6,w7,hR,hg,hb,hov,hrv,hw,hw6,ha,ha6,hf,hf6,d01,d02,d12⟩:=H
 have l1:=Fb hR
 have l2:=Fb hg
 have l3:=Fb hb
 have lw0:=Fb hw
 have lw1:=Fb ha
 have lw2:=Fb hf
 have hGl:(Hy s.fuel F 0 (G,fuel)).1.length=s.cons.length:=by rw[bH,hG]
 rcases hov with⟨rfl,rfl⟩|⟨io,w3,rfl,hio,hio6⟩<;>rcases hrv with⟨rfl,rfl⟩|⟨iq,w5,hRn,rfl,hiq,hiq6,hqx⟩
 ·have n_0_1:(r=5)=False:=eq_false (by omega)
  have n_0_2:(r=6)=False:=eq_false (by omega)
  have n_0_3:(r=iw)=False:=eq_false fun e=>by subst e;rw[hR]at hw;simp at hw
  have qn_0_3:r≠iw:=of_eq_false n_0_3
  have n_0_4:(r=ia)=False:=eq_false fun e=>by subst e;rw[hR]at ha;simp at ha
  have qn_0_4:r≠ia:=of_eq_false n_0_4
  have n_0_5:(r=jf)=False:=eq_false fun e=>by subst e;rw[hR]at hf;simp at hf
  have qn_0_5:r≠jf:=of_eq_false n_0_5
  have n_1_3:(5=iw)=False:=eq_false (by omega)
  have n_1_4:(5=ia)=False:=eq_false (by omega)
  have n_1_5:(5=jf)=False:=eq_false (by omega)
  have n_2_3:(6=iw)=False:=eq_false (by omega)
  have n_2_4:(6=ia)=False:=eq_false (by omega)
  have n_2_5:(6=jf)=False:=eq_false (by omega)
  have n_3_4:(iw=ia)=False:=eq_false d01
  have qn_3_4:iw≠ia:=of_eq_false n_3_4
  have n_3_5:(iw=jf)=False:=eq_false d02
  have qn_3_5:iw≠jf:=of_eq_false n_3_5
  have n_4_5:(ia=jf)=False:=eq_false d12
  have qn_4_5:ia≠jf:=of_eq_false n_4_5
  obtain⟨o,h',e,rfl,wr,wG,hwG,hwr,rfl⟩:=auK (s:=s) (d:=d) (hr:=hr) (own:=own) (fuel:=fuel) (G:=G) (L:=L) (O:=[]) (R:=[]) (W:=W) (A:=A) (F:=F) (w:=false) (w1:=false) (w2:=false) (w3:=false) (w5:=false) (w4:=false) (w6:=false) (w7:=false) (by omega) (by omega)
  generalize hFu:Hy s.fuel F 0 (G,fuel)=gf at *
  obtain⟨G',fu'⟩:=gf
  dsimp only at *
  simp only[hG,hL,hWl,hAl,hFl,aa0,aaW]at e
  obtain⟨vG,hvG⟩:∃v,v=wG:=⟨_,rfl⟩
  obtain⟨vr,hvr⟩:∃v,v=wr:=⟨_,rfl⟩
  cases wr<;>cases wG<;>(try have:=hwG rfl)<;>(try subst G')<;>(try have:=hwr rfl)<;>(try subst fu')<;>(
   refine⟨_,by simp only[Vc.down,seval,hR,hg,hb,hw,ha,hf,n_0_1,n_0_2,n_0_3,n_0_4,n_0_5,n_1_3,n_1_4,n_1_5,n_2_3,n_2_4,n_2_5,n_3_4,n_3_5,n_4_5,e];exact rfl,?_⟩
   simp only[Ba,Du]
   refine⟨fun x hx=>by((try simp (discharger:=((try simp only[aaS]);omega)) only[aa6,aa0,aaW,abB,abO,abT,abY,aaS,ab9,acF,acK,acZ])<;>(first|exact rfl|exact rfl)),hr6,hGl,hL,hWl,hAl,hFl,(vr||w),(vG||w1),w2,.nils,.nils,iw,ia,jf,w4,w6,w7,?_,?_,?_,.inl ⟨rfl,rfl⟩,.inl ⟨rfl,rfl⟩,?_,hw6,?_,ha6,?_,hf6,d01,d02,d12⟩
   all_goals (subst vr;subst vG;((try simp (discharger:=((try simp only[aaS]);omega)) only[aa6,aa0,aaW,abB,abO,abT,abY,aaS,ab9,acF,acK,acZ])<;>(first|exact rfl|exact hR|exact hg|exact hb|exact hw|exact ha|exact hf))))
 ·have n_0_1:(r=5)=False:=eq_false (by omega)
  have n_0_2:(r=6)=False:=eq_false (by omega)
  have n_0_3:(r=iw)=False:=eq_false fun e=>by subst e;rw[hR]at hw;simp at hw
  have qn_0_3:r≠iw:=of_eq_false n_0_3
  have n_0_4:(r=ia)=False:=eq_false fun e=>by subst e;rw[hR]at ha;simp at ha
  have qn_0_4:r≠ia:=of_eq_false n_0_4
  have n_0_5:(r=jf)=False:=eq_false fun e=>by subst e;rw[hR]at hf;simp at hf
  have qn_0_5:r≠jf:=of_eq_false n_0_5
  have n_0_6:(r=iq)=False:=eq_false fun e=>by subst e;rw[hR]at hiq;simp at hiq
  have qn_0_6:r≠iq:=of_eq_false n_0_6
  have n_1_3:(5=iw)=False:=eq_false (by omega)
  have n_1_4:(5=ia)=False:=eq_false (by omega)
  have n_1_5:(5=jf)=False:=eq_false (by omega)
  have n_1_6:(5=iq)=False:=eq_false (by omega)
  have n_2_3:(6=iw)=False:=eq_false (by omega)
  have n_2_4:(6=ia)=False:=eq_false (by omega)
  have n_2_5:(6=jf)=False:=eq_false (by omega)
  have n_2_6:(6=iq)=False:=eq_false (by omega)
  have n_3_4:(iw=ia)=False:=eq_false d01
  have qn_3_4:iw≠ia:=of_eq_false n_3_4
  have n_3_5:(iw=jf)=False:=eq_false d02
  have qn_3_5:iw≠jf:=of_eq_false n_3_5
  have n_3_6:(iw=iq)=False:=eq_false fun e=>by subst e;simp at hqx
  have qn_3_6:iw≠iq:=of_eq_false n_3_6
  have n_4_5:(ia=jf)=False:=eq_false d12
  have qn_4_5:ia≠jf:=of_eq_false n_4_5
  have n_4_6:(ia=iq)=False:=eq_false fun e=>by subst e;simp at hqx
  have qn_4_6:ia≠iq:=of_eq_false n_4_6
  have n_5_6:(jf=iq)=False:=eq_false fun e=>by subst e;simp at hqx
  have qn_5_6:jf≠iq:=of_eq_false n_5_6
  have l5:=Fb hiq
  obtain⟨o,h',e,rfl,wr,wG,hwG,hwr,rfl⟩:=asU (s:=s) (d:=d) (hr:=hr) (own:=own) (fuel:=fuel) (G:=G) (L:=L) (O:=[]) (R:=R) (W:=W) (A:=A) (F:=F) (w:=false) (w1:=false) (w2:=false) (w3:=false) (w5:=false) (w4:=false) (w6:=false) (w7:=false) (by omega) (by omega)
  generalize hFu:Hy s.fuel F 0 (G,fuel)=gf at *
  obtain⟨G',fu'⟩:=gf
  dsimp only at *
  simp only[hG,hL,hWl,hAl,hFl,aa0,aaW]at e
  obtain⟨vG,hvG⟩:∃v,v=wG:=⟨_,rfl⟩
  obtain⟨vr,hvr⟩:∃v,v=wr:=⟨_,rfl⟩
  cases wr<;>cases wG<;>(try have:=hwG rfl)<;>(try subst G')<;>(try have:=hwr rfl)<;>(try subst fu')<;>(
   refine⟨_,by simp only[Vc.down,seval,hR,hg,hb,hw,ha,hf,hiq,n_0_1,n_0_2,n_0_3,n_0_4,n_0_5,n_0_6,n_1_3,n_1_4,n_1_5,n_1_6,n_2_3,n_2_4,n_2_5,n_2_6,n_3_4,n_3_5,n_3_6,n_4_5,n_4_6,n_5_6,e];exact rfl,?_⟩
   simp only[Ba,Du]
   refine⟨fun x hx=>by((try simp (discharger:=((try simp only[aaS]);omega)) only[aa6,aa0,aaW,abB,abO,abT,abY,aaS,ab9,acF,acK,acZ])<;>(first|exact rfl|exact rfl)),hr6,hGl,hL,hWl,hAl,hFl,(vr||w),(vG||w1),w2,.nils,.slr 1 iq 0 R.length,iw,ia,jf,w4,w6,w7,?_,?_,?_,.inl ⟨rfl,rfl⟩,.inr ⟨iq,w5,hRn,rfl,?_,hiq6,hqx⟩,?_,hw6,?_,ha6,?_,hf6,d01,d02,d12⟩
   all_goals (subst vr;subst vG;((try simp (discharger:=((try simp only[aaS]);omega)) only[aa6,aa0,aaW,abB,abO,abT,abY,aaS,ab9,acF,acK,acZ])<;>(first|exact rfl|exact hR|exact hg|exact hb|exact hw|exact ha|exact hf|exact hiq))))
 ·have n_0_1:(r=5)=False:=eq_false (by omega)
  have n_0_2:(r=6)=False:=eq_false (by omega)
  have n_0_3:(r=io)=False:=eq_false fun e=>by subst e;rw[hR]at hio;simp at hio
  have qn_0_3:r≠io:=of_eq_false n_0_3
  have n_0_4:(r=iw)=False:=eq_false fun e=>by subst e;rw[hR]at hw;simp at hw
  have qn_0_4:r≠iw:=of_eq_false n_0_4
  have n_0_5:(r=ia)=False:=eq_false fun e=>by subst e;rw[hR]at ha;simp at ha
  have qn_0_5:r≠ia:=of_eq_false n_0_5
  have n_0_6:(r=jf)=False:=eq_false fun e=>by subst e;rw[hR]at hf;simp at hf
  have qn_0_6:r≠jf:=of_eq_false n_0_6
  have n_1_3:(5=io)=False:=eq_false (by omega)
  have n_1_4:(5=iw)=False:=eq_false (by omega)
  have n_1_5:(5=ia)=False:=eq_false (by omega)
  have n_1_6:(5=jf)=False:=eq_false (by omega)
  have n_2_3:(6=io)=False:=eq_false (by omega)
  have n_2_4:(6=iw)=False:=eq_false (by omega)
  have n_2_5:(6=ia)=False:=eq_false (by omega)
  have n_2_6:(6=jf)=False:=eq_false (by omega)
  have n_3_4:(io=iw)=False:=eq_false fun e=>by subst e;rw[hio]at hw;simp at hw
  have qn_3_4:io≠iw:=of_eq_false n_3_4
  have n_3_5:(io=ia)=False:=eq_false fun e=>by subst e;rw[hio]at ha;simp at ha
  have qn_3_5:io≠ia:=of_eq_false n_3_5
  have n_3_6:(io=jf)=False:=eq_false fun e=>by subst e;rw[hio]at hf;simp at hf
  have qn_3_6:io≠jf:=of_eq_false n_3_6
  have n_4_5:(iw=ia)=False:=eq_false d01
  have qn_4_5:iw≠ia:=of_eq_false n_4_5
  have n_4_6:(iw=jf)=False:=eq_false d02
  have qn_4_6:iw≠jf:=of_eq_false n_4_6
  have n_5_6:(ia=jf)=False:=eq_false d12
  have qn_5_6:ia≠jf:=of_eq_false n_5_6
  have l4:=Fb hio
  obtain⟨o,h',e,rfl,wr,wG,hwG,hwr,rfl⟩:=aqU (s:=s) (d:=d) (hr:=hr) (own:=own) (fuel:=fuel) (G:=G) (L:=L) (O:=O) (R:=[]) (W:=W) (A:=A) (F:=F) (w:=false) (w1:=false) (w2:=false) (w3:=false) (w5:=false) (w4:=false) (w6:=false) (w7:=false) (by omega) (by omega)
  generalize hFu:Hy s.fuel F 0 (G,fuel)=gf at *
  obtain⟨G',fu'⟩:=gf
  dsimp only at *
  simp only[hG,hL,hWl,hAl,hFl,aa0,aaW]at e
  obtain⟨vG,hvG⟩:∃v,v=wG:=⟨_,rfl⟩
  obtain⟨vr,hvr⟩:∃v,v=wr:=⟨_,rfl⟩
  cases wr<;>cases wG<;>(try have:=hwG rfl)<;>(try subst G')<;>(try have:=hwr rfl)<;>(try subst fu')<;>(
   refine⟨_,by simp only[Vc.down,seval,hR,hg,hb,hio,hw,ha,hf,n_0_1,n_0_2,n_0_3,n_0_4,n_0_5,n_0_6,n_1_3,n_1_4,n_1_5,n_1_6,n_2_3,n_2_4,n_2_5,n_2_6,n_3_4,n_3_5,n_3_6,n_4_5,n_4_6,n_5_6,e];exact rfl,?_⟩
   simp only[Ba,Du]
   refine⟨fun x hx=>by((try simp (discharger:=((try simp only[aaS]);omega)) only[aa6,aa0,aaW,abB,abO,abT,abY,aaS,ab9,acF,acK,acZ])<;>(first|exact rfl|exact rfl)),hr6,hGl,hL,hWl,hAl,hFl,(vr||w),(vG||w1),w2,.slr 5 io 0 O.length,.nils,iw,ia,jf,w4,w6,w7,?_,?_,?_,.inr ⟨io,w3,rfl,?_,hio6⟩,.inl ⟨rfl,rfl⟩,?_,hw6,?_,ha6,?_,hf6,d01,d02,d12⟩
   all_goals (subst vr;subst vG;((try simp (discharger:=((try simp only[aaS]);omega)) only[aa6,aa0,aaW,abB,abO,abT,abY,aaS,ab9,acF,acK,acZ])<;>(first|exact rfl|exact hR|exact hg|exact hb|exact hio|exact hw|exact ha|exact hf))))
 ·have n_0_1:(r=5)=False:=eq_false (by omega)
  have n_0_2:(r=6)=False:=eq_false (by omega)
  have n_0_3:(r=io)=False:=eq_false fun e=>by subst e;rw[hR]at hio;simp at hio
  have qn_0_3:r≠io:=of_eq_false n_0_3
  have n_0_4:(r=iw)=False:=eq_false fun e=>by subst e;rw[hR]at hw;simp at hw
  have qn_0_4:r≠iw:=of_eq_false n_0_4
  have n_0_5:(r=ia)=False:=eq_false fun e=>by subst e;rw[hR]at ha;simp at ha
  have qn_0_5:r≠ia:=of_eq_false n_0_5
  have n_0_6:(r=jf)=False:=eq_false fun e=>by subst e;rw[hR]at hf;simp at hf
  have qn_0_6:r≠jf:=of_eq_false n_0_6
  have n_0_7:(r=iq)=False:=eq_false fun e=>by subst e;rw[hR]at hiq;simp at hiq
  have qn_0_7:r≠iq:=of_eq_false n_0_7
  have n_1_3:(5=io)=False:=eq_false (by omega)
  have n_1_4:(5=iw)=False:=eq_false (by omega)
  have n_1_5:(5=ia)=False:=eq_false (by omega)
  have n_1_6:(5=jf)=False:=eq_false (by omega)
  have n_1_7:(5=iq)=False:=eq_false (by omega)
  have n_2_3:(6=io)=False:=eq_false (by omega)
  have n_2_4:(6=iw)=False:=eq_false (by omega)
  have n_2_5:(6=ia)=False:=eq_false (by omega)
  have n_2_6:(6=jf)=False:=eq_false (by omega)
  have n_2_7:(6=iq)=False:=eq_false (by omega)
  have n_3_4:(io=iw)=False:=eq_false fun e=>by subst e;rw[hio]at hw;simp at hw
  have qn_3_4:io≠iw:=of_eq_false n_3_4
  have n_3_5:(io=ia)=False:=eq_false fun e=>by subst e;rw[hio]at ha;simp at ha
  have qn_3_5:io≠ia:=of_eq_false n_3_5
  have n_3_6:(io=jf)=False:=eq_false fun e=>by subst e;rw[hio]at hf;simp at hf
  have qn_3_6:io≠jf:=of_eq_false n_3_6
  have n_3_7:(io=iq)=False:=eq_false fun e=>by subst e;rw[hio]at hiq;simp at hiq
  have qn_3_7:io≠iq:=of_eq_false n_3_7
  have n_4_5:(iw=ia)=False:=eq_false d01
  have qn_4_5:iw≠ia:=of_eq_false n_4_5
  have n_4_6:(iw=jf)=False:=eq_false d02
  have qn_4_6:iw≠jf:=of_eq_false n_4_6
  have n_4_7:(iw=iq)=False:=eq_false fun e=>by subst e;simp at hqx
  have qn_4_7:iw≠iq:=of_eq_false n_4_7
  have n_5_6:(ia=jf)=False:=eq_false d12
  have qn_5_6:ia≠jf:=of_eq_false n_5_6
  have n_5_7:(ia=iq)=False:=eq_false fun e=>by subst e;simp at hqx
  have qn_5_7:ia≠iq:=of_eq_false n_5_7
  have n_6_7:(jf=iq)=False:=eq_false fun e=>by subst e;simp at hqx
  have qn_6_7:jf≠iq:=of_eq_false n_6_7
  have l4:=Fb hio
  have l5:=Fb hiq
  obtain⟨o,h',e,rfl,wr,wG,hwG,hwr,rfl⟩:=arW (s:=s) (d:=d) (hr:=hr) (own:=own) (fuel:=fuel) (G:=G) (L:=L) (O:=O) (R:=R) (W:=W) (A:=A) (F:=F) (w:=false) (w1:=false) (w2:=false) (w3:=false) (w5:=false) (w4:=false) (w6:=false) (w7:=false) (by omega) (by omega)
  generalize hFu:Hy s.fuel F 0 (G,fuel)=gf at *
  obtain⟨G',fu'⟩:=gf
  dsimp only at *
  simp only[hG,hL,hWl,hAl,hFl,aa0,aaW]at e
  obtain⟨vG,hvG⟩:∃v,v=wG:=⟨_,rfl⟩
  obtain⟨vr,hvr⟩:∃v,v=wr:=⟨_,rfl⟩
  cases wr<;>cases wG<;>(try have:=hwG rfl)<;>(try subst G')<;>(try have:=hwr rfl)<;>(try subst fu')<;>(
   refine⟨_,by simp only[Vc.down,seval,hR,hg,hb,hio,hw,ha,hf,hiq,n_0_1,n_0_2,n_0_3,n_0_4,n_0_5,n_0_6,n_0_7,n_1_3,n_1_4,n_1_5,n_1_6,n_1_7,n_2_3,n_2_4,n_2_5,n_2_6,n_2_7,n_3_4,n_3_5,n_3_6,n_3_7,n_4_5,n_4_6,n_4_7,n_5_6,n_5_7,n_6_7,e];exact rfl,?_⟩
   simp only[Ba,Du]
   refine⟨fun x hx=>by((try simp (discharger:=((try simp only[aaS]);omega)) only[aa6,aa0,aaW,abB,abO,abT,abY,aaS,ab9,acF,acK,acZ])<;>(first|exact rfl|exact rfl)),hr6,hGl,hL,hWl,hAl,hFl,(vr||w),(vG||w1),w2,.slr 5 io 0 O.length,.slr 1 iq 0 R.length,iw,ia,jf,w4,w6,w7,?_,?_,?_,.inr ⟨io,w3,rfl,?_,hio6⟩,.inr ⟨iq,w5,hRn,rfl,?_,hiq6,hqx⟩,?_,hw6,?_,ha6,?_,hf6,d01,d02,d12⟩
   all_goals (subst vr;subst vG;((try simp (discharger:=((try simp only[aaS]);omega)) only[aa6,aa0,aaW,abB,abO,abT,abY,aaS,ab9,acF,acK,acZ])<;>(first|exact rfl|exact hR|exact hg|exact hb|exact hio|exact hw|exact ha|exact hf|exact hiq))))
theorem akO{s:Ac}{d:Ap}{hr own fuel:Int}{h:Ab}{r:Nat}{G L:List Int}{O:List Aa}{R W A F:List Int}(hl:s.cons.length≤1000)(H:HsD s d hr own fuel G L O R W A F r h):
 ∃es,cl Bi h (some (.func (.func 110) [.ptr r 0 0] [])) (some [])=some (.ret (.tup []),es)∧Bh5 h (Ba h es)∧
  HsD s d hr own fuel G (Kr (Da hr F W A) s.cons 0 L) O R W A F r (Ba h es):=by
 obtain⟨hr6,hG,hL,hWl,hAl,hFl,w,w1,w2,ov,rv,iw,ia,jf,w4,w6,w7,hR,hg,hb,hov,hrv,hw,hw6,ha,ha6,hf,hf6,d01,d02,d12⟩:=H
 have l1:=Fb hR
 have l2:=Fb hg
 have l3:=Fb hb
 have lw0:=Fb hw
 have lw1:=Fb ha
 have lw2:=Fb hf
 have hLl:(Kr (Da hr F W A) s.cons 0 L).length=s.cons.length:=by rw[Yf,hL]
 rcases hov with⟨rfl,rfl⟩|⟨io,w3,rfl,hio,hio6⟩<;>rcases hrv with⟨rfl,rfl⟩|⟨iq,w5,hRn,rfl,hiq,hiq6,hqx⟩
 ·have n_0_1:(r=5)=False:=eq_false (by omega)
  have n_0_2:(r=6)=False:=eq_false (by omega)
  have n_0_3:(r=iw)=False:=eq_false fun e=>by subst e;rw[hR]at hw;simp at hw
  have qn_0_3:r≠iw:=of_eq_false n_0_3
  have n_0_4:(r=ia)=False:=eq_false fun e=>by subst e;rw[hR]at ha;simp at ha
  have qn_0_4:r≠ia:=of_eq_false n_0_4
  have n_0_5:(r=jf)=False:=eq_false fun e=>by subst e;rw[hR]at hf;simp at hf
  have qn_0_5:r≠jf:=of_eq_false n_0_5
  have n_1_3:(5=iw)=False:=eq_false (by omega)
  have n_1_4:(5=ia)=False:=eq_false (by omega)
  have n_1_5:(5=jf)=False:=eq_false (by omega)
  have n_2_3:(6=iw)=False:=eq_false (by omega)
  have n_2_4:(6=ia)=False:=eq_false (by omega)
  have n_2_5:(6=jf)=False:=eq_false (by omega)
  have n_3_4:(iw=ia)=False:=eq_false d01
  have qn_3_4:iw≠ia:=of_eq_false n_3_4
  have n_3_5:(iw=jf)=False:=eq_false d02
  have qn_3_5:iw≠jf:=of_eq_false n_3_5
  have n_4_5:(ia=jf)=False:=eq_false d12
  have qn_4_5:ia≠jf:=of_eq_false n_4_5
  obtain⟨o,h',e,rfl,wL,hwL,rfl⟩:=afO (s:=s) (d:=d) (hr:=hr) (own:=own) (fuel:=fuel) (G:=G) (L:=L) (O:=[]) (R:=[]) (W:=W) (A:=A) (F:=F) (w:=false) (w1:=false) (w2:=false) (w3:=false) (w5:=false) (w4:=false) (w6:=false) (w7:=false) hL hWl hAl hFl hl
  generalize hLL:Kr (Da hr F W A) s.cons 0 L=L' at *
  simp only[hG,hL,hWl,hAl,hFl,aa0,aaW]at e
  obtain⟨vL,hvL⟩:∃v,v=wL:=⟨_,rfl⟩
  cases wL<;>(try (have q:=hwL rfl;subst q))<;>(
   refine⟨_,by simp only[Vc.down,seval,hR,hg,hb,hw,ha,hf,n_0_1,n_0_2,n_0_3,n_0_4,n_0_5,n_1_3,n_1_4,n_1_5,n_2_3,n_2_4,n_2_5,n_3_4,n_3_5,n_4_5,e];exact rfl,?_⟩
   simp only[Ba,Du]
   refine⟨fun x hx=>by((try simp (discharger:=((try simp only[aaS]);omega)) only[aa6,aa0,aaW,abB,abO,abT,abY,aaS,ab9,acF,acK,acZ])<;>(first|exact rfl|exact rfl)),hr6,hG,hLl,hWl,hAl,hFl,w,w1,(vL||w2),.nils,.nils,iw,ia,jf,w4,w6,w7,?_,?_,?_,.inl ⟨rfl,rfl⟩,.inl ⟨rfl,rfl⟩,?_,hw6,?_,ha6,?_,hf6,d01,d02,d12⟩
   all_goals (subst vL;((try simp (discharger:=((try simp only[aaS]);omega)) only[aa6,aa0,aaW,abB,abO,abT,abY,aaS,ab9,acF,acK,acZ])<;>(first|exact rfl|exact hR|exact hg|exact hb|exact hw|exact ha|exact hf))))
 ·have n_0_1:(r=5)=False:=eq_false (by omega)
  have n_0_2:(r=6)=False:=eq_false (by omega)
  have n_0_3:(r=iw)=False:=eq_false fun e=>by subst e;rw[hR]at hw;simp at hw
  have qn_0_3:r≠iw:=of_eq_false n_0_3
  have n_0_4:(r=ia)=False:=eq_false fun e=>by subst e;rw[hR]at ha;simp at ha
  have qn_0_4:r≠ia:=of_eq_false n_0_4
  have n_0_5:(r=jf)=False:=eq_false fun e=>by subst e;rw[hR]at hf;simp at hf
  have qn_0_5:r≠jf:=of_eq_false n_0_5
  have n_0_6:(r=iq)=False:=eq_false fun e=>by subst e;rw[hR]at hiq;simp at hiq
  have qn_0_6:r≠iq:=of_eq_false n_0_6
  have n_1_3:(5=iw)=False:=eq_false (by omega)
  have n_1_4:(5=ia)=False:=eq_false (by omega)
  have n_1_5:(5=jf)=False:=eq_false (by omega)
  have n_1_6:(5=iq)=False:=eq_false (by omega)
  have n_2_3:(6=iw)=False:=eq_false (by omega)
  have n_2_4:(6=ia)=False:=eq_false (by omega)
  have n_2_5:(6=jf)=False:=eq_false (by omega)
  have n_2_6:(6=iq)=False:=eq_false (by omega)
  have n_3_4:(iw=ia)=False:=eq_false d01
  have qn_3_4:iw≠ia:=of_eq_false n_3_4
  have n_3_5:(iw=jf)=False:=eq_false d02
  have qn_3_5:iw≠jf:=of_eq_false n_3_5
  have n_3_6:(iw=iq)=False:=eq_false fun e=>by subst e;simp at hqx
  have qn_3_6:iw≠iq:=of_eq_false n_3_6
  have n_4_5:(ia=jf)=False:=eq_false d12
  have qn_4_5:ia≠jf:=of_eq_false n_4_5
  have n_4_6:(ia=iq)=False:=eq_false fun e=>by subst e;simp at hqx
  have qn_4_6:ia≠iq:=of_eq_false n_4_6
  have n_5_6:(jf=iq)=False:=eq_false fun e=>by subst e;simp at hqx
  have qn_5_6:jf≠iq:=of_eq_false n_5_6
  have l5:=Fb hiq
  obtain⟨o,h',e,rfl,wL,hwL,rfl⟩:=aiX (s:=s) (d:=d) (hr:=hr) (own:=own) (fuel:=fuel) (G:=G) (L:=L) (O:=[]) (R:=R) (W:=W) (A:=A) (F:=F) (w:=false) (w1:=false) (w2:=false) (w3:=false) (w5:=false) (w4:=false) (w6:=false) (w7:=false) hL hWl hAl hFl hl
  generalize hLL:Kr (Da hr F W A) s.cons 0 L=L' at *
  simp only[hG,hL,hWl,hAl,hFl,aa0,aaW]at e
  obtain⟨vL,hvL⟩:∃v,v=wL:=⟨_,rfl⟩
  cases wL<;>(try (have q:=hwL rfl;subst q))<;>(
   refine⟨_,by simp only[Vc.down,seval,hR,hg,hb,hw,ha,hf,hiq,n_0_1,n_0_2,n_0_3,n_0_4,n_0_5,n_0_6,n_1_3,n_1_4,n_1_5,n_1_6,n_2_3,n_2_4,n_2_5,n_2_6,n_3_4,n_3_5,n_3_6,n_4_5,n_4_6,n_5_6,e];exact rfl,?_⟩
   simp only[Ba,Du]
   refine⟨fun x hx=>by((try simp (discharger:=((try simp only[aaS]);omega)) only[aa6,aa0,aaW,abB,abO,abT,abY,aaS,ab9,acF,acK,acZ])<;>(first|exact rfl|exact rfl)),hr6,hG,hLl,hWl,hAl,hFl,w,w1,(vL||w2),.nils,.slr 1 iq 0 R.length,iw,ia,jf,w4,w6,w7,?_,?_,?_,.inl ⟨rfl,rfl⟩,.inr ⟨iq,w5,hRn,rfl,?_,hiq6,hqx⟩,?_,hw6,?_,ha6,?_,hf6,d01,d02,d12⟩
   all_goals (subst vL;((try simp (discharger:=((try simp only[aaS]);omega)) only[aa6,aa0,aaW,abB,abO,abT,abY,aaS,ab9,acF,acK,acZ])<;>(first|exact rfl|exact hR|exact hg|exact hb|exact hw|exact ha|exact hf|exact hiq))))
 ·have n_0_1:(r=5)=False:=eq_false (by omega)
  have n_0_2:(r=6)=False:=eq_false (by omega)
  have n_0_3:(r=io)=False:=eq_false fun e=>by subst e;rw[hR]at hio;simp at hio
  have qn_0_3:r≠io:=of_eq_false n_0_3
  have n_0_4:(r=iw)=False:=eq_false fun e=>by subst e;rw[hR]at hw;simp at hw
  have qn_0_4:r≠iw:=of_eq_false n_0_4
  have n_0_5:(r=ia)=False:=eq_false fun e=>by subst e;rw[hR]at ha;simp at ha
  have qn_0_5:r≠ia:=of_eq_false n_0_5
  have n_0_6:(r=jf)=False:=eq_false fun e=>by subst e;rw[hR]at hf;simp at hf
  have qn_0_6:r≠jf:=of_eq_false n_0_6
  have n_1_3:(5=io)=False:=eq_false (by omega)
  have n_1_4:(5=iw)=False:=eq_false (by omega)
  have n_1_5:(5=ia)=False:=eq_false (by omega)
  have n_1_6:(5=jf)=False:=eq_false (by omega)
  have n_2_3:(6=io)=False:=eq_false (by omega)
  have n_2_4:(6=iw)=False:=eq_false (by omega)
  have n_2_5:(6=ia)=False:=eq_false (by omega)
  have n_2_6:(6=jf)=False:=eq_false (by omega)
  have n_3_4:(io=iw)=False:=eq_false fun e=>by subst e;rw[hio]at hw;simp at hw
  have qn_3_4:io≠iw:=of_eq_false n_3_4
  have n_3_5:(io=ia)=False:=eq_false fun e=>by subst e;rw[hio]at ha;simp at ha
  have qn_3_5:io≠ia:=of_eq_false n_3_5
  have n_3_6:(io=jf)=False:=eq_false fun e=>by subst e;rw[hio]at hf;simp at hf
  have qn_3_6:io≠jf:=of_eq_false n_3_6
  have n_4_5:(iw=ia)=False:=eq_false d01
  have qn_4_5:iw≠ia:=of_eq_false n_4_5
  have n_4_6:(iw=jf)=False:=eq_false d02
  have qn_4_6:iw≠jf:=of_eq_false n_4_6
  have n_5_6:(ia=jf)=False:=eq_false d12
  have qn_5_6:ia≠jf:=of_eq_false n_5_6
  have l4:=Fb hio
  obtain⟨o,h',e,rfl,wL,hwL,rfl⟩:=ajH (s:=s) (d:=d) (hr:=hr) (own:=own) (fuel:=fuel) (G:=G) (L:=L) (O:=O) (R:=[]) (W:=W) (A:=A) (F:=F) (w:=false) (w1:=false) (w2:=false) (w3:=false) (w5:=false) (w4:=false) (w6:=false) (w7:=false) hL hWl hAl hFl hl
  generalize hLL:Kr (Da hr F W A) s.cons 0 L=L' at *
  simp only[hG,hL,hWl,hAl,hFl,aa0,aaW]at e
  obtain⟨vL,hvL⟩:∃v,v=wL:=⟨_,rfl⟩
  cases wL<;>(try (have q:=hwL rfl;subst q))<;>(
   refine⟨_,by simp only[Vc.down,seval,hR,hg,hb,hio,hw,ha,hf,n_0_1,n_0_2,n_0_3,n_0_4,n_0_5,n_0_6,n_1_3,n_1_4,n_1_5,n_1_6,n_2_3,n_2_4,n_2_5,n_2_6,n_3_4,n_3_5,n_3_6,n_4_5,n_4_6,n_5_6,e];exact rfl,?_⟩
   simp only[Ba,Du]
   refine⟨fun x hx=>by((try simp (discharger:=((try simp only[aaS]);omega)) only[aa6,aa0,aaW,abB,abO,abT,abY,aaS,ab9,acF,acK,acZ])<;>(first|exact rfl|exact rfl)),hr6,hG,hLl,hWl,hAl,hFl,w,w1,(vL||w2),.slr 5 io 0 O.length,.nils,iw,ia,jf,w4,w6,w7,?_,?_,?_,.inr ⟨io,w3,rfl,?_,hio6⟩,.inl ⟨rfl,rfl⟩,?_,hw6,?_,ha6,?_,hf6,d01,d02,d12⟩
   all_goals (subst vL;((try simp (discharger:=((try simp only[aaS]);omega)) only[aa6,aa0,aaW,abB,abO,abT,abY,aaS,ab9,acF,acK,acZ])<;>(first|exact rfl|exact hR|exact hg|exact hb|exact hio|exact hw|exact ha|exact hf))))
 ·have n_0_1:(r=5)=False:=eq_false (by omega)
  have n_0_2:(r=6)=False:=eq_false (by omega)
  have n_0_3:(r=io)=False:=eq_false fun e=>by subst e;rw[hR]at hio;simp at hio
  have qn_0_3:r≠io:=of_eq_false n_0_3
  have n_0_4:(r=iw)=False:=eq_false fun e=>by subst e;rw[hR]at hw;simp at hw
  have qn_0_4:r≠iw:=of_eq_false n_0_4
  have n_0_5:(r=ia)=False:=eq_false fun e=>by subst e;rw[hR]at ha;simp at ha
  have qn_0_5:r≠ia:=of_eq_false n_0_5
  have n_0_6:(r=jf)=False:=eq_false fun e=>by subst e;rw[hR]at hf;simp at hf
  have qn_0_6:r≠jf:=of_eq_false n_0_6
  have n_0_7:(r=iq)=False:=eq_false fun e=>by subst e;rw[hR]at hiq;simp at hiq
  have qn_0_7:r≠iq:=of_eq_false n_0_7
  have n_1_3:(5=io)=False:=eq_false (by omega)
  have n_1_4:(5=iw)=False:=eq_false (by omega)
  have n_1_5:(5=ia)=False:=eq_false (by omega)
  have n_1_6:(5=jf)=False:=eq_false (by omega)
  have n_1_7:(5=iq)=False:=eq_false (by omega)
  have n_2_3:(6=io)=False:=eq_false (by omega)
  have n_2_4:(6=iw)=False:=eq_false (by omega)
  have n_2_5:(6=ia)=False:=eq_false (by omega)
  have n_2_6:(6=jf)=False:=eq_false (by omega)
  have n_2_7:(6=iq)=False:=eq_false (by omega)
  have n_3_4:(io=iw)=False:=eq_false fun e=>by subst e;rw[hio]at hw;simp at hw
  have qn_3_4:io≠iw:=of_eq_false n_3_4
  have n_3_5:(io=ia)=False:=eq_false fun e=>by subst e;rw[hio]at ha;simp at ha
  have qn_3_5:io≠ia:=of_eq_false n_3_5
  have n_3_6:(io=jf)=False:=eq_false fun e=>by subst e;rw[hio]at hf;simp at hf
  have qn_3_6:io≠jf:=of_eq_false n_3_6
  have n_3_7:(io=iq)=False:=eq_false fun e=>by subst e;rw[hio]at hiq;simp at hiq
  have qn_3_7:io≠iq:=of_eq_false n_3_7
  have n_4_5:(iw=ia)=False:=eq_false d01
  have qn_4_5:iw≠ia:=of_eq_false n_4_5
  have n_4_6:(iw=jf)=False:=eq_false d02
  have qn_4_6:iw≠jf:=of_eq_false n_4_6
  have n_4_7:(iw=iq)=False:=eq_false fun e=>by subst e;simp at hqx
  have qn_4_7:iw≠iq:=of_eq_false n_4_7
  have n_5_6:(ia=jf)=False:=eq_false d12
  have qn_5_6:ia≠jf:=of_eq_false n_5_6
  have n_5_7:(ia=iq)=False:=eq_false fun e=>by subst e;simp at hqx
  have qn_5_7:ia≠iq:=of_eq_false n_5_7
  have n_6_7:(jf=iq)=False:=eq_false fun e=>by subst e;simp at hqx
  have qn_6_7:jf≠iq:=of_eq_false n_6_7
  have l4:=Fb hio
  have l5:=Fb hiq
  obtain⟨o,h',e,rfl,wL,hwL,rfl⟩:=akW (s:=s) (d:=d) (hr:=hr) (own:=own) (fuel:=fuel) (G:=G) (L:=L) (O:=O) (R:=R) (W:=W) (A:=A) (F:=F) (w:=false) (w1:=false) (w2:=false) (w3:=false) (w5:=false) (w4:=false) (w6:=false) (w7:=false) hL hWl hAl hFl hl
  generalize hLL:Kr (Da hr F W A) s.cons 0 L=L' at *
  simp only[hG,hL,hWl,hAl,hFl,aa0,aaW]at e
  obtain⟨vL,hvL⟩:∃v,v=wL:=⟨_,rfl⟩
  cases wL<;>(try (have q:=hwL rfl;subst q))<;>(
   refine⟨_,by simp only[Vc.down,seval,hR,hg,hb,hio,hw,ha,hf,hiq,n_0_1,n_0_2,n_0_3,n_0_4,n_0_5,n_0_6,n_0_7,n_1_3,n_1_4,n_1_5,n_1_6,n_1_7,n_2_3,n_2_4,n_2_5,n_2_6,n_2_7,n_3_4,n_3_5,n_3_6,n_3_7,n_4_5,n_4_6,n_4_7,n_5_6,n_5_7,n_6_7,e];exact rfl,?_⟩
   simp only[Ba,Du]
   refine⟨fun x hx=>by((try simp (discharger:=((try simp only[aaS]);omega)) only[aa6,aa0,aaW,abB,abO,abT,abY,aaS,ab9,acF,acK,acZ])<;>(first|exact rfl|exact rfl)),hr6,hG,hLl,hWl,hAl,hFl,w,w1,(vL||w2),.slr 5 io 0 O.length,.slr 1 iq 0 R.length,iw,ia,jf,w4,w6,w7,?_,?_,?_,.inr ⟨io,w3,rfl,?_,hio6⟩,.inr ⟨iq,w5,hRn,rfl,?_,hiq6,hqx⟩,?_,hw6,?_,ha6,?_,hf6,d01,d02,d12⟩
   all_goals (subst vL;((try simp (discharger:=((try simp only[aaS]);omega)) only[aa6,aa0,aaW,abB,abO,abT,abY,aaS,ab9,acF,acK,acZ])<;>(first|exact rfl|exact hR|exact hg|exact hb|exact hio|exact hw|exact ha|exact hf|exact hiq))))
theorem pH{l:List Aa}{nn:Bool}(hl:l.length≤1000)(hne:¬(l=[]∧nn=false)):Bi.call (.fn 103) [Ao 5 true nn (l.map Aa.cells)] []=some (.ret (.slr 5 0 0 l.length),[.live 5 true false (l.map Aa.cells)]):=by
 cases l with
 |nil=>
  cases nn with
  |false=>exact(hne ⟨rfl,rfl⟩).elim
  |true=>
   (refine ce Tryz.func103 ?_;simp only[Tryz.f103];(have hb:=trivial;with_reducible repeat' (first|simp only[hb,Vc.down,seval,ai0.down,aeH,An]|refine Af ?_ ?_<;>intro hb|refine fd ?_|fail)))
 |cons x l=>
  have h39:(l.length+1≤549755813888)=True:=eq_true (by simp at hl;omega)
  (refine ce Tryz.func103 ?_;simp only[Tryz.f103];(have hb:=trivial;with_reducible repeat' (first|simp only[hb,Vc.down,seval,ai0.down,List.length_map,h39,Aa.cells]|refine Af ?_ ?_<;>intro hb|refine fd ?_|fail)))
theorem mB:Bi.call (.fn 103) [Ao 5 true false []] []=some (.ret .nils,[]):=by
 (refine ce Tryz.func103 ?_;simp only[Tryz.f103];(have hb:=trivial;with_reducible repeat' (first|simp only[hb,Vc.down,seval,ai0.down,Gi]|refine Af ?_ ?_<;>intro hb|refine fd ?_|fail)))
def xH:List Nat:=[104,105,106,107,108,109,110]
def sJ(r:Nat)(f:Nat):AV:=.func (.func f) [.ptr r 0 0] []
theorem aq8(cs:List AV)(i:Int):mQ Tryz.prog 145 (.agg cs) (.int .i64 i)=if 0≤i∧i<7 then cs[i.toNat*1]? else none:=by kernel_rfl
theorem pC(r:Nat):bC Tryz.prog 145 [(0,sJ r 104),(1,sJ r 105),(2,sJ r 106),(3,sJ r 107),(4,sJ r 108),(5,sJ r 109),(6,sJ r 110)]=some (.agg (xH.map (sJ r))):=by kernel_rfl
def alH(h:Ab):Prop:=(∃fl w,h[3]?=some (.live 6 fl w [[.int .i64 0,.nils,.int .i64 0,.int .i64 0,.nils,.nils]]))∧∃fl w,h[4]?=some (.live 4 fl w [[.nils,.nils,.nils,.nils]])
theorem Ol(cs:List Ag)(hr:Int):∀(O:List Aa) (G L:List Int) (p:List Aa),(Dv cs hr O (G,L,p)).2.2=p++O.filter (fun t=>decide (t.back≠hr))
 | [],_,_,p=>by simp[Dv]
 |t::O,G,L,p=>by
  by_cases h:t.back=hr
  ·simp only[Dv,h,if_true,Ol cs hr O]
   simp[h]
  ·simp only[Dv,h,if_false,Ol cs hr O]
   simp[h]
theorem axY{f i:Nat}(h:xH[i]?=some f):(i=0∧f=104)∨(i=1∧f=105)∨(i=2∧f=106)∨(i=3∧f=107)∨(i=4∧f=108)∨(i=5∧f=109)∨(i=6∧f=110):=by
 match i,h with
 |0,h|1,h|2,h|3,h|4,h|5,h|6,h=>simp[xH]at h;subst h;simp
 |n+7,h=>simp[xH]at h
def G1(s:Ac)(hr:Int)(G L:List Int)(O:List Aa):List Int:=(Dv s.cons hr O (G,L,[])).1
def L1(s:Ac)(hr:Int)(G L:List Int)(O:List Aa):List Int:=(Dv s.cons hr O (G,L,[])).2.1
def O1(s:Ac)(hr:Int)(G L:List Int)(O:List Aa):List Aa:=(Dv s.cons hr O (G,L,[])).2.2
def T2(s:Ac)(d:Ap)(hr:Int)(G L:List Int)(O:List Aa):List Int × List Aa × List Int:=Am s.cons hr d.trades 0 (G1 s hr G L O,O1 s hr G L O,[])
def W3(s:Ac)(d:Ap)(hr:Int)(G L:List Int)(O:List Aa):List Int:=Kr (Dk s d hr (T2 s d hr G L O).1) s.cons 0 (adV s.cons.length 0)
def A4(s:Ac)(d:Ap)(hr:Int)(x:Bc)(G L:List Int)(O:List Aa):List Int:=Eu Hg s.cons (W3 s d hr G L O) x.inn x.out
def F5(s:Ac)(d:Ap)(hr:Int)(x:Bc)(G L:List Int)(O:List Aa):List Int:=aU (A4 s d hr x G L O) x
def bY(s:Ac)(d:Ap)(hr:Int)(x:Bc)(G L:List Int)(O:List Aa)(own:Int):Int:=eJ (A4 s d hr x G L O) x own
def G6(s:Ac)(d:Ap)(hr:Int)(x:Bc)(G L:List Int)(O:List Aa)(fuel:Int):List Int × Int:=Hy s.fuel (F5 s d hr x G L O) 0 ((T2 s d hr G L O).1,fuel)
def L7(s:Ac)(d:Ap)(hr:Int)(x:Bc)(G L:List Int)(O:List Aa):List Int:=Kr (Da hr (F5 s d hr x G L O) (W3 s d hr G L O) (A4 s d hr x G L O)) s.cons 0 (L1 s hr G L O)
def StS(s:Ac)(d:Ap)(hr own fuel:Int)(x:Bc)(G L:List Int)(O:List Aa)(r:Nat):Nat→Ab→Prop
 |0,h=>HsA s d hr own fuel G L O [] r h
 |1,h=>HsA s d hr own fuel (G1 s hr G L O) (L1 s hr G L O) (O1 s hr G L O) [] r h
 |2,h=>HsA s d hr own fuel (T2 s d hr G L O).1 (L1 s hr G L O) (T2 s d hr G L O).2.1 (T2 s d hr G L O).2.2 r h
 |3,h=>HsB s d hr own fuel (T2 s d hr G L O).1 (L1 s hr G L O) (T2 s d hr G L O).2.1 (T2 s d hr G L O).2.2 (W3 s d hr G L O) r h
 |4,h=>HsC s d hr own fuel (T2 s d hr G L O).1 (L1 s hr G L O) (T2 s d hr G L O).2.1 (T2 s d hr G L O).2.2 (W3 s d hr G L O) (A4 s d hr x G L O) r h
 |5,h=>HsD s d hr (bY s d hr x G L O own) fuel (T2 s d hr G L O).1 (L1 s hr G L O) (T2 s d hr G L O).2.1 (T2 s d hr G L O).2.2 (W3 s d hr G L O) (A4 s d hr x G L O) (F5 s d hr x G L O) r h
 |6,h=>HsD s d hr (bY s d hr x G L O own) (G6 s d hr x G L O fuel).2 (G6 s d hr x G L O fuel).1 (L1 s hr G L O) (T2 s d hr G L O).2.1 (T2 s d hr G L O).2.2 (W3 s d hr G L O) (A4 s d hr x G L O) (F5 s d hr x G L O) r h
 |7,h=>HsD s d hr (bY s d hr x G L O own) (G6 s d hr x G L O fuel).2 (G6 s d hr x G L O fuel).1 (L7 s d hr x G L O) (T2 s d hr G L O).2.1 (T2 s d hr G L O).2.2 (W3 s d hr G L O) (A4 s d hr x G L O) (F5 s d hr x G L O) r h
 |_,_=>False
structure cX(s:Ac)(d:Ap)(hr:Int)(x:Bc)(O:List Aa):Prop where
 ne:s.cons≠[]
 len:s.cons.length≤1000
 noms:d.noms.length≤1000
 con:∀c∈s.cons,yA c
 owed:O.length≤1000
 ow:∀t∈O,t.ok s.cons.length
 trl:d.trades.length≤1000
 tr:∀t∈d.trades,t.ok s.cons.length
 h0:0≤hr
 hx:d.hours[hr.toNat]?=some x
theorem akL{s:Ac}{d:Ap}{hr own fuel:Int}{x:Bc}{G L:List Int}{O:List Aa}(K:cX s d hr x O){r i f:Nat}{h:Ab}(hf:xH[i]?=some f)(H:StS s d hr own fuel x G L O r i h):
 ∃es,cl Bi h (some (sJ r f)) (some [])=some (.ret (.tup []),es)∧Bh5 h (Ba h es)∧StS s d hr own fuel x G L O r (i+1) (Ba h es):=by
 rcases axY hf with⟨rfl,rfl⟩|⟨rfl,rfl⟩|⟨rfl,rfl⟩|⟨rfl,rfl⟩|⟨rfl,rfl⟩|⟨rfl,rfl⟩|⟨rfl,rfl⟩
 ·exact aiR K.owed K.ow H
 ·refine ae2 ?_ K.trl K.tr H
  unfold O1
  rw[Ol]
  have:=List.length_filter_le (fun t:Aa=>decide (t.back≠hr)) O
  have:=K.owed
  simp only[aaW]
  omega
 ·exact ahT K.len K.noms K.con H
 ·exact acN K.len K.ne K.h0 K.hx H
 ·exact agB K.len K.ne K.h0 K.hx H
 ·exact asK K.len H
 ·exact akO K.len H
theorem aiY:Bi.call (.fn 102) [.imm 1 true []] []=some (.ret (.slr 1 0 0 0),[.live 1 true false []]):=by
 (refine ce Tryz.func102 ?_;simp only[Tryz.f102];(have hb:=trivial;with_reducible repeat' (first|simp only[hb,Vc.down,seval,aaJ.down,aeM]|refine Af ?_ ?_<;>intro hb|refine fd ?_|fail)))
theorem aiL:Bi.call (.fn 102) [.nils] []=some (.ret .nils,[]):=by
 (refine ce Tryz.func102 ?_;simp only[Tryz.f102];(have hb:=trivial;with_reducible repeat' (first|simp only[hb,Vc.down,seval,aaJ.down,aeM]|refine Af ?_ ?_<;>intro hb|refine fd ?_|fail)))
def ZQ(hr own fuel:Int)(o:Eo)(h:Ab):Prop:=∃w1 w2 w3:Bool,
 (o=.ret (.tup [.agg [.int .i64 hr,.nils,.int .i64 own,.int .i64 fuel,.nils,.nils],.agg [.slr 1 0 0 0,.nils,.nils,.nils]])∧h=[.live 1 true w3 []])∨
 (o=.ret (.tup [.agg [.int .i64 hr,.slr 1 0 0 0,.int .i64 own,.int .i64 fuel,.nils,.nils],.agg [.slr 1 1 0 0,.nils,.nils,.nils]])∧h=[.live 1 true w1 [],.live 1 true w3 []])∨
 (o=.ret (.tup [.agg [.int .i64 hr,.nils,.int .i64 own,.int .i64 fuel,.slr 1 0 0 0,.nils],.agg [.slr 1 1 0 0,.nils,.nils,.nils]])∧h=[.live 1 true w2 [],.live 1 true w3 []])∨
 (o=.ret (.tup [.agg [.int .i64 hr,.slr 1 0 0 0,.int .i64 own,.int .i64 fuel,.slr 1 1 0 0,.nils],.agg [.slr 1 2 0 0,.nils,.nils,.nils]])∧h=[.live 1 true w1 [],.live 1 true w2 [],.live 1 true w3 []])
structure ZOK(s:Ac)(d:Ap)(hr:Int)(x:Bc):Prop where
 con:s.cons=[]
 tr:d.trades=[]
 h0:0≤hr
 hx:d.hours[hr.toNat]?=some x
 inn:0≤x.inn
 out:0≤x.out
theorem akQ{s:Ac}{d:Ap}{x:Bc}{hr own fuel:Int}{nG nL nO:Bool}(K:ZOK s d hr x):
 Ql Bi 64 [.agg s.cells,.agg [.int .i64 hr,Ao 1 true nG [],.int .i64 own,.int .i64 fuel,Ao 1 true nL [],Ao 5 true nO []],.agg d.cells] [] (ZQ (IntKind.i64.wrap (hr+1)) (eJ [] x own) fuel):=by
 have k1:=aoG nG nL nO (s:=s) (d:=d) (fl:=false) (w:=false) (w1:=false) (w2:=false) (w3:=false) (hr:=hr) (own:=own) (fuel:=fuel)
 have k2:=aj8 nG nL (s:=s) (w:=false) (w1:=false) (w2:=false) (hr:=hr) (own:=own) (fuel:=fuel) K.tr
 have k3:=aoQ nG nL (d:=d) (w:=false) (w1:=false) (w2:=false) (hr:=hr) (own:=own) (fuel:=fuel) K.con
 have k4:=akZ nG nL (s:=s) (w:=false) (w1:=false) (w2:=false) (w3:=false) (own:=own) (fuel:=fuel) K.h0 K.hx K.inn K.out
 have k5:=amW nG nL (s:=s) (w:=false) (w1:=false) (w2:=false) (w3:=false) (own:=own) (fuel:=fuel) K.h0 K.hx
 have k6:=axI nG nL (s:=s) (d:=d) (w:=false) (w1:=false) (w2:=false) (w3:=false) (hr:=hr) (own:=eJ [] x own) (fuel:=fuel)
 have k7:=anD nG nL (d:=d) (w:=false) (w1:=false) (w2:=false) (w3:=false) (hr:=hr) (own:=eJ [] x own) (fuel:=fuel) K.con
 have b5:=pC 5
 have b6:=pC 6
 have b7:=pC 7
 have b8:=pC 8
 simp only[sJ,xH,List.map_cons,aeH]at b5 b6 b7 b8
 have c0:=aiY
 have c1:=aiL
 have c2:=mB
 have c3:=pH (l:=[]) (nn:=true) (by simp) (by simp)
 simp only[aeH,An,aeM,Ap.cells]at *
 cases nG<;>cases nL<;>cases nO<;>simp only[Gi,An,zg,zi,zl,zo,zb]at *
 all_goals
  refine Je rfl Tryz.func64 rfl rfl ?_
  simp only[Tryz.f64]
  (have hb:=trivial;with_reducible repeat' (first|simp only[hb,Vc.down,seval,cV.down,c0,c1,c2,c3,Aj,aq8,b5,b6,b7,b8,k1,k2,k3,k4,k5,k6,k7]|refine Af ?_ ?_<;>intro hb|refine fd ?_|refine yO ?_|fail))
  first
  |exact⟨false,false,_,.inl ⟨rfl,rfl⟩⟩
  |exact⟨_,false,_,.inr (.inl ⟨rfl,rfl⟩)⟩
  |exact⟨false,_,_,.inr (.inr (.inl ⟨rfl,rfl⟩))⟩
  |exact⟨_,_,_,.inr (.inr (.inr ⟨rfl,rfl⟩))⟩
end Go.Proofs.YtdbiogihimdpcaaGreatDoor
