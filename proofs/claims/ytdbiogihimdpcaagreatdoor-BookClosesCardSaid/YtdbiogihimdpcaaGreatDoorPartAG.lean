/- The functions of the layer, walked. -/
import Derived.Test.YtdbiogihimdpcaaGreatDoorPartAF
import Derived.Test.YtdbiogihimdpcaaGreatDoorPartAE
open List renaming length_set→aaE,nil_append→abH,cons_append→abI,append_assoc→ab1,getElem?_append_left→acM,getElem?_append_right→acT,getElem?_set_ne→acZ,getElem?_set_self→adA,getElem?_cons_zero→adJ,getElem?_cons_succ→adK,replicate→adL,map_nil→adM,length_nil→adN,length_eq_zero_iff→adO
open Nat renaming sub_self→adF,add_sub_cancel_left→adI
set_option linter.unusedSimpArgs false
set_option linter.unusedVariables false
namespace Go.Proofs.YtdbiogihimdpcaaGreatDoor
open Go.Ev Go
set_option maxRecDepth 100000
set_option maxHeartbeats 16000000
def HsB(s:Ac)(d:Ao)(hr own fuel:Int)(G L:List Int)(O:List Ab)(R:List Int)(W:List Int)(r:Nat)(h:Aa):Prop:=
 6<r∧G.length=s.cons.length∧L.length=s.cons.length∧W.length=s.cons.length∧∃w w1 w2 ov rv iw w4,h[r]?=some (.live 19 false w [(rc s d hr (.slr 1 5 0 s.cons.length) own fuel (.slr 1 6 0 s.cons.length) ov (.slr 1 iw 0 s.cons.length) .nils .nils rv)])∧h[5]?=some (.live 1 true w1 (G.map iv))∧h[6]?=some (.live 1 true w2 (L.map iv))∧OvS O ov h∧RvS R rv [iw] h∧h[iw]?=some (.live 1 true w4 (W.map iv))∧6<iw
def HsC(s:Ac)(d:Ao)(hr own fuel:Int)(G L:List Int)(O:List Ab)(R:List Int)(W A:List Int)(r:Nat)(h:Aa):Prop:=
 6<r∧G.length=s.cons.length∧L.length=s.cons.length∧W.length=s.cons.length∧A.length=s.cons.length∧∃w w1 w2 ov rv iw ia w4 w6,h[r]?=some (.live 19 false w [(rc s d hr (.slr 1 5 0 s.cons.length) own fuel (.slr 1 6 0 s.cons.length) ov (.slr 1 iw 0 s.cons.length) (.slr 1 ia 0 s.cons.length) .nils rv)])∧h[5]?=some (.live 1 true w1 (G.map iv))∧h[6]?=some (.live 1 true w2 (L.map iv))∧OvS O ov h∧RvS R rv [iw,ia] h∧h[iw]?=some (.live 1 true w4 (W.map iv))∧6<iw∧h[ia]?=some (.live 1 true w6 (A.map iv))∧6<ia∧iw≠ia
def HsD(s:Ac)(d:Ao)(hr own fuel:Int)(G L:List Int)(O:List Ab)(R:List Int)(W A F:List Int)(r:Nat)(h:Aa):Prop:=
 6<r∧G.length=s.cons.length∧L.length=s.cons.length∧W.length=s.cons.length∧A.length=s.cons.length∧F.length=s.cons.length∧∃w w1 w2 ov rv iw ia jf w4 w6 w7,h[r]?=some (.live 19 false w [(rc s d hr (.slr 1 5 0 s.cons.length) own fuel (.slr 1 6 0 s.cons.length) ov (.slr 1 iw 0 s.cons.length) (.slr 1 ia 0 s.cons.length) (.slr 1 jf 0 s.cons.length) rv)])∧h[5]?=some (.live 1 true w1 (G.map iv))∧h[6]?=some (.live 1 true w2 (L.map iv))∧OvS O ov h∧RvS R rv [iw,ia,jf] h∧h[iw]?=some (.live 1 true w4 (W.map iv))∧6<iw∧h[ia]?=some (.live 1 true w6 (A.map iv))∧6<ia∧h[jf]?=some (.live 1 true w7 (F.map iv))∧6<jf∧iw≠ia∧iw≠jf∧ia≠jf
theorem cX(s:Ac)(d:Ao)(hr:Int)(G:List Int):∀(cs:List Ag) (i:Nat) (a:List Int),(Jc (Bt s d hr G) cs i a).length=a.length
 | [],_,_=>rfl
 |c::cs,i,a=>by
  simp only[Jc]
  rw[cX s d hr G cs]
  unfold Bt;split<;>(try split)<;>simp[Bi]
theorem Wj(hr:Int)(F W A:List Int):∀(cs:List Ag) (i:Nat) (a:List Int),(Jc (Br hr F W A) cs i a).length=a.length
 | [],_,_=>rfl
 |c::cs,i,a=>by
  simp only[Jc]
  rw[Wj hr F W A cs,Np]
theorem Zg(f:Int):∀(F:List Int) (i:Nat) (G:List Int) (fu:Int),(Gs f F i (G,fu)).1.length=G.length
 | [],_,_,_=>rfl
 |n::F,i,G,fu=>by simp only[Gs];rw[Zg f F,Bi]
theorem ahU{s:Ac}{d:Ao}{hr own fuel:Int}{h:Aa}{r:Nat}{G L:List Int}{O:List Ab}{R:List Int}(hl:s.cons.length≤1000)(hn:d.noms.length≤1000)(hc:∀c∈s.cons,acH c)(H:HsA s d hr own fuel G L O R r h):
 ∃es,cl Bo h (some (.func (.func 106) [.ptr r 0 0] [])) (some [])=some (.ret (.tup []),es)∧yN h (Ar h es)∧
  HsB s d hr own fuel G L O R (Jc (Bt s d hr G) s.cons 0 (adL s.cons.length 0)) r (Ar h es):=by
 obtain⟨hr6,hG,hL,w,w1,w2,ov,rv,hR,hg,hb,hov,hrv⟩:=H
 have l1:=Eb hR
 have l2:=Eb hg
 have l3:=Eb hb
 have hWl:(Jc (Bt s d hr G) s.cons 0 (adL s.cons.length 0)).length=s.cons.length:=by rw[cX];simp
 rcases hov with⟨rfl,rfl⟩|⟨io,w3,rfl,hio,hio6⟩<;>rcases hrv with⟨rfl,rfl⟩|⟨iq,w5,hRn,rfl,hiq,hiq6,hqx⟩
 ·have n_0_1:(r=5)=False:=eq_false (by omega)
  have n_0_2:(r=6)=False:=eq_false (by omega)
  obtain⟨o,h',e,rfl,ww,rfl⟩:=ajA (s:=s) (d:=d) (hr:=hr) (own:=own) (fuel:=fuel) (G:=G) (L:=L) (O:=[]) (R:=[]) (w:=false) (w1:=false) (w2:=false) (w3:=false) (w5:=false) hG hl hn hc
  simp only[hG,hL,abI,abH]at e
  refine⟨_,by simp only[Vc.down,seval,hR,hg,hb,n_0_1,n_0_2,e];exact rfl,?_⟩
  simp only[Ar,Cb]
  refine⟨fun x hx=>by((try simp (discharger:=((try simp only[aaE]);omega)) only[ab1,abI,abH,acM,acT,acZ,adA,aaE,adF,adI,adJ,adK])<;>(first|exact rfl|exact rfl)),hr6,hG,hL,hWl,true,w1,w2,.nils,.nils,h.length,ww,?_,?_,?_,.inl ⟨rfl,rfl⟩,.inl ⟨rfl,rfl⟩,?_,by omega⟩
  all_goals ((try simp (discharger:=((try simp only[aaE]);omega)) only[ab1,abI,abH,acM,acT,acZ,adA,aaE,adF,adI,adJ,adK])<;>(first|exact rfl|exact hR|exact hg|exact hb))
 ·have n_0_1:(r=5)=False:=eq_false (by omega)
  have n_0_2:(r=6)=False:=eq_false (by omega)
  have n_0_3:(r=iq)=False:=eq_false fun e=>by subst e;rw[hR]at hiq;simp at hiq
  have qn_0_3:r≠iq:=of_eq_false n_0_3
  have n_1_3:(5=iq)=False:=eq_false (by omega)
  have n_2_3:(6=iq)=False:=eq_false (by omega)
  have l5:=Eb hiq
  obtain⟨o,h',e,rfl,ww,rfl⟩:=af2 (s:=s) (d:=d) (hr:=hr) (own:=own) (fuel:=fuel) (G:=G) (L:=L) (O:=[]) (R:=R) (w:=false) (w1:=false) (w2:=false) (w3:=false) (w5:=false) hG hl hn hc
  simp only[hG,hL,abI,abH]at e
  refine⟨_,by simp only[Vc.down,seval,hR,hg,hb,hiq,n_0_1,n_0_2,n_0_3,n_1_3,n_2_3,e];exact rfl,?_⟩
  simp only[Ar,Cb]
  refine⟨fun x hx=>by((try simp (discharger:=((try simp only[aaE]);omega)) only[ab1,abI,abH,acM,acT,acZ,adA,aaE,adF,adI,adJ,adK])<;>(first|exact rfl|exact rfl)),hr6,hG,hL,hWl,true,w1,w2,.nils,.slr 1 iq 0 R.length,h.length,ww,?_,?_,?_,.inl ⟨rfl,rfl⟩,.inr ⟨iq,w5,hRn,rfl,?_,hiq6,by simp;omega⟩,?_,by omega⟩
  all_goals ((try simp (discharger:=((try simp only[aaE]);omega)) only[ab1,abI,abH,acM,acT,acZ,adA,aaE,adF,adI,adJ,adK])<;>(first|exact rfl|exact hR|exact hg|exact hb|exact hiq))
 ·have n_0_1:(r=5)=False:=eq_false (by omega)
  have n_0_2:(r=6)=False:=eq_false (by omega)
  have n_0_3:(r=io)=False:=eq_false fun e=>by subst e;rw[hR]at hio;simp at hio
  have qn_0_3:r≠io:=of_eq_false n_0_3
  have n_1_3:(5=io)=False:=eq_false (by omega)
  have n_2_3:(6=io)=False:=eq_false (by omega)
  have l4:=Eb hio
  obtain⟨o,h',e,rfl,ww,rfl⟩:=agJ (s:=s) (d:=d) (hr:=hr) (own:=own) (fuel:=fuel) (G:=G) (L:=L) (O:=O) (R:=[]) (w:=false) (w1:=false) (w2:=false) (w3:=false) (w5:=false) hG hl hn hc
  simp only[hG,hL,abI,abH]at e
  refine⟨_,by simp only[Vc.down,seval,hR,hg,hb,hio,n_0_1,n_0_2,n_0_3,n_1_3,n_2_3,e];exact rfl,?_⟩
  simp only[Ar,Cb]
  refine⟨fun x hx=>by((try simp (discharger:=((try simp only[aaE]);omega)) only[ab1,abI,abH,acM,acT,acZ,adA,aaE,adF,adI,adJ,adK])<;>(first|exact rfl|exact rfl)),hr6,hG,hL,hWl,true,w1,w2,.slr 5 io 0 O.length,.nils,h.length,ww,?_,?_,?_,.inr ⟨io,w3,rfl,?_,hio6⟩,.inl ⟨rfl,rfl⟩,?_,by omega⟩
  all_goals ((try simp (discharger:=((try simp only[aaE]);omega)) only[ab1,abI,abH,acM,acT,acZ,adA,aaE,adF,adI,adJ,adK])<;>(first|exact rfl|exact hR|exact hg|exact hb|exact hio))
 ·have n_0_1:(r=5)=False:=eq_false (by omega)
  have n_0_2:(r=6)=False:=eq_false (by omega)
  have n_0_3:(r=io)=False:=eq_false fun e=>by subst e;rw[hR]at hio;simp at hio
  have qn_0_3:r≠io:=of_eq_false n_0_3
  have n_0_4:(r=iq)=False:=eq_false fun e=>by subst e;rw[hR]at hiq;simp at hiq
  have qn_0_4:r≠iq:=of_eq_false n_0_4
  have n_1_3:(5=io)=False:=eq_false (by omega)
  have n_1_4:(5=iq)=False:=eq_false (by omega)
  have n_2_3:(6=io)=False:=eq_false (by omega)
  have n_2_4:(6=iq)=False:=eq_false (by omega)
  have n_3_4:(io=iq)=False:=eq_false fun e=>by subst e;rw[hio]at hiq;simp at hiq
  have qn_3_4:io≠iq:=of_eq_false n_3_4
  have l4:=Eb hio
  have l5:=Eb hiq
  obtain⟨o,h',e,rfl,ww,rfl⟩:=aiW (s:=s) (d:=d) (hr:=hr) (own:=own) (fuel:=fuel) (G:=G) (L:=L) (O:=O) (R:=R) (w:=false) (w1:=false) (w2:=false) (w3:=false) (w5:=false) hG hl hn hc
  simp only[hG,hL,abI,abH]at e
  refine⟨_,by simp only[Vc.down,seval,hR,hg,hb,hio,hiq,n_0_1,n_0_2,n_0_3,n_0_4,n_1_3,n_1_4,n_2_3,n_2_4,n_3_4,e];exact rfl,?_⟩
  simp only[Ar,Cb]
  refine⟨fun x hx=>by((try simp (discharger:=((try simp only[aaE]);omega)) only[ab1,abI,abH,acM,acT,acZ,adA,aaE,adF,adI,adJ,adK])<;>(first|exact rfl|exact rfl)),hr6,hG,hL,hWl,true,w1,w2,.slr 5 io 0 O.length,.slr 1 iq 0 R.length,h.length,ww,?_,?_,?_,.inr ⟨io,w3,rfl,?_,hio6⟩,.inr ⟨iq,w5,hRn,rfl,?_,hiq6,by simp;omega⟩,?_,by omega⟩
  all_goals ((try simp (discharger:=((try simp only[aaE]);omega)) only[ab1,abI,abH,acM,acT,acZ,adA,aaE,adF,adI,adJ,adK])<;>(first|exact rfl|exact hR|exact hg|exact hb|exact hio|exact hiq))
theorem abS{s:Ac}{d:Ao}{hr own fuel:Int}{h:Aa}{r:Nat}{G L:List Int}{O:List Ab}{R W:List Int}{x:Aw}(hl:s.cons.length≤1000)(hn0:s.cons≠[])(h0:0≤hr)(hx:d.hours[hr.toNat]?=some x)(H:HsB s d hr own fuel G L O R W r h):
 ∃es,cl Bo h (some (.func (.func 107) [.ptr r 0 0] [])) (some [])=some (.ret (.tup []),es)∧yN h (Ar h es)∧
  HsC s d hr own fuel G L O R W (Gk Fj s.cons W x.inn x.out) r (Ar h es):=by
 obtain⟨hr6,hG,hL,hWl,w,w1,w2,ov,rv,iw,w4,hR,hg,hb,hov,hrv,hw,hw6⟩:=H
 have l1:=Eb hR
 have l2:=Eb hg
 have l3:=Eb hb
 have lw0:=Eb hw
 have hW0:W≠[]:=fun e=>hn0 (adO.1 (by rw[←hWl,e];rfl))
 have hAl:(Gk Fj s.cons W x.inn x.out).length=s.cons.length:=by simp[Gk,Uy,hWl]
 rcases hov with⟨rfl,rfl⟩|⟨io,w3,rfl,hio,hio6⟩<;>rcases hrv with⟨rfl,rfl⟩|⟨iq,w5,hRn,rfl,hiq,hiq6,hqx⟩
 ·have n_0_1:(r=5)=False:=eq_false (by omega)
  have n_0_2:(r=6)=False:=eq_false (by omega)
  have n_0_3:(r=iw)=False:=eq_false fun e=>by subst e;rw[hR]at hw;simp at hw
  have qn_0_3:r≠iw:=of_eq_false n_0_3
  have n_1_3:(5=iw)=False:=eq_false (by omega)
  have n_2_3:(6=iw)=False:=eq_false (by omega)
  obtain⟨o,h',e,rfl,rfl⟩:=aaM (s:=s) (d:=d) (hr:=hr) (own:=own) (fuel:=fuel) (G:=G) (L:=L) (O:=[]) (R:=[]) (W:=W) (w:=false) (w1:=false) (w2:=false) (w3:=false) (w5:=false) (w4:=false) hWl (by omega) hW0 h0 hx
  simp only[hG,hL,hWl,abI,abH]at e
  refine⟨_,by simp only[Vc.down,seval,hR,hg,hb,hw,n_0_1,n_0_2,n_0_3,n_1_3,n_2_3,e];exact rfl,?_⟩
  simp only[Ar,Cb]
  refine⟨fun x hx=>by((try simp (discharger:=((try simp only[aaE]);omega)) only[ab1,abI,abH,acM,acT,acZ,adA,aaE,adF,adI,adJ,adK])<;>(first|exact rfl|exact rfl)),hr6,hG,hL,hWl,hAl,true,w1,w2,.nils,.nils,iw,h.length,w4,false,?_,?_,?_,.inl ⟨rfl,rfl⟩,.inl ⟨rfl,rfl⟩,?_,hw6,?_,by omega,by omega⟩
  all_goals ((try simp (discharger:=((try simp only[aaE]);omega)) only[ab1,abI,abH,acM,acT,acZ,adA,aaE,adF,adI,adJ,adK])<;>(first|exact rfl|exact hR|exact hg|exact hb|exact hw))
 ·have n_0_1:(r=5)=False:=eq_false (by omega)
  have n_0_2:(r=6)=False:=eq_false (by omega)
  have n_0_3:(r=iw)=False:=eq_false fun e=>by subst e;rw[hR]at hw;simp at hw
  have qn_0_3:r≠iw:=of_eq_false n_0_3
  have n_0_4:(r=iq)=False:=eq_false fun e=>by subst e;rw[hR]at hiq;simp at hiq
  have qn_0_4:r≠iq:=of_eq_false n_0_4
  have n_1_3:(5=iw)=False:=eq_false (by omega)
  have n_1_4:(5=iq)=False:=eq_false (by omega)
  have n_2_3:(6=iw)=False:=eq_false (by omega)
  have n_2_4:(6=iq)=False:=eq_false (by omega)
  have n_3_4:(iw=iq)=False:=eq_false fun e=>by subst e;simp at hqx
  have qn_3_4:iw≠iq:=of_eq_false n_3_4
  have l5:=Eb hiq
  obtain⟨o,h',e,rfl,rfl⟩:=abZ (s:=s) (d:=d) (hr:=hr) (own:=own) (fuel:=fuel) (G:=G) (L:=L) (O:=[]) (R:=R) (W:=W) (w:=false) (w1:=false) (w2:=false) (w3:=false) (w5:=false) (w4:=false) hWl (by omega) hW0 h0 hx
  simp only[hG,hL,hWl,abI,abH]at e
  refine⟨_,by simp only[Vc.down,seval,hR,hg,hb,hw,hiq,n_0_1,n_0_2,n_0_3,n_0_4,n_1_3,n_1_4,n_2_3,n_2_4,n_3_4,e];exact rfl,?_⟩
  simp only[Ar,Cb]
  refine⟨fun x hx=>by((try simp (discharger:=((try simp only[aaE]);omega)) only[ab1,abI,abH,acM,acT,acZ,adA,aaE,adF,adI,adJ,adK])<;>(first|exact rfl|exact rfl)),hr6,hG,hL,hWl,hAl,true,w1,w2,.nils,.slr 1 iq 0 R.length,iw,h.length,w4,false,?_,?_,?_,.inl ⟨rfl,rfl⟩,.inr ⟨iq,w5,hRn,rfl,?_,hiq6,by simp;omega⟩,?_,hw6,?_,by omega,by omega⟩
  all_goals ((try simp (discharger:=((try simp only[aaE]);omega)) only[ab1,abI,abH,acM,acT,acZ,adA,aaE,adF,adI,adJ,adK])<;>(first|exact rfl|exact hR|exact hg|exact hb|exact hw|exact hiq))
 ·have n_0_1:(r=5)=False:=eq_false (by omega)
  have n_0_2:(r=6)=False:=eq_false (by omega)
  have n_0_3:(r=io)=False:=eq_false fun e=>by subst e;rw[hR]at hio;simp at hio
  have qn_0_3:r≠io:=of_eq_false n_0_3
  have n_0_4:(r=iw)=False:=eq_false fun e=>by subst e;rw[hR]at hw;simp at hw
  have qn_0_4:r≠iw:=of_eq_false n_0_4
  have n_1_3:(5=io)=False:=eq_false (by omega)
  have n_1_4:(5=iw)=False:=eq_false (by omega)
  have n_2_3:(6=io)=False:=eq_false (by omega)
  have n_2_4:(6=iw)=False:=eq_false (by omega)
  have n_3_4:(io=iw)=False:=eq_false fun e=>by subst e;rw[hio]at hw;simp at hw
  have qn_3_4:io≠iw:=of_eq_false n_3_4
  have l4:=Eb hio
  obtain⟨o,h',e,rfl,rfl⟩:=aaC (s:=s) (d:=d) (hr:=hr) (own:=own) (fuel:=fuel) (G:=G) (L:=L) (O:=O) (R:=[]) (W:=W) (w:=false) (w1:=false) (w2:=false) (w3:=false) (w5:=false) (w4:=false) hWl (by omega) hW0 h0 hx
  simp only[hG,hL,hWl,abI,abH]at e
  refine⟨_,by simp only[Vc.down,seval,hR,hg,hb,hio,hw,n_0_1,n_0_2,n_0_3,n_0_4,n_1_3,n_1_4,n_2_3,n_2_4,n_3_4,e];exact rfl,?_⟩
  simp only[Ar,Cb]
  refine⟨fun x hx=>by((try simp (discharger:=((try simp only[aaE]);omega)) only[ab1,abI,abH,acM,acT,acZ,adA,aaE,adF,adI,adJ,adK])<;>(first|exact rfl|exact rfl)),hr6,hG,hL,hWl,hAl,true,w1,w2,.slr 5 io 0 O.length,.nils,iw,h.length,w4,false,?_,?_,?_,.inr ⟨io,w3,rfl,?_,hio6⟩,.inl ⟨rfl,rfl⟩,?_,hw6,?_,by omega,by omega⟩
  all_goals ((try simp (discharger:=((try simp only[aaE]);omega)) only[ab1,abI,abH,acM,acT,acZ,adA,aaE,adF,adI,adJ,adK])<;>(first|exact rfl|exact hR|exact hg|exact hb|exact hio|exact hw))
 ·have n_0_1:(r=5)=False:=eq_false (by omega)
  have n_0_2:(r=6)=False:=eq_false (by omega)
  have n_0_3:(r=io)=False:=eq_false fun e=>by subst e;rw[hR]at hio;simp at hio
  have qn_0_3:r≠io:=of_eq_false n_0_3
  have n_0_4:(r=iw)=False:=eq_false fun e=>by subst e;rw[hR]at hw;simp at hw
  have qn_0_4:r≠iw:=of_eq_false n_0_4
  have n_0_5:(r=iq)=False:=eq_false fun e=>by subst e;rw[hR]at hiq;simp at hiq
  have qn_0_5:r≠iq:=of_eq_false n_0_5
  have n_1_3:(5=io)=False:=eq_false (by omega)
  have n_1_4:(5=iw)=False:=eq_false (by omega)
  have n_1_5:(5=iq)=False:=eq_false (by omega)
  have n_2_3:(6=io)=False:=eq_false (by omega)
  have n_2_4:(6=iw)=False:=eq_false (by omega)
  have n_2_5:(6=iq)=False:=eq_false (by omega)
  have n_3_4:(io=iw)=False:=eq_false fun e=>by subst e;rw[hio]at hw;simp at hw
  have qn_3_4:io≠iw:=of_eq_false n_3_4
  have n_3_5:(io=iq)=False:=eq_false fun e=>by subst e;rw[hio]at hiq;simp at hiq
  have qn_3_5:io≠iq:=of_eq_false n_3_5
  have n_4_5:(iw=iq)=False:=eq_false fun e=>by subst e;simp at hqx
  have qn_4_5:iw≠iq:=of_eq_false n_4_5
  have l4:=Eb hio
  have l5:=Eb hiq
  obtain⟨o,h',e,rfl,rfl⟩:=aaU (s:=s) (d:=d) (hr:=hr) (own:=own) (fuel:=fuel) (G:=G) (L:=L) (O:=O) (R:=R) (W:=W) (w:=false) (w1:=false) (w2:=false) (w3:=false) (w5:=false) (w4:=false) hWl (by omega) hW0 h0 hx
  simp only[hG,hL,hWl,abI,abH]at e
  refine⟨_,by simp only[Vc.down,seval,hR,hg,hb,hio,hw,hiq,n_0_1,n_0_2,n_0_3,n_0_4,n_0_5,n_1_3,n_1_4,n_1_5,n_2_3,n_2_4,n_2_5,n_3_4,n_3_5,n_4_5,e];exact rfl,?_⟩
  simp only[Ar,Cb]
  refine⟨fun x hx=>by((try simp (discharger:=((try simp only[aaE]);omega)) only[ab1,abI,abH,acM,acT,acZ,adA,aaE,adF,adI,adJ,adK])<;>(first|exact rfl|exact rfl)),hr6,hG,hL,hWl,hAl,true,w1,w2,.slr 5 io 0 O.length,.slr 1 iq 0 R.length,iw,h.length,w4,false,?_,?_,?_,.inr ⟨io,w3,rfl,?_,hio6⟩,.inr ⟨iq,w5,hRn,rfl,?_,hiq6,by simp;omega⟩,?_,hw6,?_,by omega,by omega⟩
  all_goals ((try simp (discharger:=((try simp only[aaE]);omega)) only[ab1,abI,abH,acM,acT,acZ,adA,aaE,adF,adI,adJ,adK])<;>(first|exact rfl|exact hR|exact hg|exact hb|exact hio|exact hw|exact hiq))
theorem ajK{s:Ac}{d:Ao}{hr own fuel:Int}{h:Aa}{r:Nat}{G L:List Int}{O:List Ab}{R W A:List Int}{x:Aw}(hl:s.cons.length≤1000)(hn0:s.cons≠[])(h0:0≤hr)(hx:d.hours[hr.toNat]?=some x)(H:HsC s d hr own fuel G L O R W A r h):
 ∃es,cl Bo h (some (.func (.func 108) [.ptr r 0 0] [])) (some [])=some (.ret (.tup []),es)∧yN h (Ar h es)∧
  HsD s d hr (cD A x own) fuel G L O R W A (Ym A x) r (Ar h es):=by
 obtain⟨hr6,hG,hL,hWl,hAl,w,w1,w2,ov,rv,iw,ia,w4,w6,hR,hg,hb,hov,hrv,hw,hw6,ha,ha6,d01⟩:=H
 have l1:=Eb hR
 have l2:=Eb hg
 have l3:=Eb hb
 have lw0:=Eb hw
 have lw1:=Eb ha
 have hA0:A≠[]:=fun e=>hn0 (adO.1 (by rw[←hAl,e];rfl))
 have hFl:(Ym A x).length=s.cons.length:=by simp[Ym,Bq,Dy,hAl]
 rcases hov with⟨rfl,rfl⟩|⟨io,w3,rfl,hio,hio6⟩<;>rcases hrv with⟨rfl,rfl⟩|⟨iq,w5,hRn,rfl,hiq,hiq6,hqx⟩
 ·have n_0_1:(r=5)=False:=eq_false (by omega)
  have n_0_2:(r=6)=False:=eq_false (by omega)
  have n_0_3:(r=iw)=False:=eq_false fun e=>by subst e;rw[hR]at hw;simp at hw
  have qn_0_3:r≠iw:=of_eq_false n_0_3
  have n_0_4:(r=ia)=False:=eq_false fun e=>by subst e;rw[hR]at ha;simp at ha
  have qn_0_4:r≠ia:=of_eq_false n_0_4
  have n_1_3:(5=iw)=False:=eq_false (by omega)
  have n_1_4:(5=ia)=False:=eq_false (by omega)
  have n_2_3:(6=iw)=False:=eq_false (by omega)
  have n_2_4:(6=ia)=False:=eq_false (by omega)
  have n_3_4:(iw=ia)=False:=eq_false d01
  have qn_3_4:iw≠ia:=of_eq_false n_3_4
  obtain⟨o,h',e,rfl,rfl⟩:=aeK (s:=s) (d:=d) (hr:=hr) (own:=own) (fuel:=fuel) (G:=G) (L:=L) (O:=[]) (R:=[]) (W:=W) (A:=A) (w:=false) (w1:=false) (w2:=false) (w3:=false) (w5:=false) (w4:=false) (w6:=false) (by omega) hA0 h0 hx
  simp only[hG,hL,hWl,hAl,abI,abH]at e
  refine⟨_,by simp only[Vc.down,seval,hR,hg,hb,hw,ha,n_0_1,n_0_2,n_0_3,n_0_4,n_1_3,n_1_4,n_2_3,n_2_4,n_3_4,e];exact rfl,?_⟩
  simp only[Ar,Cb]
  refine⟨fun x hx=>by((try simp (discharger:=((try simp only[aaE]);omega)) only[ab1,abI,abH,acM,acT,acZ,adA,aaE,adF,adI,adJ,adK])<;>(first|exact rfl|exact rfl)),hr6,hG,hL,hWl,hAl,hFl,true,w1,w2,.nils,.nils,iw,ia,h.length,w4,w6,false,?_,?_,?_,.inl ⟨rfl,rfl⟩,.inl ⟨rfl,rfl⟩,?_,hw6,?_,ha6,?_,by omega,d01,by omega,by omega⟩
  all_goals ((try simp (discharger:=((try simp only[aaE]);omega)) only[ab1,abI,abH,acM,acT,acZ,adA,aaE,adF,adI,adJ,adK])<;>(first|exact rfl|exact hR|exact hg|exact hb|exact hw|exact ha))
 ·have n_0_1:(r=5)=False:=eq_false (by omega)
  have n_0_2:(r=6)=False:=eq_false (by omega)
  have n_0_3:(r=iw)=False:=eq_false fun e=>by subst e;rw[hR]at hw;simp at hw
  have qn_0_3:r≠iw:=of_eq_false n_0_3
  have n_0_4:(r=ia)=False:=eq_false fun e=>by subst e;rw[hR]at ha;simp at ha
  have qn_0_4:r≠ia:=of_eq_false n_0_4
  have n_0_5:(r=iq)=False:=eq_false fun e=>by subst e;rw[hR]at hiq;simp at hiq
  have qn_0_5:r≠iq:=of_eq_false n_0_5
  have n_1_3:(5=iw)=False:=eq_false (by omega)
  have n_1_4:(5=ia)=False:=eq_false (by omega)
  have n_1_5:(5=iq)=False:=eq_false (by omega)
  have n_2_3:(6=iw)=False:=eq_false (by omega)
  have n_2_4:(6=ia)=False:=eq_false (by omega)
  have n_2_5:(6=iq)=False:=eq_false (by omega)
  have n_3_4:(iw=ia)=False:=eq_false d01
  have qn_3_4:iw≠ia:=of_eq_false n_3_4
  have n_3_5:(iw=iq)=False:=eq_false fun e=>by subst e;simp at hqx
  have qn_3_5:iw≠iq:=of_eq_false n_3_5
  have n_4_5:(ia=iq)=False:=eq_false fun e=>by subst e;simp at hqx
  have qn_4_5:ia≠iq:=of_eq_false n_4_5
  have l5:=Eb hiq
  obtain⟨o,h',e,rfl,rfl⟩:=agE (s:=s) (d:=d) (hr:=hr) (own:=own) (fuel:=fuel) (G:=G) (L:=L) (O:=[]) (R:=R) (W:=W) (A:=A) (w:=false) (w1:=false) (w2:=false) (w3:=false) (w5:=false) (w4:=false) (w6:=false) (by omega) hA0 h0 hx
  simp only[hG,hL,hWl,hAl,abI,abH]at e
  refine⟨_,by simp only[Vc.down,seval,hR,hg,hb,hw,ha,hiq,n_0_1,n_0_2,n_0_3,n_0_4,n_0_5,n_1_3,n_1_4,n_1_5,n_2_3,n_2_4,n_2_5,n_3_4,n_3_5,n_4_5,e];exact rfl,?_⟩
  simp only[Ar,Cb]
  refine⟨fun x hx=>by((try simp (discharger:=((try simp only[aaE]);omega)) only[ab1,abI,abH,acM,acT,acZ,adA,aaE,adF,adI,adJ,adK])<;>(first|exact rfl|exact rfl)),hr6,hG,hL,hWl,hAl,hFl,true,w1,w2,.nils,.slr 1 iq 0 R.length,iw,ia,h.length,w4,w6,false,?_,?_,?_,.inl ⟨rfl,rfl⟩,.inr ⟨iq,w5,hRn,rfl,?_,hiq6,by simp at hqx ⊢;omega⟩,?_,hw6,?_,ha6,?_,by omega,d01,by omega,by omega⟩
  all_goals ((try simp (discharger:=((try simp only[aaE]);omega)) only[ab1,abI,abH,acM,acT,acZ,adA,aaE,adF,adI,adJ,adK])<;>(first|exact rfl|exact hR|exact hg|exact hb|exact hw|exact ha|exact hiq))
 ·have n_0_1:(r=5)=False:=eq_false (by omega)
  have n_0_2:(r=6)=False:=eq_false (by omega)
  have n_0_3:(r=io)=False:=eq_false fun e=>by subst e;rw[hR]at hio;simp at hio
  have qn_0_3:r≠io:=of_eq_false n_0_3
  have n_0_4:(r=iw)=False:=eq_false fun e=>by subst e;rw[hR]at hw;simp at hw
  have qn_0_4:r≠iw:=of_eq_false n_0_4
  have n_0_5:(r=ia)=False:=eq_false fun e=>by subst e;rw[hR]at ha;simp at ha
  have qn_0_5:r≠ia:=of_eq_false n_0_5
  have n_1_3:(5=io)=False:=eq_false (by omega)
  have n_1_4:(5=iw)=False:=eq_false (by omega)
  have n_1_5:(5=ia)=False:=eq_false (by omega)
  have n_2_3:(6=io)=False:=eq_false (by omega)
  have n_2_4:(6=iw)=False:=eq_false (by omega)
  have n_2_5:(6=ia)=False:=eq_false (by omega)
  have n_3_4:(io=iw)=False:=eq_false fun e=>by subst e;rw[hio]at hw;simp at hw
  have qn_3_4:io≠iw:=of_eq_false n_3_4
  have n_3_5:(io=ia)=False:=eq_false fun e=>by subst e;rw[hio]at ha;simp at ha
  have qn_3_5:io≠ia:=of_eq_false n_3_5
  have n_4_5:(iw=ia)=False:=eq_false d01
  have qn_4_5:iw≠ia:=of_eq_false n_4_5
  have l4:=Eb hio
  obtain⟨o,h',e,rfl,rfl⟩:=aeA (s:=s) (d:=d) (hr:=hr) (own:=own) (fuel:=fuel) (G:=G) (L:=L) (O:=O) (R:=[]) (W:=W) (A:=A) (w:=false) (w1:=false) (w2:=false) (w3:=false) (w5:=false) (w4:=false) (w6:=false) (by omega) hA0 h0 hx
  simp only[hG,hL,hWl,hAl,abI,abH]at e
  refine⟨_,by simp only[Vc.down,seval,hR,hg,hb,hio,hw,ha,n_0_1,n_0_2,n_0_3,n_0_4,n_0_5,n_1_3,n_1_4,n_1_5,n_2_3,n_2_4,n_2_5,n_3_4,n_3_5,n_4_5,e];exact rfl,?_⟩
  simp only[Ar,Cb]
  refine⟨fun x hx=>by((try simp (discharger:=((try simp only[aaE]);omega)) only[ab1,abI,abH,acM,acT,acZ,adA,aaE,adF,adI,adJ,adK])<;>(first|exact rfl|exact rfl)),hr6,hG,hL,hWl,hAl,hFl,true,w1,w2,.slr 5 io 0 O.length,.nils,iw,ia,h.length,w4,w6,false,?_,?_,?_,.inr ⟨io,w3,rfl,?_,hio6⟩,.inl ⟨rfl,rfl⟩,?_,hw6,?_,ha6,?_,by omega,d01,by omega,by omega⟩
  all_goals ((try simp (discharger:=((try simp only[aaE]);omega)) only[ab1,abI,abH,acM,acT,acZ,adA,aaE,adF,adI,adJ,adK])<;>(first|exact rfl|exact hR|exact hg|exact hb|exact hio|exact hw|exact ha))
 ·have n_0_1:(r=5)=False:=eq_false (by omega)
  have n_0_2:(r=6)=False:=eq_false (by omega)
  have n_0_3:(r=io)=False:=eq_false fun e=>by subst e;rw[hR]at hio;simp at hio
  have qn_0_3:r≠io:=of_eq_false n_0_3
  have n_0_4:(r=iw)=False:=eq_false fun e=>by subst e;rw[hR]at hw;simp at hw
  have qn_0_4:r≠iw:=of_eq_false n_0_4
  have n_0_5:(r=ia)=False:=eq_false fun e=>by subst e;rw[hR]at ha;simp at ha
  have qn_0_5:r≠ia:=of_eq_false n_0_5
  have n_0_6:(r=iq)=False:=eq_false fun e=>by subst e;rw[hR]at hiq;simp at hiq
  have qn_0_6:r≠iq:=of_eq_false n_0_6
  have n_1_3:(5=io)=False:=eq_false (by omega)
  have n_1_4:(5=iw)=False:=eq_false (by omega)
  have n_1_5:(5=ia)=False:=eq_false (by omega)
  have n_1_6:(5=iq)=False:=eq_false (by omega)
  have n_2_3:(6=io)=False:=eq_false (by omega)
  have n_2_4:(6=iw)=False:=eq_false (by omega)
  have n_2_5:(6=ia)=False:=eq_false (by omega)
  have n_2_6:(6=iq)=False:=eq_false (by omega)
  have n_3_4:(io=iw)=False:=eq_false fun e=>by subst e;rw[hio]at hw;simp at hw
  have qn_3_4:io≠iw:=of_eq_false n_3_4
  have n_3_5:(io=ia)=False:=eq_false fun e=>by subst e;rw[hio]at ha;simp at ha
  have qn_3_5:io≠ia:=of_eq_false n_3_5
  have n_3_6:(io=iq)=False:=eq_false fun e=>by subst e;rw[hio]at hiq;simp at hiq
  have qn_3_6:io≠iq:=of_eq_false n_3_6
  have n_4_5:(iw=ia)=False:=eq_false d01
  have qn_4_5:iw≠ia:=of_eq_false n_4_5
  have n_4_6:(iw=iq)=False:=eq_false fun e=>by subst e;simp at hqx
  have qn_4_6:iw≠iq:=of_eq_false n_4_6
  have n_5_6:(ia=iq)=False:=eq_false fun e=>by subst e;simp at hqx
  have qn_5_6:ia≠iq:=of_eq_false n_5_6
  have l4:=Eb hio
  have l5:=Eb hiq
  obtain⟨o,h',e,rfl,rfl⟩:=aiF (s:=s) (d:=d) (hr:=hr) (own:=own) (fuel:=fuel) (G:=G) (L:=L) (O:=O) (R:=R) (W:=W) (A:=A) (w:=false) (w1:=false) (w2:=false) (w3:=false) (w5:=false) (w4:=false) (w6:=false) (by omega) hA0 h0 hx
  simp only[hG,hL,hWl,hAl,abI,abH]at e
  refine⟨_,by simp only[Vc.down,seval,hR,hg,hb,hio,hw,ha,hiq,n_0_1,n_0_2,n_0_3,n_0_4,n_0_5,n_0_6,n_1_3,n_1_4,n_1_5,n_1_6,n_2_3,n_2_4,n_2_5,n_2_6,n_3_4,n_3_5,n_3_6,n_4_5,n_4_6,n_5_6,e];exact rfl,?_⟩
  simp only[Ar,Cb]
  refine⟨fun x hx=>by((try simp (discharger:=((try simp only[aaE]);omega)) only[ab1,abI,abH,acM,acT,acZ,adA,aaE,adF,adI,adJ,adK])<;>(first|exact rfl|exact rfl)),hr6,hG,hL,hWl,hAl,hFl,true,w1,w2,.slr 5 io 0 O.length,.slr 1 iq 0 R.length,iw,ia,h.length,w4,w6,false,?_,?_,?_,.inr ⟨io,w3,rfl,?_,hio6⟩,.inr ⟨iq,w5,hRn,rfl,?_,hiq6,by simp at hqx ⊢;omega⟩,?_,hw6,?_,ha6,?_,by omega,d01,by omega,by omega⟩
  all_goals ((try simp (discharger:=((try simp only[aaE]);omega)) only[ab1,abI,abH,acM,acT,acZ,adA,aaE,adF,adI,adJ,adK])<;>(first|exact rfl|exact hR|exact hg|exact hb|exact hio|exact hw|exact ha|exact hiq))
theorem apF{s:Ac}{d:Ao}{hr own fuel:Int}{h:Aa}{r:Nat}{G L:List Int}{O:List Ab}{R W A F:List Int}(hl:s.cons.length≤1000)(H:HsD s d hr own fuel G L O R W A F r h):
 ∃es,cl Bo h (some (.func (.func 109) [.ptr r 0 0] [])) (some [])=some (.ret (.tup []),es)∧yN h (Ar h es)∧
  HsD s d hr own (Gs s.fuel F 0 (G,fuel)).2 (Gs s.fuel F 0 (G,fuel)).1 L O R W A F r (Ar h es):=by
 obtain⟨hr6,hG,hL,hWl,hAl,hFl,w,w1,w2,ov,rv,iw,ia,jf,w4,w6,w7,hR,hg,hb,hov,hrv,hw,hw6,ha,ha6,hf,hf6,d01,d02,d12⟩:=H
 have l1:=Eb hR
 have l2:=Eb hg
 have l3:=Eb hb
 have lw0:=Eb hw
 have lw1:=Eb ha
 have lw2:=Eb hf
 have hGl:(Gs s.fuel F 0 (G,fuel)).1.length=s.cons.length:=by rw[Zg,hG]
 rcases hov with⟨rfl,rfl⟩|⟨io,w3,rfl,hio,hio6⟩<;>rcases hrv with⟨rfl,rfl⟩|⟨iq,w5,hRn,rfl,hiq,hiq6,hqx⟩
 ·have n_0_1:(r=5)=False:=eq_false (by omega)
  have n_0_2:(r=6)=False:=eq_false (by omega)
  have n_0_3:(r=iw)=False:=eq_false fun e=>by subst e;rw[hR]at hw;simp at hw
  have qn_0_3:r≠iw:=of_eq_false n_0_3
  have n_0_4:(r=ia)=False:=eq_false fun e=>by subst e;rw[hR]at ha;simp at ha
  have qn_0_4:r≠ia:=of_eq_false n_0_4
  have n_0_5:(r=jf)=False:=eq_false fun e=>by subst e;rw[hR]at hf;simp at hf
  have qn_0_5:r≠jf:=of_eq_false n_0_5
  have n_1_3:(5=iw)=False:=eq_false (by omega)
  have n_1_4:(5=ia)=False:=eq_false (by omega)
  have n_1_5:(5=jf)=False:=eq_false (by omega)
  have n_2_3:(6=iw)=False:=eq_false (by omega)
  have n_2_4:(6=ia)=False:=eq_false (by omega)
  have n_2_5:(6=jf)=False:=eq_false (by omega)
  have n_3_4:(iw=ia)=False:=eq_false d01
  have qn_3_4:iw≠ia:=of_eq_false n_3_4
  have n_3_5:(iw=jf)=False:=eq_false d02
  have qn_3_5:iw≠jf:=of_eq_false n_3_5
  have n_4_5:(ia=jf)=False:=eq_false d12
  have qn_4_5:ia≠jf:=of_eq_false n_4_5
  obtain⟨o,h',e,rfl,wr,wG,hwG,hwr,rfl⟩:=ap2 (s:=s) (d:=d) (hr:=hr) (own:=own) (fuel:=fuel) (G:=G) (L:=L) (O:=[]) (R:=[]) (W:=W) (A:=A) (F:=F) (w:=false) (w1:=false) (w2:=false) (w3:=false) (w5:=false) (w4:=false) (w6:=false) (w7:=false) (by omega) (by omega)
  generalize hFu:Gs s.fuel F 0 (G,fuel)=gf at *
  obtain⟨G',fu'⟩:=gf
  dsimp only at *
  simp only[hG,hL,hWl,hAl,hFl,abI,abH]at e
  obtain⟨vG,hvG⟩:∃v,v=wG:=⟨_,rfl⟩
  obtain⟨vr,hvr⟩:∃v,v=wr:=⟨_,rfl⟩
  cases wr<;>cases wG<;>(try have:=hwG rfl)<;>(try subst G')<;>(try have:=hwr rfl)<;>(try subst fu')<;>(
   refine⟨_,by simp only[Vc.down,seval,hR,hg,hb,hw,ha,hf,n_0_1,n_0_2,n_0_3,n_0_4,n_0_5,n_1_3,n_1_4,n_1_5,n_2_3,n_2_4,n_2_5,n_3_4,n_3_5,n_4_5,e];exact rfl,?_⟩
   simp only[Ar,Cb]
   refine⟨fun x hx=>by((try simp (discharger:=((try simp only[aaE]);omega)) only[ab1,abI,abH,acM,acT,acZ,adA,aaE,adF,adI,adJ,adK])<;>(first|exact rfl|exact rfl)),hr6,hGl,hL,hWl,hAl,hFl,(vr||w),(vG||w1),w2,.nils,.nils,iw,ia,jf,w4,w6,w7,?_,?_,?_,.inl ⟨rfl,rfl⟩,.inl ⟨rfl,rfl⟩,?_,hw6,?_,ha6,?_,hf6,d01,d02,d12⟩
   all_goals (subst vr;subst vG;((try simp (discharger:=((try simp only[aaE]);omega)) only[ab1,abI,abH,acM,acT,acZ,adA,aaE,adF,adI,adJ,adK])<;>(first|exact rfl|exact hR|exact hg|exact hb|exact hw|exact ha|exact hf))))
 ·have n_0_1:(r=5)=False:=eq_false (by omega)
  have n_0_2:(r=6)=False:=eq_false (by omega)
  have n_0_3:(r=iw)=False:=eq_false fun e=>by subst e;rw[hR]at hw;simp at hw
  have qn_0_3:r≠iw:=of_eq_false n_0_3
  have n_0_4:(r=ia)=False:=eq_false fun e=>by subst e;rw[hR]at ha;simp at ha
  have qn_0_4:r≠ia:=of_eq_false n_0_4
  have n_0_5:(r=jf)=False:=eq_false fun e=>by subst e;rw[hR]at hf;simp at hf
  have qn_0_5:r≠jf:=of_eq_false n_0_5
  have n_0_6:(r=iq)=False:=eq_false fun e=>by subst e;rw[hR]at hiq;simp at hiq
  have qn_0_6:r≠iq:=of_eq_false n_0_6
  have n_1_3:(5=iw)=False:=eq_false (by omega)
  have n_1_4:(5=ia)=False:=eq_false (by omega)
  have n_1_5:(5=jf)=False:=eq_false (by omega)
  have n_1_6:(5=iq)=False:=eq_false (by omega)
  have n_2_3:(6=iw)=False:=eq_false (by omega)
  have n_2_4:(6=ia)=False:=eq_false (by omega)
  have n_2_5:(6=jf)=False:=eq_false (by omega)
  have n_2_6:(6=iq)=False:=eq_false (by omega)
  have n_3_4:(iw=ia)=False:=eq_false d01
  have qn_3_4:iw≠ia:=of_eq_false n_3_4
  have n_3_5:(iw=jf)=False:=eq_false d02
  have qn_3_5:iw≠jf:=of_eq_false n_3_5
  have n_3_6:(iw=iq)=False:=eq_false fun e=>by subst e;simp at hqx
  have qn_3_6:iw≠iq:=of_eq_false n_3_6
  have n_4_5:(ia=jf)=False:=eq_false d12
  have qn_4_5:ia≠jf:=of_eq_false n_4_5
  have n_4_6:(ia=iq)=False:=eq_false fun e=>by subst e;simp at hqx
  have qn_4_6:ia≠iq:=of_eq_false n_4_6
  have n_5_6:(jf=iq)=False:=eq_false fun e=>by subst e;simp at hqx
  have qn_5_6:jf≠iq:=of_eq_false n_5_6
  have l5:=Eb hiq
  obtain⟨o,h',e,rfl,wr,wG,hwG,hwr,rfl⟩:=ao7 (s:=s) (d:=d) (hr:=hr) (own:=own) (fuel:=fuel) (G:=G) (L:=L) (O:=[]) (R:=R) (W:=W) (A:=A) (F:=F) (w:=false) (w1:=false) (w2:=false) (w3:=false) (w5:=false) (w4:=false) (w6:=false) (w7:=false) (by omega) (by omega)
  generalize hFu:Gs s.fuel F 0 (G,fuel)=gf at *
  obtain⟨G',fu'⟩:=gf
  dsimp only at *
  simp only[hG,hL,hWl,hAl,hFl,abI,abH]at e
  obtain⟨vG,hvG⟩:∃v,v=wG:=⟨_,rfl⟩
  obtain⟨vr,hvr⟩:∃v,v=wr:=⟨_,rfl⟩
  cases wr<;>cases wG<;>(try have:=hwG rfl)<;>(try subst G')<;>(try have:=hwr rfl)<;>(try subst fu')<;>(
   refine⟨_,by simp only[Vc.down,seval,hR,hg,hb,hw,ha,hf,hiq,n_0_1,n_0_2,n_0_3,n_0_4,n_0_5,n_0_6,n_1_3,n_1_4,n_1_5,n_1_6,n_2_3,n_2_4,n_2_5,n_2_6,n_3_4,n_3_5,n_3_6,n_4_5,n_4_6,n_5_6,e];exact rfl,?_⟩
   simp only[Ar,Cb]
   refine⟨fun x hx=>by((try simp (discharger:=((try simp only[aaE]);omega)) only[ab1,abI,abH,acM,acT,acZ,adA,aaE,adF,adI,adJ,adK])<;>(first|exact rfl|exact rfl)),hr6,hGl,hL,hWl,hAl,hFl,(vr||w),(vG||w1),w2,.nils,.slr 1 iq 0 R.length,iw,ia,jf,w4,w6,w7,?_,?_,?_,.inl ⟨rfl,rfl⟩,.inr ⟨iq,w5,hRn,rfl,?_,hiq6,hqx⟩,?_,hw6,?_,ha6,?_,hf6,d01,d02,d12⟩
   all_goals (subst vr;subst vG;((try simp (discharger:=((try simp only[aaE]);omega)) only[ab1,abI,abH,acM,acT,acZ,adA,aaE,adF,adI,adJ,adK])<;>(first|exact rfl|exact hR|exact hg|exact hb|exact hw|exact ha|exact hf|exact hiq))))
 ·have n_0_1:(r=5)=False:=eq_false (by omega)
  have n_0_2:(r=6)=False:=eq_false (by omega)
  have n_0_3:(r=io)=False:=eq_false fun e=>by subst e;rw[hR]at hio;simp at hio
  have qn_0_3:r≠io:=of_eq_false n_0_3
  have n_0_4:(r=iw)=False:=eq_false fun e=>by subst e;rw[hR]at hw;simp at hw
  have qn_0_4:r≠iw:=of_eq_false n_0_4
  have n_0_5:(r=ia)=False:=eq_false fun e=>by subst e;rw[hR]at ha;simp at ha
  have qn_0_5:r≠ia:=of_eq_false n_0_5
  have n_0_6:(r=jf)=False:=eq_false fun e=>by subst e;rw[hR]at hf;simp at hf
  have qn_0_6:r≠jf:=of_eq_false n_0_6
  have n_1_3:(5=io)=False:=eq_false (by omega)
  have n_1_4:(5=iw)=False:=eq_false (by omega)
  have n_1_5:(5=ia)=False:=eq_false (by omega)
  have n_1_6:(5=jf)=False:=eq_false (by omega)
  have n_2_3:(6=io)=False:=eq_false (by omega)
  have n_2_4:(6=iw)=False:=eq_false (by omega)
  have n_2_5:(6=ia)=False:=eq_false (by omega)
  have n_2_6:(6=jf)=False:=eq_false (by omega)
  have n_3_4:(io=iw)=False:=eq_false fun e=>by subst e;rw[hio]at hw;simp at hw
  have qn_3_4:io≠iw:=of_eq_false n_3_4
  have n_3_5:(io=ia)=False:=eq_false fun e=>by subst e;rw[hio]at ha;simp at ha
  have qn_3_5:io≠ia:=of_eq_false n_3_5
  have n_3_6:(io=jf)=False:=eq_false fun e=>by subst e;rw[hio]at hf;simp at hf
  have qn_3_6:io≠jf:=of_eq_false n_3_6
  have n_4_5:(iw=ia)=False:=eq_false d01
  have qn_4_5:iw≠ia:=of_eq_false n_4_5
  have n_4_6:(iw=jf)=False:=eq_false d02
  have qn_4_6:iw≠jf:=of_eq_false n_4_6
  have n_5_6:(ia=jf)=False:=eq_false d12
  have qn_5_6:ia≠jf:=of_eq_false n_5_6
  have l4:=Eb hio
  obtain⟨o,h',e,rfl,wr,wG,hwG,hwr,rfl⟩:=aqS (s:=s) (d:=d) (hr:=hr) (own:=own) (fuel:=fuel) (G:=G) (L:=L) (O:=O) (R:=[]) (W:=W) (A:=A) (F:=F) (w:=false) (w1:=false) (w2:=false) (w3:=false) (w5:=false) (w4:=false) (w6:=false) (w7:=false) (by omega) (by omega)
  generalize hFu:Gs s.fuel F 0 (G,fuel)=gf at *
  obtain⟨G',fu'⟩:=gf
  dsimp only at *
  simp only[hG,hL,hWl,hAl,hFl,abI,abH]at e
  obtain⟨vG,hvG⟩:∃v,v=wG:=⟨_,rfl⟩
  obtain⟨vr,hvr⟩:∃v,v=wr:=⟨_,rfl⟩
  cases wr<;>cases wG<;>(try have:=hwG rfl)<;>(try subst G')<;>(try have:=hwr rfl)<;>(try subst fu')<;>(
   refine⟨_,by simp only[Vc.down,seval,hR,hg,hb,hio,hw,ha,hf,n_0_1,n_0_2,n_0_3,n_0_4,n_0_5,n_0_6,n_1_3,n_1_4,n_1_5,n_1_6,n_2_3,n_2_4,n_2_5,n_2_6,n_3_4,n_3_5,n_3_6,n_4_5,n_4_6,n_5_6,e];exact rfl,?_⟩
   simp only[Ar,Cb]
   refine⟨fun x hx=>by((try simp (discharger:=((try simp only[aaE]);omega)) only[ab1,abI,abH,acM,acT,acZ,adA,aaE,adF,adI,adJ,adK])<;>(first|exact rfl|exact rfl)),hr6,hGl,hL,hWl,hAl,hFl,(vr||w),(vG||w1),w2,.slr 5 io 0 O.length,.nils,iw,ia,jf,w4,w6,w7,?_,?_,?_,.inr ⟨io,w3,rfl,?_,hio6⟩,.inl ⟨rfl,rfl⟩,?_,hw6,?_,ha6,?_,hf6,d01,d02,d12⟩
   all_goals (subst vr;subst vG;((try simp (discharger:=((try simp only[aaE]);omega)) only[ab1,abI,abH,acM,acT,acZ,adA,aaE,adF,adI,adJ,adK])<;>(first|exact rfl|exact hR|exact hg|exact hb|exact hio|exact hw|exact ha|exact hf))))
 ·have n_0_1:(r=5)=False:=eq_false (by omega)
  have n_0_2:(r=6)=False:=eq_false (by omega)
  have n_0_3:(r=io)=False:=eq_false fun e=>by subst e;rw[hR]at hio;simp at hio
  have qn_0_3:r≠io:=of_eq_false n_0_3
  have n_0_4:(r=iw)=False:=eq_false fun e=>by subst e;rw[hR]at hw;simp at hw
  have qn_0_4:r≠iw:=of_eq_false n_0_4
  have n_0_5:(r=ia)=False:=eq_false fun e=>by subst e;rw[hR]at ha;simp at ha
  have qn_0_5:r≠ia:=of_eq_false n_0_5
  have n_0_6:(r=jf)=False:=eq_false fun e=>by subst e;rw[hR]at hf;simp at hf
  have qn_0_6:r≠jf:=of_eq_false n_0_6
  have n_0_7:(r=iq)=False:=eq_false fun e=>by subst e;rw[hR]at hiq;simp at hiq
  have qn_0_7:r≠iq:=of_eq_false n_0_7
  have n_1_3:(5=io)=False:=eq_false (by omega)
  have n_1_4:(5=iw)=False:=eq_false (by omega)
  have n_1_5:(5=ia)=False:=eq_false (by omega)
  have n_1_6:(5=jf)=False:=eq_false (by omega)
  have n_1_7:(5=iq)=False:=eq_false (by omega)
  have n_2_3:(6=io)=False:=eq_false (by omega)
  have n_2_4:(6=iw)=False:=eq_false (by omega)
  have n_2_5:(6=ia)=False:=eq_false (by omega)
  have n_2_6:(6=jf)=False:=eq_false (by omega)
  have n_2_7:(6=iq)=False:=eq_false (by omega)
  have n_3_4:(io=iw)=False:=eq_false fun e=>by subst e;rw[hio]at hw;simp at hw
  have qn_3_4:io≠iw:=of_eq_false n_3_4
  have n_3_5:(io=ia)=False:=eq_false fun e=>by subst e;rw[hio]at ha;simp at ha
  have qn_3_5:io≠ia:=of_eq_false n_3_5
  have n_3_6:(io=jf)=False:=eq_false fun e=>by subst e;rw[hio]at hf;simp at hf
  have qn_3_6:io≠jf:=of_eq_false n_3_6
  have n_3_7:(io=iq)=False:=eq_false fun e=>by subst e;rw[hio]at hiq;simp at hiq
  have qn_3_7:io≠iq:=of_eq_false n_3_7
  have n_4_5:(iw=ia)=False:=eq_false d01
  have qn_4_5:iw≠ia:=of_eq_false n_4_5
  have n_4_6:(iw=jf)=False:=eq_false d02
  have qn_4_6:iw≠jf:=of_eq_false n_4_6
  have n_4_7:(iw=iq)=False:=eq_false fun e=>by subst e;simp at hqx
  have qn_4_7:iw≠iq:=of_eq_false n_4_7
  have n_5_6:(ia=jf)=False:=eq_false d12
  have qn_5_6:ia≠jf:=of_eq_false n_5_6
  have n_5_7:(ia=iq)=False:=eq_false fun e=>by subst e;simp at hqx
  have qn_5_7:ia≠iq:=of_eq_false n_5_7
  have n_6_7:(jf=iq)=False:=eq_false fun e=>by subst e;simp at hqx
  have qn_6_7:jf≠iq:=of_eq_false n_6_7
  have l4:=Eb hio
  have l5:=Eb hiq
  obtain⟨o,h',e,rfl,wr,wG,hwG,hwr,rfl⟩:=aqC (s:=s) (d:=d) (hr:=hr) (own:=own) (fuel:=fuel) (G:=G) (L:=L) (O:=O) (R:=R) (W:=W) (A:=A) (F:=F) (w:=false) (w1:=false) (w2:=false) (w3:=false) (w5:=false) (w4:=false) (w6:=false) (w7:=false) (by omega) (by omega)
  generalize hFu:Gs s.fuel F 0 (G,fuel)=gf at *
  obtain⟨G',fu'⟩:=gf
  dsimp only at *
  simp only[hG,hL,hWl,hAl,hFl,abI,abH]at e
  obtain⟨vG,hvG⟩:∃v,v=wG:=⟨_,rfl⟩
  obtain⟨vr,hvr⟩:∃v,v=wr:=⟨_,rfl⟩
  cases wr<;>cases wG<;>(try have:=hwG rfl)<;>(try subst G')<;>(try have:=hwr rfl)<;>(try subst fu')<;>(
   refine⟨_,by simp only[Vc.down,seval,hR,hg,hb,hio,hw,ha,hf,hiq,n_0_1,n_0_2,n_0_3,n_0_4,n_0_5,n_0_6,n_0_7,n_1_3,n_1_4,n_1_5,n_1_6,n_1_7,n_2_3,n_2_4,n_2_5,n_2_6,n_2_7,n_3_4,n_3_5,n_3_6,n_3_7,n_4_5,n_4_6,n_4_7,n_5_6,n_5_7,n_6_7,e];exact rfl,?_⟩
   simp only[Ar,Cb]
   refine⟨fun x hx=>by((try simp (discharger:=((try simp only[aaE]);omega)) only[ab1,abI,abH,acM,acT,acZ,adA,aaE,adF,adI,adJ,adK])<;>(first|exact rfl|exact rfl)),hr6,hGl,hL,hWl,hAl,hFl,(vr||w),(vG||w1),w2,.slr 5 io 0 O.length,.slr 1 iq 0 R.length,iw,ia,jf,w4,w6,w7,?_,?_,?_,.inr ⟨io,w3,rfl,?_,hio6⟩,.inr ⟨iq,w5,hRn,rfl,?_,hiq6,hqx⟩,?_,hw6,?_,ha6,?_,hf6,d01,d02,d12⟩
   all_goals (subst vr;subst vG;((try simp (discharger:=((try simp only[aaE]);omega)) only[ab1,abI,abH,acM,acT,acZ,adA,aaE,adF,adI,adJ,adK])<;>(first|exact rfl|exact hR|exact hg|exact hb|exact hio|exact hw|exact ha|exact hf|exact hiq))))
theorem aeV{s:Ac}{d:Ao}{hr own fuel:Int}{h:Aa}{r:Nat}{G L:List Int}{O:List Ab}{R W A F:List Int}(hl:s.cons.length≤1000)(H:HsD s d hr own fuel G L O R W A F r h):
 ∃es,cl Bo h (some (.func (.func 110) [.ptr r 0 0] [])) (some [])=some (.ret (.tup []),es)∧yN h (Ar h es)∧
  HsD s d hr own fuel G (Jc (Br hr F W A) s.cons 0 L) O R W A F r (Ar h es):=by
 obtain⟨hr6,hG,hL,hWl,hAl,hFl,w,w1,w2,ov,rv,iw,ia,jf,w4,w6,w7,hR,hg,hb,hov,hrv,hw,hw6,ha,ha6,hf,hf6,d01,d02,d12⟩:=H
 have l1:=Eb hR
 have l2:=Eb hg
 have l3:=Eb hb
 have lw0:=Eb hw
 have lw1:=Eb ha
 have lw2:=Eb hf
 have hLl:(Jc (Br hr F W A) s.cons 0 L).length=s.cons.length:=by rw[Wj,hL]
 rcases hov with⟨rfl,rfl⟩|⟨io,w3,rfl,hio,hio6⟩<;>rcases hrv with⟨rfl,rfl⟩|⟨iq,w5,hRn,rfl,hiq,hiq6,hqx⟩
 ·have n_0_1:(r=5)=False:=eq_false (by omega)
  have n_0_2:(r=6)=False:=eq_false (by omega)
  have n_0_3:(r=iw)=False:=eq_false fun e=>by subst e;rw[hR]at hw;simp at hw
  have qn_0_3:r≠iw:=of_eq_false n_0_3
  have n_0_4:(r=ia)=False:=eq_false fun e=>by subst e;rw[hR]at ha;simp at ha
  have qn_0_4:r≠ia:=of_eq_false n_0_4
  have n_0_5:(r=jf)=False:=eq_false fun e=>by subst e;rw[hR]at hf;simp at hf
  have qn_0_5:r≠jf:=of_eq_false n_0_5
  have n_1_3:(5=iw)=False:=eq_false (by omega)
  have n_1_4:(5=ia)=False:=eq_false (by omega)
  have n_1_5:(5=jf)=False:=eq_false (by omega)
  have n_2_3:(6=iw)=False:=eq_false (by omega)
  have n_2_4:(6=ia)=False:=eq_false (by omega)
  have n_2_5:(6=jf)=False:=eq_false (by omega)
  have n_3_4:(iw=ia)=False:=eq_false d01
  have qn_3_4:iw≠ia:=of_eq_false n_3_4
  have n_3_5:(iw=jf)=False:=eq_false d02
  have qn_3_5:iw≠jf:=of_eq_false n_3_5
  have n_4_5:(ia=jf)=False:=eq_false d12
  have qn_4_5:ia≠jf:=of_eq_false n_4_5
  obtain⟨o,h',e,rfl,wL,hwL,rfl⟩:=agX (s:=s) (d:=d) (hr:=hr) (own:=own) (fuel:=fuel) (G:=G) (L:=L) (O:=[]) (R:=[]) (W:=W) (A:=A) (F:=F) (w:=false) (w1:=false) (w2:=false) (w3:=false) (w5:=false) (w4:=false) (w6:=false) (w7:=false) hL hWl hAl hFl hl
  generalize hLL:Jc (Br hr F W A) s.cons 0 L=L' at *
  simp only[hG,hL,hWl,hAl,hFl,abI,abH]at e
  obtain⟨vL,hvL⟩:∃v,v=wL:=⟨_,rfl⟩
  cases wL<;>(try (have q:=hwL rfl;subst q))<;>(
   refine⟨_,by simp only[Vc.down,seval,hR,hg,hb,hw,ha,hf,n_0_1,n_0_2,n_0_3,n_0_4,n_0_5,n_1_3,n_1_4,n_1_5,n_2_3,n_2_4,n_2_5,n_3_4,n_3_5,n_4_5,e];exact rfl,?_⟩
   simp only[Ar,Cb]
   refine⟨fun x hx=>by((try simp (discharger:=((try simp only[aaE]);omega)) only[ab1,abI,abH,acM,acT,acZ,adA,aaE,adF,adI,adJ,adK])<;>(first|exact rfl|exact rfl)),hr6,hG,hLl,hWl,hAl,hFl,w,w1,(vL||w2),.nils,.nils,iw,ia,jf,w4,w6,w7,?_,?_,?_,.inl ⟨rfl,rfl⟩,.inl ⟨rfl,rfl⟩,?_,hw6,?_,ha6,?_,hf6,d01,d02,d12⟩
   all_goals (subst vL;((try simp (discharger:=((try simp only[aaE]);omega)) only[ab1,abI,abH,acM,acT,acZ,adA,aaE,adF,adI,adJ,adK])<;>(first|exact rfl|exact hR|exact hg|exact hb|exact hw|exact ha|exact hf))))
 ·have n_0_1:(r=5)=False:=eq_false (by omega)
  have n_0_2:(r=6)=False:=eq_false (by omega)
  have n_0_3:(r=iw)=False:=eq_false fun e=>by subst e;rw[hR]at hw;simp at hw
  have qn_0_3:r≠iw:=of_eq_false n_0_3
  have n_0_4:(r=ia)=False:=eq_false fun e=>by subst e;rw[hR]at ha;simp at ha
  have qn_0_4:r≠ia:=of_eq_false n_0_4
  have n_0_5:(r=jf)=False:=eq_false fun e=>by subst e;rw[hR]at hf;simp at hf
  have qn_0_5:r≠jf:=of_eq_false n_0_5
  have n_0_6:(r=iq)=False:=eq_false fun e=>by subst e;rw[hR]at hiq;simp at hiq
  have qn_0_6:r≠iq:=of_eq_false n_0_6
  have n_1_3:(5=iw)=False:=eq_false (by omega)
  have n_1_4:(5=ia)=False:=eq_false (by omega)
  have n_1_5:(5=jf)=False:=eq_false (by omega)
  have n_1_6:(5=iq)=False:=eq_false (by omega)
  have n_2_3:(6=iw)=False:=eq_false (by omega)
  have n_2_4:(6=ia)=False:=eq_false (by omega)
  have n_2_5:(6=jf)=False:=eq_false (by omega)
  have n_2_6:(6=iq)=False:=eq_false (by omega)
  have n_3_4:(iw=ia)=False:=eq_false d01
  have qn_3_4:iw≠ia:=of_eq_false n_3_4
  have n_3_5:(iw=jf)=False:=eq_false d02
  have qn_3_5:iw≠jf:=of_eq_false n_3_5
  have n_3_6:(iw=iq)=False:=eq_false fun e=>by subst e;simp at hqx
  have qn_3_6:iw≠iq:=of_eq_false n_3_6
  have n_4_5:(ia=jf)=False:=eq_false d12
  have qn_4_5:ia≠jf:=of_eq_false n_4_5
  have n_4_6:(ia=iq)=False:=eq_false fun e=>by subst e;simp at hqx
  have qn_4_6:ia≠iq:=of_eq_false n_4_6
  have n_5_6:(jf=iq)=False:=eq_false fun e=>by subst e;simp at hqx
  have qn_5_6:jf≠iq:=of_eq_false n_5_6
  have l5:=Eb hiq
  obtain⟨o,h',e,rfl,wL,hwL,rfl⟩:=ae4 (s:=s) (d:=d) (hr:=hr) (own:=own) (fuel:=fuel) (G:=G) (L:=L) (O:=[]) (R:=R) (W:=W) (A:=A) (F:=F) (w:=false) (w1:=false) (w2:=false) (w3:=false) (w5:=false) (w4:=false) (w6:=false) (w7:=false) hL hWl hAl hFl hl
  generalize hLL:Jc (Br hr F W A) s.cons 0 L=L' at *
  simp only[hG,hL,hWl,hAl,hFl,abI,abH]at e
  obtain⟨vL,hvL⟩:∃v,v=wL:=⟨_,rfl⟩
  cases wL<;>(try (have q:=hwL rfl;subst q))<;>(
   refine⟨_,by simp only[Vc.down,seval,hR,hg,hb,hw,ha,hf,hiq,n_0_1,n_0_2,n_0_3,n_0_4,n_0_5,n_0_6,n_1_3,n_1_4,n_1_5,n_1_6,n_2_3,n_2_4,n_2_5,n_2_6,n_3_4,n_3_5,n_3_6,n_4_5,n_4_6,n_5_6,e];exact rfl,?_⟩
   simp only[Ar,Cb]
   refine⟨fun x hx=>by((try simp (discharger:=((try simp only[aaE]);omega)) only[ab1,abI,abH,acM,acT,acZ,adA,aaE,adF,adI,adJ,adK])<;>(first|exact rfl|exact rfl)),hr6,hG,hLl,hWl,hAl,hFl,w,w1,(vL||w2),.nils,.slr 1 iq 0 R.length,iw,ia,jf,w4,w6,w7,?_,?_,?_,.inl ⟨rfl,rfl⟩,.inr ⟨iq,w5,hRn,rfl,?_,hiq6,hqx⟩,?_,hw6,?_,ha6,?_,hf6,d01,d02,d12⟩
   all_goals (subst vL;((try simp (discharger:=((try simp only[aaE]);omega)) only[ab1,abI,abH,acM,acT,acZ,adA,aaE,adF,adI,adJ,adK])<;>(first|exact rfl|exact hR|exact hg|exact hb|exact hw|exact ha|exact hf|exact hiq))))
 ·have n_0_1:(r=5)=False:=eq_false (by omega)
  have n_0_2:(r=6)=False:=eq_false (by omega)
  have n_0_3:(r=io)=False:=eq_false fun e=>by subst e;rw[hR]at hio;simp at hio
  have qn_0_3:r≠io:=of_eq_false n_0_3
  have n_0_4:(r=iw)=False:=eq_false fun e=>by subst e;rw[hR]at hw;simp at hw
  have qn_0_4:r≠iw:=of_eq_false n_0_4
  have n_0_5:(r=ia)=False:=eq_false fun e=>by subst e;rw[hR]at ha;simp at ha
  have qn_0_5:r≠ia:=of_eq_false n_0_5
  have n_0_6:(r=jf)=False:=eq_false fun e=>by subst e;rw[hR]at hf;simp at hf
  have qn_0_6:r≠jf:=of_eq_false n_0_6
  have n_1_3:(5=io)=False:=eq_false (by omega)
  have n_1_4:(5=iw)=False:=eq_false (by omega)
  have n_1_5:(5=ia)=False:=eq_false (by omega)
  have n_1_6:(5=jf)=False:=eq_false (by omega)
  have n_2_3:(6=io)=False:=eq_false (by omega)
  have n_2_4:(6=iw)=False:=eq_false (by omega)
  have n_2_5:(6=ia)=False:=eq_false (by omega)
  have n_2_6:(6=jf)=False:=eq_false (by omega)
  have n_3_4:(io=iw)=False:=eq_false fun e=>by subst e;rw[hio]at hw;simp at hw
  have qn_3_4:io≠iw:=of_eq_false n_3_4
  have n_3_5:(io=ia)=False:=eq_false fun e=>by subst e;rw[hio]at ha;simp at ha
  have qn_3_5:io≠ia:=of_eq_false n_3_5
  have n_3_6:(io=jf)=False:=eq_false fun e=>by subst e;rw[hio]at hf;simp at hf
  have qn_3_6:io≠jf:=of_eq_false n_3_6
  have n_4_5:(iw=ia)=False:=eq_false d01
  have qn_4_5:iw≠ia:=of_eq_false n_4_5
  have n_4_6:(iw=jf)=False:=eq_false d02
  have qn_4_6:iw≠jf:=of_eq_false n_4_6
  have n_5_6:(ia=jf)=False:=eq_false d12
  have qn_5_6:ia≠jf:=of_eq_false n_5_6
  have l4:=Eb hio
  obtain⟨o,h',e,rfl,wL,hwL,rfl⟩:=af0 (s:=s) (d:=d) (hr:=hr) (own:=own) (fuel:=fuel) (G:=G) (L:=L) (O:=O) (R:=[]) (W:=W) (A:=A) (F:=F) (w:=false) (w1:=false) (w2:=false) (w3:=false) (w5:=false) (w4:=false) (w6:=false) (w7:=false) hL hWl hAl hFl hl
  generalize hLL:Jc (Br hr F W A) s.cons 0 L=L' at *
  simp only[hG,hL,hWl,hAl,hFl,abI,abH]at e
  obtain⟨vL,hvL⟩:∃v,v=wL:=⟨_,rfl⟩
  cases wL<;>(try (have q:=hwL rfl;subst q))<;>(
   refine⟨_,by simp only[Vc.down,seval,hR,hg,hb,hio,hw,ha,hf,n_0_1,n_0_2,n_0_3,n_0_4,n_0_5,n_0_6,n_1_3,n_1_4,n_1_5,n_1_6,n_2_3,n_2_4,n_2_5,n_2_6,n_3_4,n_3_5,n_3_6,n_4_5,n_4_6,n_5_6,e];exact rfl,?_⟩
   simp only[Ar,Cb]
   refine⟨fun x hx=>by((try simp (discharger:=((try simp only[aaE]);omega)) only[ab1,abI,abH,acM,acT,acZ,adA,aaE,adF,adI,adJ,adK])<;>(first|exact rfl|exact rfl)),hr6,hG,hLl,hWl,hAl,hFl,w,w1,(vL||w2),.slr 5 io 0 O.length,.nils,iw,ia,jf,w4,w6,w7,?_,?_,?_,.inr ⟨io,w3,rfl,?_,hio6⟩,.inl ⟨rfl,rfl⟩,?_,hw6,?_,ha6,?_,hf6,d01,d02,d12⟩
   all_goals (subst vL;((try simp (discharger:=((try simp only[aaE]);omega)) only[ab1,abI,abH,acM,acT,acZ,adA,aaE,adF,adI,adJ,adK])<;>(first|exact rfl|exact hR|exact hg|exact hb|exact hio|exact hw|exact ha|exact hf))))
 ·have n_0_1:(r=5)=False:=eq_false (by omega)
  have n_0_2:(r=6)=False:=eq_false (by omega)
  have n_0_3:(r=io)=False:=eq_false fun e=>by subst e;rw[hR]at hio;simp at hio
  have qn_0_3:r≠io:=of_eq_false n_0_3
  have n_0_4:(r=iw)=False:=eq_false fun e=>by subst e;rw[hR]at hw;simp at hw
  have qn_0_4:r≠iw:=of_eq_false n_0_4
  have n_0_5:(r=ia)=False:=eq_false fun e=>by subst e;rw[hR]at ha;simp at ha
  have qn_0_5:r≠ia:=of_eq_false n_0_5
  have n_0_6:(r=jf)=False:=eq_false fun e=>by subst e;rw[hR]at hf;simp at hf
  have qn_0_6:r≠jf:=of_eq_false n_0_6
  have n_0_7:(r=iq)=False:=eq_false fun e=>by subst e;rw[hR]at hiq;simp at hiq
  have qn_0_7:r≠iq:=of_eq_false n_0_7
  have n_1_3:(5=io)=False:=eq_false (by omega)
  have n_1_4:(5=iw)=False:=eq_false (by omega)
  have n_1_5:(5=ia)=False:=eq_false (by omega)
  have n_1_6:(5=jf)=False:=eq_false (by omega)
  have n_1_7:(5=iq)=False:=eq_false (by omega)
  have n_2_3:(6=io)=False:=eq_false (by omega)
  have n_2_4:(6=iw)=False:=eq_false (by omega)
  have n_2_5:(6=ia)=False:=eq_false (by omega)
  have n_2_6:(6=jf)=False:=eq_false (by omega)
  have n_2_7:(6=iq)=False:=eq_false (by omega)
  have n_3_4:(io=iw)=False:=eq_false fun e=>by subst e;rw[hio]at hw;simp at hw
  have qn_3_4:io≠iw:=of_eq_false n_3_4
  have n_3_5:(io=ia)=False:=eq_false fun e=>by subst e;rw[hio]at ha;simp at ha
  have qn_3_5:io≠ia:=of_eq_false n_3_5
  have n_3_6:(io=jf)=False:=eq_false fun e=>by subst e;rw[hio]at hf;simp at hf
  have qn_3_6:io≠jf:=of_eq_false n_3_6
  have n_3_7:(io=iq)=False:=eq_false fun e=>by subst e;rw[hio]at hiq;simp at hiq
  have qn_3_7:io≠iq:=of_eq_false n_3_7
  have n_4_5:(iw=ia)=False:=eq_false d01
  have qn_4_5:iw≠ia:=of_eq_false n_4_5
  have n_4_6:(iw=jf)=False:=eq_false d02
  have qn_4_6:iw≠jf:=of_eq_false n_4_6
  have n_4_7:(iw=iq)=False:=eq_false fun e=>by subst e;simp at hqx
  have qn_4_7:iw≠iq:=of_eq_false n_4_7
  have n_5_6:(ia=jf)=False:=eq_false d12
  have qn_5_6:ia≠jf:=of_eq_false n_5_6
  have n_5_7:(ia=iq)=False:=eq_false fun e=>by subst e;simp at hqx
  have qn_5_7:ia≠iq:=of_eq_false n_5_7
  have n_6_7:(jf=iq)=False:=eq_false fun e=>by subst e;simp at hqx
  have qn_6_7:jf≠iq:=of_eq_false n_6_7
  have l4:=Eb hio
  have l5:=Eb hiq
  obtain⟨o,h',e,rfl,wL,hwL,rfl⟩:=aiD (s:=s) (d:=d) (hr:=hr) (own:=own) (fuel:=fuel) (G:=G) (L:=L) (O:=O) (R:=R) (W:=W) (A:=A) (F:=F) (w:=false) (w1:=false) (w2:=false) (w3:=false) (w5:=false) (w4:=false) (w6:=false) (w7:=false) hL hWl hAl hFl hl
  generalize hLL:Jc (Br hr F W A) s.cons 0 L=L' at *
  simp only[hG,hL,hWl,hAl,hFl,abI,abH]at e
  obtain⟨vL,hvL⟩:∃v,v=wL:=⟨_,rfl⟩
  cases wL<;>(try (have q:=hwL rfl;subst q))<;>(
   refine⟨_,by simp only[Vc.down,seval,hR,hg,hb,hio,hw,ha,hf,hiq,n_0_1,n_0_2,n_0_3,n_0_4,n_0_5,n_0_6,n_0_7,n_1_3,n_1_4,n_1_5,n_1_6,n_1_7,n_2_3,n_2_4,n_2_5,n_2_6,n_2_7,n_3_4,n_3_5,n_3_6,n_3_7,n_4_5,n_4_6,n_4_7,n_5_6,n_5_7,n_6_7,e];exact rfl,?_⟩
   simp only[Ar,Cb]
   refine⟨fun x hx=>by((try simp (discharger:=((try simp only[aaE]);omega)) only[ab1,abI,abH,acM,acT,acZ,adA,aaE,adF,adI,adJ,adK])<;>(first|exact rfl|exact rfl)),hr6,hG,hLl,hWl,hAl,hFl,w,w1,(vL||w2),.slr 5 io 0 O.length,.slr 1 iq 0 R.length,iw,ia,jf,w4,w6,w7,?_,?_,?_,.inr ⟨io,w3,rfl,?_,hio6⟩,.inr ⟨iq,w5,hRn,rfl,?_,hiq6,hqx⟩,?_,hw6,?_,ha6,?_,hf6,d01,d02,d12⟩
   all_goals (subst vL;((try simp (discharger:=((try simp only[aaE]);omega)) only[ab1,abI,abH,acM,acT,acZ,adA,aaE,adF,adI,adJ,adK])<;>(first|exact rfl|exact hR|exact hg|exact hb|exact hio|exact hw|exact ha|exact hf|exact hiq))))
theorem mW{l:List Ab}{nn:Bool}(hl:l.length≤1000)(hne:¬(l=[]∧nn=false)):Bo.call (.fn 103) [Bj 5 true nn (l.map Ab.cells)] []=some (.ret (.slr 5 0 0 l.length),[.live 5 true false (l.map Ab.cells)]):=by
 cases l with
 |nil=>
  cases nn with
  |false=>exact(hne ⟨rfl,rfl⟩).elim
  |true=>
   (refine ce Tryz.func103 ?_;simp only[Tryz.f103];(have hb:=trivial;with_reducible repeat' (first|simp only[hb,Vc.down,seval,ahC.down,adM,Bg]|refine Aj ?_ ?_<;>intro hb|refine fd ?_|fail)))
 |cons x l=>
  have h39:(l.length+1≤549755813888)=True:=eq_true (by simp at hl;omega)
  (refine ce Tryz.func103 ?_;simp only[Tryz.f103];(have hb:=trivial;with_reducible repeat' (first|simp only[hb,Vc.down,seval,ahC.down,List.length_map,h39,Ab.cells]|refine Aj ?_ ?_<;>intro hb|refine fd ?_|fail)))
theorem jS:Bo.call (.fn 103) [Bj 5 true false []] []=some (.ret .nils,[]):=by
 (refine ce Tryz.func103 ?_;simp only[Tryz.f103];(have hb:=trivial;with_reducible repeat' (first|simp only[hb,Vc.down,seval,ahC.down,Xj]|refine Aj ?_ ?_<;>intro hb|refine fd ?_|fail)))
def vF:List Nat:=[104,105,106,107,108,109,110]
def qQ(r:Nat)(f:Nat):AV:=.func (.func f) [.ptr r 0 0] []
theorem arP(cs:List AV)(i:Int):kE Tryz.prog 145 (.agg cs) (.int .i64 i)=if 0≤i∧i<7 then cs[i.toNat*1]? else none:=by kernel_rfl
theorem nX(r:Nat):dX Tryz.prog 145 [(0,qQ r 104),(1,qQ r 105),(2,qQ r 106),(3,qQ r 107),(4,qQ r 108),(5,qQ r 109),(6,qQ r 110)]=some (.agg (vF.map (qQ r))):=by kernel_rfl
def anH(h:Aa):Prop:=(∃fl w,h[3]?=some (.live 6 fl w [[.int .i64 0,.nils,.int .i64 0,.int .i64 0,.nils,.nils]]))∧∃fl w,h[4]?=some (.live 4 fl w [[.nils,.nils,.nils,.nils]])
theorem Ur(cs:List Ag)(hr:Int):∀(O:List Ab) (G L:List Int) (p:List Ab),(Cd cs hr O (G,L,p)).2.2=p++O.filter (fun t=>decide (t.back≠hr))
 | [],_,_,p=>by simp[Cd]
 |t::O,G,L,p=>by
  by_cases h:t.back=hr
  ·simp only[Cd,h,if_true,Ur cs hr O]
   simp[h]
  ·simp only[Cd,h,if_false,Ur cs hr O]
   simp[h]
theorem atU{f i:Nat}(h:vF[i]?=some f):(i=0∧f=104)∨(i=1∧f=105)∨(i=2∧f=106)∨(i=3∧f=107)∨(i=4∧f=108)∨(i=5∧f=109)∨(i=6∧f=110):=by
 match i,h with
 |0,h|1,h|2,h|3,h|4,h|5,h|6,h=>simp[vF]at h;subst h;simp
 |n+7,h=>simp[vF]at h
def G1(s:Ac)(hr:Int)(G L:List Int)(O:List Ab):List Int:=(Cd s.cons hr O (G,L,[])).1
def L1(s:Ac)(hr:Int)(G L:List Int)(O:List Ab):List Int:=(Cd s.cons hr O (G,L,[])).2.1
def O1(s:Ac)(hr:Int)(G L:List Int)(O:List Ab):List Ab:=(Cd s.cons hr O (G,L,[])).2.2
def T2(s:Ac)(d:Ao)(hr:Int)(G L:List Int)(O:List Ab):List Int × List Ab × List Int:=Bc s.cons hr d.trades 0 (G1 s hr G L O,O1 s hr G L O,[])
def W3(s:Ac)(d:Ao)(hr:Int)(G L:List Int)(O:List Ab):List Int:=Jc (Bt s d hr (T2 s d hr G L O).1) s.cons 0 (adL s.cons.length 0)
def A4(s:Ac)(d:Ao)(hr:Int)(x:Aw)(G L:List Int)(O:List Ab):List Int:=Gk Fj s.cons (W3 s d hr G L O) x.inn x.out
def F5(s:Ac)(d:Ao)(hr:Int)(x:Aw)(G L:List Int)(O:List Ab):List Int:=Ym (A4 s d hr x G L O) x
def aH(s:Ac)(d:Ao)(hr:Int)(x:Aw)(G L:List Int)(O:List Ab)(own:Int):Int:=cD (A4 s d hr x G L O) x own
def G6(s:Ac)(d:Ao)(hr:Int)(x:Aw)(G L:List Int)(O:List Ab)(fuel:Int):List Int × Int:=Gs s.fuel (F5 s d hr x G L O) 0 ((T2 s d hr G L O).1,fuel)
def L7(s:Ac)(d:Ao)(hr:Int)(x:Aw)(G L:List Int)(O:List Ab):List Int:=Jc (Br hr (F5 s d hr x G L O) (W3 s d hr G L O) (A4 s d hr x G L O)) s.cons 0 (L1 s hr G L O)
def StS(s:Ac)(d:Ao)(hr own fuel:Int)(x:Aw)(G L:List Int)(O:List Ab)(r:Nat):Nat→Aa→Prop
 |0,h=>HsA s d hr own fuel G L O [] r h
 |1,h=>HsA s d hr own fuel (G1 s hr G L O) (L1 s hr G L O) (O1 s hr G L O) [] r h
 |2,h=>HsA s d hr own fuel (T2 s d hr G L O).1 (L1 s hr G L O) (T2 s d hr G L O).2.1 (T2 s d hr G L O).2.2 r h
 |3,h=>HsB s d hr own fuel (T2 s d hr G L O).1 (L1 s hr G L O) (T2 s d hr G L O).2.1 (T2 s d hr G L O).2.2 (W3 s d hr G L O) r h
 |4,h=>HsC s d hr own fuel (T2 s d hr G L O).1 (L1 s hr G L O) (T2 s d hr G L O).2.1 (T2 s d hr G L O).2.2 (W3 s d hr G L O) (A4 s d hr x G L O) r h
 |5,h=>HsD s d hr (aH s d hr x G L O own) fuel (T2 s d hr G L O).1 (L1 s hr G L O) (T2 s d hr G L O).2.1 (T2 s d hr G L O).2.2 (W3 s d hr G L O) (A4 s d hr x G L O) (F5 s d hr x G L O) r h
 |6,h=>HsD s d hr (aH s d hr x G L O own) (G6 s d hr x G L O fuel).2 (G6 s d hr x G L O fuel).1 (L1 s hr G L O) (T2 s d hr G L O).2.1 (T2 s d hr G L O).2.2 (W3 s d hr G L O) (A4 s d hr x G L O) (F5 s d hr x G L O) r h
 |7,h=>HsD s d hr (aH s d hr x G L O own) (G6 s d hr x G L O fuel).2 (G6 s d hr x G L O fuel).1 (L7 s d hr x G L O) (T2 s d hr G L O).2.1 (T2 s d hr G L O).2.2 (W3 s d hr G L O) (A4 s d hr x G L O) (F5 s d hr x G L O) r h
 |_,_=>False
structure dW(s:Ac)(d:Ao)(hr:Int)(x:Aw)(O:List Ab):Prop where
 ne:s.cons≠[]
 len:s.cons.length≤1000
 noms:d.noms.length≤1000
 con:∀c∈s.cons,acH c
 owed:O.length≤1000
 ow:∀t∈O,t.ok s.cons.length
 trl:d.trades.length≤1000
 tr:∀t∈d.trades,t.ok s.cons.length
 h0:0≤hr
 hx:d.hours[hr.toNat]?=some x
theorem ag4{s:Ac}{d:Ao}{hr own fuel:Int}{x:Aw}{G L:List Int}{O:List Ab}(K:dW s d hr x O){r i f:Nat}{h:Aa}(hf:vF[i]?=some f)(H:StS s d hr own fuel x G L O r i h):
 ∃es,cl Bo h (some (qQ r f)) (some [])=some (.ret (.tup []),es)∧yN h (Ar h es)∧StS s d hr own fuel x G L O r (i+1) (Ar h es):=by
 rcases atU hf with⟨rfl,rfl⟩|⟨rfl,rfl⟩|⟨rfl,rfl⟩|⟨rfl,rfl⟩|⟨rfl,rfl⟩|⟨rfl,rfl⟩|⟨rfl,rfl⟩
 ·exact ad0 K.owed K.ow H
 ·refine ab8 ?_ K.trl K.tr H
  unfold O1
  rw[Ur]
  have:=List.length_filter_le (fun t:Ab=>decide (t.back≠hr)) O
  have:=K.owed
  simp only[abH]
  omega
 ·exact ahU K.len K.noms K.con H
 ·exact abS K.len K.ne K.h0 K.hx H
 ·exact ajK K.len K.ne K.h0 K.hx H
 ·exact apF K.len H
 ·exact aeV K.len H
theorem ah1:Bo.call (.fn 102) [.imm 1 true []] []=some (.ret (.slr 1 0 0 0),[.live 1 true false []]):=by
 (refine ce Tryz.func102 ?_;simp only[Tryz.f102];(have hb:=trivial;with_reducible repeat' (first|simp only[hb,Vc.down,seval,zE.down,adN]|refine Aj ?_ ?_<;>intro hb|refine fd ?_|fail)))
theorem ai5:Bo.call (.fn 102) [.nils] []=some (.ret .nils,[]):=by
 (refine ce Tryz.func102 ?_;simp only[Tryz.f102];(have hb:=trivial;with_reducible repeat' (first|simp only[hb,Vc.down,seval,zE.down,adN]|refine Aj ?_ ?_<;>intro hb|refine fd ?_|fail)))
def ZQ(hr own fuel:Int)(o:Ec)(h:Aa):Prop:=∃w1 w2 w3:Bool,
 (o=.ret (.tup [.agg [.int .i64 hr,.nils,.int .i64 own,.int .i64 fuel,.nils,.nils],.agg [.slr 1 0 0 0,.nils,.nils,.nils]])∧h=[.live 1 true w3 []])∨
 (o=.ret (.tup [.agg [.int .i64 hr,.slr 1 0 0 0,.int .i64 own,.int .i64 fuel,.nils,.nils],.agg [.slr 1 1 0 0,.nils,.nils,.nils]])∧h=[.live 1 true w1 [],.live 1 true w3 []])∨
 (o=.ret (.tup [.agg [.int .i64 hr,.nils,.int .i64 own,.int .i64 fuel,.slr 1 0 0 0,.nils],.agg [.slr 1 1 0 0,.nils,.nils,.nils]])∧h=[.live 1 true w2 [],.live 1 true w3 []])∨
 (o=.ret (.tup [.agg [.int .i64 hr,.slr 1 0 0 0,.int .i64 own,.int .i64 fuel,.slr 1 1 0 0,.nils],.agg [.slr 1 2 0 0,.nils,.nils,.nils]])∧h=[.live 1 true w1 [],.live 1 true w2 [],.live 1 true w3 []])
structure ZOK(s:Ac)(d:Ao)(hr:Int)(x:Aw):Prop where
 con:s.cons=[]
 tr:d.trades=[]
 h0:0≤hr
 hx:d.hours[hr.toNat]?=some x
 inn:0≤x.inn
 out:0≤x.out
theorem af1{s:Ac}{d:Ao}{x:Aw}{hr own fuel:Int}{nG nL nO:Bool}(K:ZOK s d hr x):
 Vo Bo 64 [.agg s.cells,.agg [.int .i64 hr,Bj 1 true nG [],.int .i64 own,.int .i64 fuel,Bj 1 true nL [],Bj 5 true nO []],.agg d.cells] [] (ZQ (IntKind.i64.wrap (hr+1)) (cD [] x own) fuel):=by
 have k1:=al4 nG nL nO (s:=s) (d:=d) (fl:=false) (w:=false) (w1:=false) (w2:=false) (w3:=false) (hr:=hr) (own:=own) (fuel:=fuel)
 have k2:=ai6 nG nL (s:=s) (w:=false) (w1:=false) (w2:=false) (hr:=hr) (own:=own) (fuel:=fuel) K.tr
 have k3:=am3 nG nL (d:=d) (w:=false) (w1:=false) (w2:=false) (hr:=hr) (own:=own) (fuel:=fuel) K.con
 have k4:=ajO nG nL (s:=s) (w:=false) (w1:=false) (w2:=false) (w3:=false) (own:=own) (fuel:=fuel) K.h0 K.hx K.inn K.out
 have k5:=aj1 nG nL (s:=s) (w:=false) (w1:=false) (w2:=false) (w3:=false) (own:=own) (fuel:=fuel) K.h0 K.hx
 have k6:=au3 nG nL (s:=s) (d:=d) (w:=false) (w1:=false) (w2:=false) (w3:=false) (hr:=hr) (own:=cD [] x own) (fuel:=fuel)
 have k7:=alI nG nL (d:=d) (w:=false) (w1:=false) (w2:=false) (w3:=false) (hr:=hr) (own:=cD [] x own) (fuel:=fuel) K.con
 have b5:=nX 5
 have b6:=nX 6
 have b7:=nX 7
 have b8:=nX 8
 simp only[qQ,vF,List.map_cons,adM]at b5 b6 b7 b8
 have c0:=ah1
 have c1:=ai5
 have c2:=jS
 have c3:=mW (l:=[]) (nn:=true) (by simp) (by simp)
 simp only[adM,Bg,adN,Ao.cells]at *
 cases nG<;>cases nL<;>cases nO<;>simp only[Xj,Bg,zg,zi,zl,zo,zb]at *
 all_goals
  refine Nk rfl Tryz.func64 rfl rfl ?_
  simp only[Tryz.f64]
  (have hb:=trivial;with_reducible repeat' (first|simp only[hb,Vc.down,seval,bA.down,c0,c1,c2,c3,Ae,arP,b5,b6,b7,b8,k1,k2,k3,k4,k5,k6,k7]|refine Aj ?_ ?_<;>intro hb|refine fd ?_|refine wV ?_|fail))
  first
  |exact⟨false,false,_,.inl ⟨rfl,rfl⟩⟩
  |exact⟨_,false,_,.inr (.inl ⟨rfl,rfl⟩)⟩
  |exact⟨false,_,_,.inr (.inr (.inl ⟨rfl,rfl⟩))⟩
  |exact⟨_,_,_,.inr (.inr (.inr ⟨rfl,rfl⟩))⟩
end Go.Proofs.YtdbiogihimdpcaaGreatDoor
