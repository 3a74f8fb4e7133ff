/- The functions of the layer, walked. -/
import Derived.Test.YtdbiogihimdpcaaGreatDoorPartAF
set_option linter.unusedSimpArgs false
set_option linter.unusedVariables false
/- Layer 6: an hour, method by method: wants, grants, flows, gas, bills. -/
namespace Go.Proofs.YtdbiogihimdpcaaGreatDoor
open Go.Ev Go
set_option maxRecDepth 100000
set_option maxHeartbeats 16000000
def HsB(s:BStore)(d:BDay)(hr own fuel:Int)(G L:List Int)(O:List BTrade)(R:List Int)(W:List Int)(r:Nat)(h:Heap):Prop:=
 6<r∧G.length=s.cons.length∧L.length=s.cons.length∧W.length=s.cons.length∧∃w w1 w2 ov rv iw w4,h[r]?=some (.live 19 false w [(rc s d hr (.slr 1 5 0 s.cons.length) own fuel (.slr 1 6 0 s.cons.length) ov (.slr 1 iw 0 s.cons.length) .nils .nils rv)])∧h[5]?=some (.live 1 true w1 (G.map iv))∧h[6]?=some (.live 1 true w2 (L.map iv))∧OvS O ov h∧RvS R rv [iw] h∧h[iw]?=some (.live 1 true w4 (W.map iv))∧6<iw
def HsC(s:BStore)(d:BDay)(hr own fuel:Int)(G L:List Int)(O:List BTrade)(R:List Int)(W A:List Int)(r:Nat)(h:Heap):Prop:=
 6<r∧G.length=s.cons.length∧L.length=s.cons.length∧W.length=s.cons.length∧A.length=s.cons.length∧∃w w1 w2 ov rv iw ia w4 w6,h[r]?=some (.live 19 false w [(rc s d hr (.slr 1 5 0 s.cons.length) own fuel (.slr 1 6 0 s.cons.length) ov (.slr 1 iw 0 s.cons.length) (.slr 1 ia 0 s.cons.length) .nils rv)])∧h[5]?=some (.live 1 true w1 (G.map iv))∧h[6]?=some (.live 1 true w2 (L.map iv))∧OvS O ov h∧RvS R rv [iw,ia] h∧h[iw]?=some (.live 1 true w4 (W.map iv))∧6<iw∧h[ia]?=some (.live 1 true w6 (A.map iv))∧6<ia∧iw≠ia
def HsD(s:BStore)(d:BDay)(hr own fuel:Int)(G L:List Int)(O:List BTrade)(R:List Int)(W A F:List Int)(r:Nat)(h:Heap):Prop:=
 6<r∧G.length=s.cons.length∧L.length=s.cons.length∧W.length=s.cons.length∧A.length=s.cons.length∧F.length=s.cons.length∧∃w w1 w2 ov rv iw ia jf w4 w6 w7,h[r]?=some (.live 19 false w [(rc s d hr (.slr 1 5 0 s.cons.length) own fuel (.slr 1 6 0 s.cons.length) ov (.slr 1 iw 0 s.cons.length) (.slr 1 ia 0 s.cons.length) (.slr 1 jf 0 s.cons.length) rv)])∧h[5]?=some (.live 1 true w1 (G.map iv))∧h[6]?=some (.live 1 true w2 (L.map iv))∧OvS O ov h∧RvS R rv [iw,ia,jf] h∧h[iw]?=some (.live 1 true w4 (W.map iv))∧6<iw∧h[ia]?=some (.live 1 true w6 (A.map iv))∧6<ia∧h[jf]?=some (.live 1 true w7 (F.map iv))∧6<jf∧iw≠ia∧iw≠jf∧ia≠jf
theorem wants_length(s:BStore)(d:BDay)(hr:Int)(G:List Int):∀(cs:List BCon) (i:Nat) (a:List Int),(actF (wantS s d hr G) cs i a).length=a.length
 | [],_,_=>rfl
 |c::cs,i,a=>by
  simp only[actF]
  rw[wants_length s d hr G cs]
  unfold wantS;split<;>(try split)<;>simp[sI_length]
theorem bills_length(hr:Int)(F W A:List Int):∀(cs:List BCon) (i:Nat) (a:List Int),(actF (billS hr F W A) cs i a).length=a.length
 | [],_,_=>rfl
 |c::cs,i,a=>by
  simp only[actF]
  rw[bills_length hr F W A cs,billS_length]
theorem gasF_length(f:Int):∀(F:List Int) (i:Nat) (G:List Int) (fu:Int),(gasF f F i (G,fu)).1.length=G.length
 | [],_,_,_=>rfl
 |n::F,i,G,fu=>by simp only[gasF];rw[gasF_length f F,sI_length]
theorem st_wants{s:BStore}{d:BDay}{hr own fuel:Int}{h:Heap}{r:Nat}{G L:List Int}{O:List BTrade}{R:List Int}(hl:s.cons.length≤1000)(hn:d.noms.length≤1000)(hc:∀c∈s.cons,ConW c)(H:HsA s d hr own fuel G L O R r h):
 ∃es,cl om' h (some (.func (.func 106) [.ptr r 0 0] [])) (some [])=some (.ret (.tup []),es)∧Bh5 h (happ h es)∧
  HsB s d hr own fuel G L O R (actF (wantS s d hr G) s.cons 0 (List.replicate s.cons.length 0)) r (happ h es):=by
 obtain⟨hr6,hG,hL,w,w1,w2,ov,rv,hR,hg,hb,hov,hrv⟩:=H
 have l1:=h_lt hR
 have l2:=h_lt hg
 have l3:=h_lt hb
 have hWl:(actF (wantS s d hr G) s.cons 0 (List.replicate s.cons.length 0)).length=s.cons.length:=by rw[wants_length];simp
 rcases hov with⟨rfl,rfl⟩|⟨io,w3,rfl,hio,hio6⟩<;>rcases hrv with⟨rfl,rfl⟩|⟨iq,w5,hRn,rfl,hiq,hiq6,hqx⟩
 ·have n_0_1:(r=5)=False:=eq_false (by omega)
  have n_0_2:(r=6)=False:=eq_false (by omega)
  obtain⟨o,h',e,rfl,ww,rfl⟩:=h_wantsA (s:=s) (d:=d) (hr:=hr) (own:=own) (fuel:=fuel) (G:=G) (L:=L) (O:=[]) (R:=[]) (w:=false) (w1:=false) (w2:=false) (w3:=false) (w5:=false) hG hl hn hc
  simp only[hG,hL,List.cons_append,List.nil_append]at e
  refine⟨_,by simp only[Vc.down,seval,hR,hg,hb,n_0_1,n_0_2,e];exact rfl,?_⟩
  simp only[happ,happ1]
  refine⟨fun x hx=>by((try simp (discharger:=((try simp only[List.length_set]);omega)) only[List.append_assoc,List.cons_append,List.nil_append,List.getElem?_append_left,List.getElem?_append_right,List.getElem?_set_ne,List.getElem?_set_self,List.length_set,Nat.sub_self,Nat.add_sub_cancel_left,List.getElem?_cons_zero,List.getElem?_cons_succ])<;>(first|exact rfl|exact rfl)),hr6,hG,hL,hWl,true,w1,w2,.nils,.nils,h.length,ww,?_,?_,?_,.inl ⟨rfl,rfl⟩,.inl ⟨rfl,rfl⟩,?_,by omega⟩
  all_goals ((try simp (discharger:=((try simp only[List.length_set]);omega)) only[List.append_assoc,List.cons_append,List.nil_append,List.getElem?_append_left,List.getElem?_append_right,List.getElem?_set_ne,List.getElem?_set_self,List.length_set,Nat.sub_self,Nat.add_sub_cancel_left,List.getElem?_cons_zero,List.getElem?_cons_succ])<;>(first|exact rfl|exact hR|exact hg|exact hb))
 ·have n_0_1:(r=5)=False:=eq_false (by omega)
  have n_0_2:(r=6)=False:=eq_false (by omega)
  have n_0_3:(r=iq)=False:=eq_false fun e=>by subst e;rw[hR]at hiq;simp at hiq
  have qn_0_3:r≠iq:=of_eq_false n_0_3
  have n_1_3:(5=iq)=False:=eq_false (by omega)
  have n_2_3:(6=iq)=False:=eq_false (by omega)
  have l5:=h_lt hiq
  obtain⟨o,h',e,rfl,ww,rfl⟩:=h_wantsC (s:=s) (d:=d) (hr:=hr) (own:=own) (fuel:=fuel) (G:=G) (L:=L) (O:=[]) (R:=R) (w:=false) (w1:=false) (w2:=false) (w3:=false) (w5:=false) hG hl hn hc
  simp only[hG,hL,List.cons_append,List.nil_append]at e
  refine⟨_,by simp only[Vc.down,seval,hR,hg,hb,hiq,n_0_1,n_0_2,n_0_3,n_1_3,n_2_3,e];exact rfl,?_⟩
  simp only[happ,happ1]
  refine⟨fun x hx=>by((try simp (discharger:=((try simp only[List.length_set]);omega)) only[List.append_assoc,List.cons_append,List.nil_append,List.getElem?_append_left,List.getElem?_append_right,List.getElem?_set_ne,List.getElem?_set_self,List.length_set,Nat.sub_self,Nat.add_sub_cancel_left,List.getElem?_cons_zero,List.getElem?_cons_succ])<;>(first|exact rfl|exact rfl)),hr6,hG,hL,hWl,true,w1,w2,.nils,.slr 1 iq 0 R.length,h.length,ww,?_,?_,?_,.inl ⟨rfl,rfl⟩,.inr ⟨iq,w5,hRn,rfl,?_,hiq6,by simp;omega⟩,?_,by omega⟩
  all_goals ((try simp (discharger:=((try simp only[List.length_set]);omega)) only[List.append_assoc,List.cons_append,List.nil_append,List.getElem?_append_left,List.getElem?_append_right,List.getElem?_set_ne,List.getElem?_set_self,List.length_set,Nat.sub_self,Nat.add_sub_cancel_left,List.getElem?_cons_zero,List.getElem?_cons_succ])<;>(first|exact rfl|exact hR|exact hg|exact hb|exact hiq))
 ·have n_0_1:(r=5)=False:=eq_false (by omega)
  have n_0_2:(r=6)=False:=eq_false (by omega)
  have n_0_3:(r=io)=False:=eq_false fun e=>by subst e;rw[hR]at hio;simp at hio
  have qn_0_3:r≠io:=of_eq_false n_0_3
  have n_1_3:(5=io)=False:=eq_false (by omega)
  have n_2_3:(6=io)=False:=eq_false (by omega)
  have l4:=h_lt hio
  obtain⟨o,h',e,rfl,ww,rfl⟩:=h_wantsB (s:=s) (d:=d) (hr:=hr) (own:=own) (fuel:=fuel) (G:=G) (L:=L) (O:=O) (R:=[]) (w:=false) (w1:=false) (w2:=false) (w3:=false) (w5:=false) hG hl hn hc
  simp only[hG,hL,List.cons_append,List.nil_append]at e
  refine⟨_,by simp only[Vc.down,seval,hR,hg,hb,hio,n_0_1,n_0_2,n_0_3,n_1_3,n_2_3,e];exact rfl,?_⟩
  simp only[happ,happ1]
  refine⟨fun x hx=>by((try simp (discharger:=((try simp only[List.length_set]);omega)) only[List.append_assoc,List.cons_append,List.nil_append,List.getElem?_append_left,List.getElem?_append_right,List.getElem?_set_ne,List.getElem?_set_self,List.length_set,Nat.sub_self,Nat.add_sub_cancel_left,List.getElem?_cons_zero,List.getElem?_cons_succ])<;>(first|exact rfl|exact rfl)),hr6,hG,hL,hWl,true,w1,w2,.slr 5 io 0 O.length,.nils,h.length,ww,?_,?_,?_,.inr ⟨io,w3,rfl,?_,hio6⟩,.inl ⟨rfl,rfl⟩,?_,by omega⟩
  all_goals ((try simp (discharger:=((try simp only[List.length_set]);omega)) only[List.append_assoc,List.cons_append,List.nil_append,List.getElem?_append_left,List.getElem?_append_right,List.getElem?_set_ne,List.getElem?_set_self,List.length_set,Nat.sub_self,Nat.add_sub_cancel_left,List.getElem?_cons_zero,List.getElem?_cons_succ])<;>(first|exact rfl|exact hR|exact hg|exact hb|exact hio))
 ·have n_0_1:(r=5)=False:=eq_false (by omega)
  have n_0_2:(r=6)=False:=eq_false (by omega)
  have n_0_3:(r=io)=False:=eq_false fun e=>by subst e;rw[hR]at hio;simp at hio
  have qn_0_3:r≠io:=of_eq_false n_0_3
  have n_0_4:(r=iq)=False:=eq_false fun e=>by subst e;rw[hR]at hiq;simp at hiq
  have qn_0_4:r≠iq:=of_eq_false n_0_4
  have n_1_3:(5=io)=False:=eq_false (by omega)
  have n_1_4:(5=iq)=False:=eq_false (by omega)
  have n_2_3:(6=io)=False:=eq_false (by omega)
  have n_2_4:(6=iq)=False:=eq_false (by omega)
  have n_3_4:(io=iq)=False:=eq_false fun e=>by subst e;rw[hio]at hiq;simp at hiq
  have qn_3_4:io≠iq:=of_eq_false n_3_4
  have l4:=h_lt hio
  have l5:=h_lt hiq
  obtain⟨o,h',e,rfl,ww,rfl⟩:=h_wantsD (s:=s) (d:=d) (hr:=hr) (own:=own) (fuel:=fuel) (G:=G) (L:=L) (O:=O) (R:=R) (w:=false) (w1:=false) (w2:=false) (w3:=false) (w5:=false) hG hl hn hc
  simp only[hG,hL,List.cons_append,List.nil_append]at e
  refine⟨_,by simp only[Vc.down,seval,hR,hg,hb,hio,hiq,n_0_1,n_0_2,n_0_3,n_0_4,n_1_3,n_1_4,n_2_3,n_2_4,n_3_4,e];exact rfl,?_⟩
  simp only[happ,happ1]
  refine⟨fun x hx=>by((try simp (discharger:=((try simp only[List.length_set]);omega)) only[List.append_assoc,List.cons_append,List.nil_append,List.getElem?_append_left,List.getElem?_append_right,List.getElem?_set_ne,List.getElem?_set_self,List.length_set,Nat.sub_self,Nat.add_sub_cancel_left,List.getElem?_cons_zero,List.getElem?_cons_succ])<;>(first|exact rfl|exact rfl)),hr6,hG,hL,hWl,true,w1,w2,.slr 5 io 0 O.length,.slr 1 iq 0 R.length,h.length,ww,?_,?_,?_,.inr ⟨io,w3,rfl,?_,hio6⟩,.inr ⟨iq,w5,hRn,rfl,?_,hiq6,by simp;omega⟩,?_,by omega⟩
  all_goals ((try simp (discharger:=((try simp only[List.length_set]);omega)) only[List.append_assoc,List.cons_append,List.nil_append,List.getElem?_append_left,List.getElem?_append_right,List.getElem?_set_ne,List.getElem?_set_self,List.length_set,Nat.sub_self,Nat.add_sub_cancel_left,List.getElem?_cons_zero,List.getElem?_cons_succ])<;>(first|exact rfl|exact hR|exact hg|exact hb|exact hio|exact hiq))
theorem st_grants{s:BStore}{d:BDay}{hr own fuel:Int}{h:Heap}{r:Nat}{G L:List Int}{O:List BTrade}{R W:List Int}{x:BHour}(hl:s.cons.length≤1000)(hn0:s.cons≠[])(h0:0≤hr)(hx:d.hours[hr.toNat]?=some x)(H:HsB s d hr own fuel G L O R W r h):
 ∃es,cl om' h (some (.func (.func 107) [.ptr r 0 0] [])) (some [])=some (.ret (.tup []),es)∧Bh5 h (happ h es)∧
  HsC s d hr own fuel G L O R W (grantAll grantL s.cons W x.inn x.out) r (happ h es):=by
 obtain⟨hr6,hG,hL,hWl,w,w1,w2,ov,rv,iw,w4,hR,hg,hb,hov,hrv,hw,hw6⟩:=H
 have l1:=h_lt hR
 have l2:=h_lt hg
 have l3:=h_lt hb
 have lw0:=h_lt hw
 have hW0:W≠[]:=fun e=>hn0 (List.length_eq_zero_iff.1 (by rw[←hWl,e];rfl))
 have hAl:(grantAll grantL s.cons W x.inn x.out).length=s.cons.length:=by simp[grantAll,grantL_length,hWl]
 rcases hov with⟨rfl,rfl⟩|⟨io,w3,rfl,hio,hio6⟩<;>rcases hrv with⟨rfl,rfl⟩|⟨iq,w5,hRn,rfl,hiq,hiq6,hqx⟩
 ·have n_0_1:(r=5)=False:=eq_false (by omega)
  have n_0_2:(r=6)=False:=eq_false (by omega)
  have n_0_3:(r=iw)=False:=eq_false fun e=>by subst e;rw[hR]at hw;simp at hw
  have qn_0_3:r≠iw:=of_eq_false n_0_3
  have n_1_3:(5=iw)=False:=eq_false (by omega)
  have n_2_3:(6=iw)=False:=eq_false (by omega)
  obtain⟨o,h',e,rfl,rfl⟩:=h_grantsA (s:=s) (d:=d) (hr:=hr) (own:=own) (fuel:=fuel) (G:=G) (L:=L) (O:=[]) (R:=[]) (W:=W) (w:=false) (w1:=false) (w2:=false) (w3:=false) (w5:=false) (w4:=false) hWl (by omega) hW0 h0 hx
  simp only[hG,hL,hWl,List.cons_append,List.nil_append]at e
  refine⟨_,by simp only[Vc.down,seval,hR,hg,hb,hw,n_0_1,n_0_2,n_0_3,n_1_3,n_2_3,e];exact rfl,?_⟩
  simp only[happ,happ1]
  refine⟨fun x hx=>by((try simp (discharger:=((try simp only[List.length_set]);omega)) only[List.append_assoc,List.cons_append,List.nil_append,List.getElem?_append_left,List.getElem?_append_right,List.getElem?_set_ne,List.getElem?_set_self,List.length_set,Nat.sub_self,Nat.add_sub_cancel_left,List.getElem?_cons_zero,List.getElem?_cons_succ])<;>(first|exact rfl|exact rfl)),hr6,hG,hL,hWl,hAl,true,w1,w2,.nils,.nils,iw,h.length,w4,false,?_,?_,?_,.inl ⟨rfl,rfl⟩,.inl ⟨rfl,rfl⟩,?_,hw6,?_,by omega,by omega⟩
  all_goals ((try simp (discharger:=((try simp only[List.length_set]);omega)) only[List.append_assoc,List.cons_append,List.nil_append,List.getElem?_append_left,List.getElem?_append_right,List.getElem?_set_ne,List.getElem?_set_self,List.length_set,Nat.sub_self,Nat.add_sub_cancel_left,List.getElem?_cons_zero,List.getElem?_cons_succ])<;>(first|exact rfl|exact hR|exact hg|exact hb|exact hw))
 ·have n_0_1:(r=5)=False:=eq_false (by omega)
  have n_0_2:(r=6)=False:=eq_false (by omega)
  have n_0_3:(r=iw)=False:=eq_false fun e=>by subst e;rw[hR]at hw;simp at hw
  have qn_0_3:r≠iw:=of_eq_false n_0_3
  have n_0_4:(r=iq)=False:=eq_false fun e=>by subst e;rw[hR]at hiq;simp at hiq
  have qn_0_4:r≠iq:=of_eq_false n_0_4
  have n_1_3:(5=iw)=False:=eq_false (by omega)
  have n_1_4:(5=iq)=False:=eq_false (by omega)
  have n_2_3:(6=iw)=False:=eq_false (by omega)
  have n_2_4:(6=iq)=False:=eq_false (by omega)
  have n_3_4:(iw=iq)=False:=eq_false fun e=>by subst e;simp at hqx
  have qn_3_4:iw≠iq:=of_eq_false n_3_4
  have l5:=h_lt hiq
  obtain⟨o,h',e,rfl,rfl⟩:=h_grantsC (s:=s) (d:=d) (hr:=hr) (own:=own) (fuel:=fuel) (G:=G) (L:=L) (O:=[]) (R:=R) (W:=W) (w:=false) (w1:=false) (w2:=false) (w3:=false) (w5:=false) (w4:=false) hWl (by omega) hW0 h0 hx
  simp only[hG,hL,hWl,List.cons_append,List.nil_append]at e
  refine⟨_,by simp only[Vc.down,seval,hR,hg,hb,hw,hiq,n_0_1,n_0_2,n_0_3,n_0_4,n_1_3,n_1_4,n_2_3,n_2_4,n_3_4,e];exact rfl,?_⟩
  simp only[happ,happ1]
  refine⟨fun x hx=>by((try simp (discharger:=((try simp only[List.length_set]);omega)) only[List.append_assoc,List.cons_append,List.nil_append,List.getElem?_append_left,List.getElem?_append_right,List.getElem?_set_ne,List.getElem?_set_self,List.length_set,Nat.sub_self,Nat.add_sub_cancel_left,List.getElem?_cons_zero,List.getElem?_cons_succ])<;>(first|exact rfl|exact rfl)),hr6,hG,hL,hWl,hAl,true,w1,w2,.nils,.slr 1 iq 0 R.length,iw,h.length,w4,false,?_,?_,?_,.inl ⟨rfl,rfl⟩,.inr ⟨iq,w5,hRn,rfl,?_,hiq6,by simp;omega⟩,?_,hw6,?_,by omega,by omega⟩
  all_goals ((try simp (discharger:=((try simp only[List.length_set]);omega)) only[List.append_assoc,List.cons_append,List.nil_append,List.getElem?_append_left,List.getElem?_append_right,List.getElem?_set_ne,List.getElem?_set_self,List.length_set,Nat.sub_self,Nat.add_sub_cancel_left,List.getElem?_cons_zero,List.getElem?_cons_succ])<;>(first|exact rfl|exact hR|exact hg|exact hb|exact hw|exact hiq))
 ·have n_0_1:(r=5)=False:=eq_false (by omega)
  have n_0_2:(r=6)=False:=eq_false (by omega)
  have n_0_3:(r=io)=False:=eq_false fun e=>by subst e;rw[hR]at hio;simp at hio
  have qn_0_3:r≠io:=of_eq_false n_0_3
  have n_0_4:(r=iw)=False:=eq_false fun e=>by subst e;rw[hR]at hw;simp at hw
  have qn_0_4:r≠iw:=of_eq_false n_0_4
  have n_1_3:(5=io)=False:=eq_false (by omega)
  have n_1_4:(5=iw)=False:=eq_false (by omega)
  have n_2_3:(6=io)=False:=eq_false (by omega)
  have n_2_4:(6=iw)=False:=eq_false (by omega)
  have n_3_4:(io=iw)=False:=eq_false fun e=>by subst e;rw[hio]at hw;simp at hw
  have qn_3_4:io≠iw:=of_eq_false n_3_4
  have l4:=h_lt hio
  obtain⟨o,h',e,rfl,rfl⟩:=h_grantsB (s:=s) (d:=d) (hr:=hr) (own:=own) (fuel:=fuel) (G:=G) (L:=L) (O:=O) (R:=[]) (W:=W) (w:=false) (w1:=false) (w2:=false) (w3:=false) (w5:=false) (w4:=false) hWl (by omega) hW0 h0 hx
  simp only[hG,hL,hWl,List.cons_append,List.nil_append]at e
  refine⟨_,by simp only[Vc.down,seval,hR,hg,hb,hio,hw,n_0_1,n_0_2,n_0_3,n_0_4,n_1_3,n_1_4,n_2_3,n_2_4,n_3_4,e];exact rfl,?_⟩
  simp only[happ,happ1]
  refine⟨fun x hx=>by((try simp (discharger:=((try simp only[List.length_set]);omega)) only[List.append_assoc,List.cons_append,List.nil_append,List.getElem?_append_left,List.getElem?_append_right,List.getElem?_set_ne,List.getElem?_set_self,List.length_set,Nat.sub_self,Nat.add_sub_cancel_left,List.getElem?_cons_zero,List.getElem?_cons_succ])<;>(first|exact rfl|exact rfl)),hr6,hG,hL,hWl,hAl,true,w1,w2,.slr 5 io 0 O.length,.nils,iw,h.length,w4,false,?_,?_,?_,.inr ⟨io,w3,rfl,?_,hio6⟩,.inl ⟨rfl,rfl⟩,?_,hw6,?_,by omega,by omega⟩
  all_goals ((try simp (discharger:=((try simp only[List.length_set]);omega)) only[List.append_assoc,List.cons_append,List.nil_append,List.getElem?_append_left,List.getElem?_append_right,List.getElem?_set_ne,List.getElem?_set_self,List.length_set,Nat.sub_self,Nat.add_sub_cancel_left,List.getElem?_cons_zero,List.getElem?_cons_succ])<;>(first|exact rfl|exact hR|exact hg|exact hb|exact hio|exact hw))
 ·have n_0_1:(r=5)=False:=eq_false (by omega)
  have n_0_2:(r=6)=False:=eq_false (by omega)
  have n_0_3:(r=io)=False:=eq_false fun e=>by subst e;rw[hR]at hio;simp at hio
  have qn_0_3:r≠io:=of_eq_false n_0_3
  have n_0_4:(r=iw)=False:=eq_false fun e=>by subst e;rw[hR]at hw;simp at hw
  have qn_0_4:r≠iw:=of_eq_false n_0_4
  have n_0_5:(r=iq)=False:=eq_false fun e=>by subst e;rw[hR]at hiq;simp at hiq
  have qn_0_5:r≠iq:=of_eq_false n_0_5
  have n_1_3:(5=io)=False:=eq_false (by omega)
  have n_1_4:(5=iw)=False:=eq_false (by omega)
  have n_1_5:(5=iq)=False:=eq_false (by omega)
  have n_2_3:(6=io)=False:=eq_false (by omega)
  have n_2_4:(6=iw)=False:=eq_false (by omega)
  have n_2_5:(6=iq)=False:=eq_false (by omega)
  have n_3_4:(io=iw)=False:=eq_false fun e=>by subst e;rw[hio]at hw;simp at hw
  have qn_3_4:io≠iw:=of_eq_false n_3_4
  have n_3_5:(io=iq)=False:=eq_false fun e=>by subst e;rw[hio]at hiq;simp at hiq
  have qn_3_5:io≠iq:=of_eq_false n_3_5
  have n_4_5:(iw=iq)=False:=eq_false fun e=>by subst e;simp at hqx
  have qn_4_5:iw≠iq:=of_eq_false n_4_5
  have l4:=h_lt hio
  have l5:=h_lt hiq
  obtain⟨o,h',e,rfl,rfl⟩:=h_grantsD (s:=s) (d:=d) (hr:=hr) (own:=own) (fuel:=fuel) (G:=G) (L:=L) (O:=O) (R:=R) (W:=W) (w:=false) (w1:=false) (w2:=false) (w3:=false) (w5:=false) (w4:=false) hWl (by omega) hW0 h0 hx
  simp only[hG,hL,hWl,List.cons_append,List.nil_append]at e
  refine⟨_,by simp only[Vc.down,seval,hR,hg,hb,hio,hw,hiq,n_0_1,n_0_2,n_0_3,n_0_4,n_0_5,n_1_3,n_1_4,n_1_5,n_2_3,n_2_4,n_2_5,n_3_4,n_3_5,n_4_5,e];exact rfl,?_⟩
  simp only[happ,happ1]
  refine⟨fun x hx=>by((try simp (discharger:=((try simp only[List.length_set]);omega)) only[List.append_assoc,List.cons_append,List.nil_append,List.getElem?_append_left,List.getElem?_append_right,List.getElem?_set_ne,List.getElem?_set_self,List.length_set,Nat.sub_self,Nat.add_sub_cancel_left,List.getElem?_cons_zero,List.getElem?_cons_succ])<;>(first|exact rfl|exact rfl)),hr6,hG,hL,hWl,hAl,true,w1,w2,.slr 5 io 0 O.length,.slr 1 iq 0 R.length,iw,h.length,w4,false,?_,?_,?_,.inr ⟨io,w3,rfl,?_,hio6⟩,.inr ⟨iq,w5,hRn,rfl,?_,hiq6,by simp;omega⟩,?_,hw6,?_,by omega,by omega⟩
  all_goals ((try simp (discharger:=((try simp only[List.length_set]);omega)) only[List.append_assoc,List.cons_append,List.nil_append,List.getElem?_append_left,List.getElem?_append_right,List.getElem?_set_ne,List.getElem?_set_self,List.length_set,Nat.sub_self,Nat.add_sub_cancel_left,List.getElem?_cons_zero,List.getElem?_cons_succ])<;>(first|exact rfl|exact hR|exact hg|exact hb|exact hio|exact hw|exact hiq))
theorem st_flows{s:BStore}{d:BDay}{hr own fuel:Int}{h:Heap}{r:Nat}{G L:List Int}{O:List BTrade}{R W A:List Int}{x:BHour}(hl:s.cons.length≤1000)(hn0:s.cons≠[])(h0:0≤hr)(hx:d.hours[hr.toNat]?=some x)(H:HsC s d hr own fuel G L O R W A r h):
 ∃es,cl om' h (some (.func (.func 108) [.ptr r 0 0] [])) (some [])=some (.ret (.tup []),es)∧Bh5 h (happ h es)∧
  HsD s d hr (ownL A x own) fuel G L O R W A (flowsL A x) r (happ h es):=by
 obtain⟨hr6,hG,hL,hWl,hAl,w,w1,w2,ov,rv,iw,ia,w4,w6,hR,hg,hb,hov,hrv,hw,hw6,ha,ha6,d01⟩:=H
 have l1:=h_lt hR
 have l2:=h_lt hg
 have l3:=h_lt hb
 have lw0:=h_lt hw
 have lw1:=h_lt ha
 have hA0:A≠[]:=fun e=>hn0 (List.length_eq_zero_iff.1 (by rw[←hAl,e];rfl))
 have hFl:(flowsL A x).length=s.cons.length:=by simp[flowsL,shareL,shareF_len,hAl]
 rcases hov with⟨rfl,rfl⟩|⟨io,w3,rfl,hio,hio6⟩<;>rcases hrv with⟨rfl,rfl⟩|⟨iq,w5,hRn,rfl,hiq,hiq6,hqx⟩
 ·have n_0_1:(r=5)=False:=eq_false (by omega)
  have n_0_2:(r=6)=False:=eq_false (by omega)
  have n_0_3:(r=iw)=False:=eq_false fun e=>by subst e;rw[hR]at hw;simp at hw
  have qn_0_3:r≠iw:=of_eq_false n_0_3
  have n_0_4:(r=ia)=False:=eq_false fun e=>by subst e;rw[hR]at ha;simp at ha
  have qn_0_4:r≠ia:=of_eq_false n_0_4
  have n_1_3:(5=iw)=False:=eq_false (by omega)
  have n_1_4:(5=ia)=False:=eq_false (by omega)
  have n_2_3:(6=iw)=False:=eq_false (by omega)
  have n_2_4:(6=ia)=False:=eq_false (by omega)
  have n_3_4:(iw=ia)=False:=eq_false d01
  have qn_3_4:iw≠ia:=of_eq_false n_3_4
  obtain⟨o,h',e,rfl,rfl⟩:=h_flowsA (s:=s) (d:=d) (hr:=hr) (own:=own) (fuel:=fuel) (G:=G) (L:=L) (O:=[]) (R:=[]) (W:=W) (A:=A) (w:=false) (w1:=false) (w2:=false) (w3:=false) (w5:=false) (w4:=false) (w6:=false) (by omega) hA0 h0 hx
  simp only[hG,hL,hWl,hAl,List.cons_append,List.nil_append]at e
  refine⟨_,by simp only[Vc.down,seval,hR,hg,hb,hw,ha,n_0_1,n_0_2,n_0_3,n_0_4,n_1_3,n_1_4,n_2_3,n_2_4,n_3_4,e];exact rfl,?_⟩
  simp only[happ,happ1]
  refine⟨fun x hx=>by((try simp (discharger:=((try simp only[List.length_set]);omega)) only[List.append_assoc,List.cons_append,List.nil_append,List.getElem?_append_left,List.getElem?_append_right,List.getElem?_set_ne,List.getElem?_set_self,List.length_set,Nat.sub_self,Nat.add_sub_cancel_left,List.getElem?_cons_zero,List.getElem?_cons_succ])<;>(first|exact rfl|exact rfl)),hr6,hG,hL,hWl,hAl,hFl,true,w1,w2,.nils,.nils,iw,ia,h.length,w4,w6,false,?_,?_,?_,.inl ⟨rfl,rfl⟩,.inl ⟨rfl,rfl⟩,?_,hw6,?_,ha6,?_,by omega,d01,by omega,by omega⟩
  all_goals ((try simp (discharger:=((try simp only[List.length_set]);omega)) only[List.append_assoc,List.cons_append,List.nil_append,List.getElem?_append_left,List.getElem?_append_right,List.getElem?_set_ne,List.getElem?_set_self,List.length_set,Nat.sub_self,Nat.add_sub_cancel_left,List.getElem?_cons_zero,List.getElem?_cons_succ])<;>(first|exact rfl|exact hR|exact hg|exact hb|exact hw|exact ha))
 ·have n_0_1:(r=5)=False:=eq_false (by omega)
  have n_0_2:(r=6)=False:=eq_false (by omega)
  have n_0_3:(r=iw)=False:=eq_false fun e=>by subst e;rw[hR]at hw;simp at hw
  have qn_0_3:r≠iw:=of_eq_false n_0_3
  have n_0_4:(r=ia)=False:=eq_false fun e=>by subst e;rw[hR]at ha;simp at ha
  have qn_0_4:r≠ia:=of_eq_false n_0_4
  have n_0_5:(r=iq)=False:=eq_false fun e=>by subst e;rw[hR]at hiq;simp at hiq
  have qn_0_5:r≠iq:=of_eq_false n_0_5
  have n_1_3:(5=iw)=False:=eq_false (by omega)
  have n_1_4:(5=ia)=False:=eq_false (by omega)
  have n_1_5:(5=iq)=False:=eq_false (by omega)
  have n_2_3:(6=iw)=False:=eq_false (by omega)
  have n_2_4:(6=ia)=False:=eq_false (by omega)
  have n_2_5:(6=iq)=False:=eq_false (by omega)
  have n_3_4:(iw=ia)=False:=eq_false d01
  have qn_3_4:iw≠ia:=of_eq_false n_3_4
  have n_3_5:(iw=iq)=False:=eq_false fun e=>by subst e;simp at hqx
  have qn_3_5:iw≠iq:=of_eq_false n_3_5
  have n_4_5:(ia=iq)=False:=eq_false fun e=>by subst e;simp at hqx
  have qn_4_5:ia≠iq:=of_eq_false n_4_5
  have l5:=h_lt hiq
  obtain⟨o,h',e,rfl,rfl⟩:=h_flowsC (s:=s) (d:=d) (hr:=hr) (own:=own) (fuel:=fuel) (G:=G) (L:=L) (O:=[]) (R:=R) (W:=W) (A:=A) (w:=false) (w1:=false) (w2:=false) (w3:=false) (w5:=false) (w4:=false) (w6:=false) (by omega) hA0 h0 hx
  simp only[hG,hL,hWl,hAl,List.cons_append,List.nil_append]at e
  refine⟨_,by simp only[Vc.down,seval,hR,hg,hb,hw,ha,hiq,n_0_1,n_0_2,n_0_3,n_0_4,n_0_5,n_1_3,n_1_4,n_1_5,n_2_3,n_2_4,n_2_5,n_3_4,n_3_5,n_4_5,e];exact rfl,?_⟩
  simp only[happ,happ1]
  refine⟨fun x hx=>by((try simp (discharger:=((try simp only[List.length_set]);omega)) only[List.append_assoc,List.cons_append,List.nil_append,List.getElem?_append_left,List.getElem?_append_right,List.getElem?_set_ne,List.getElem?_set_self,List.length_set,Nat.sub_self,Nat.add_sub_cancel_left,List.getElem?_cons_zero,List.getElem?_cons_succ])<;>(first|exact rfl|exact rfl)),hr6,hG,hL,hWl,hAl,hFl,true,w1,w2,.nils,.slr 1 iq 0 R.length,iw,ia,h.length,w4,w6,false,?_,?_,?_,.inl ⟨rfl,rfl⟩,.inr ⟨iq,w5,hRn,rfl,?_,hiq6,by simp at hqx ⊢;omega⟩,?_,hw6,?_,ha6,?_,by omega,d01,by omega,by omega⟩
  all_goals ((try simp (discharger:=((try simp only[List.length_set]);omega)) only[List.append_assoc,List.cons_append,List.nil_append,List.getElem?_append_left,List.getElem?_append_right,List.getElem?_set_ne,List.getElem?_set_self,List.length_set,Nat.sub_self,Nat.add_sub_cancel_left,List.getElem?_cons_zero,List.getElem?_cons_succ])<;>(first|exact rfl|exact hR|exact hg|exact hb|exact hw|exact ha|exact hiq))
 ·have n_0_1:(r=5)=False:=eq_false (by omega)
  have n_0_2:(r=6)=False:=eq_false (by omega)
  have n_0_3:(r=io)=False:=eq_false fun e=>by subst e;rw[hR]at hio;simp at hio
  have qn_0_3:r≠io:=of_eq_false n_0_3
  have n_0_4:(r=iw)=False:=eq_false fun e=>by subst e;rw[hR]at hw;simp at hw
  have qn_0_4:r≠iw:=of_eq_false n_0_4
  have n_0_5:(r=ia)=False:=eq_false fun e=>by subst e;rw[hR]at ha;simp at ha
  have qn_0_5:r≠ia:=of_eq_false n_0_5
  have n_1_3:(5=io)=False:=eq_false (by omega)
  have n_1_4:(5=iw)=False:=eq_false (by omega)
  have n_1_5:(5=ia)=False:=eq_false (by omega)
  have n_2_3:(6=io)=False:=eq_false (by omega)
  have n_2_4:(6=iw)=False:=eq_false (by omega)
  have n_2_5:(6=ia)=False:=eq_false (by omega)
  have n_3_4:(io=iw)=False:=eq_false fun e=>by subst e;rw[hio]at hw;simp at hw
  have qn_3_4:io≠iw:=of_eq_false n_3_4
  have n_3_5:(io=ia)=False:=eq_false fun e=>by subst e;rw[hio]at ha;simp at ha
  have qn_3_5:io≠ia:=of_eq_false n_3_5
  have n_4_5:(iw=ia)=False:=eq_false d01
  have qn_4_5:iw≠ia:=of_eq_false n_4_5
  have l4:=h_lt hio
  obtain⟨o,h',e,rfl,rfl⟩:=h_flowsB (s:=s) (d:=d) (hr:=hr) (own:=own) (fuel:=fuel) (G:=G) (L:=L) (O:=O) (R:=[]) (W:=W) (A:=A) (w:=false) (w1:=false) (w2:=false) (w3:=false) (w5:=false) (w4:=false) (w6:=false) (by omega) hA0 h0 hx
  simp only[hG,hL,hWl,hAl,List.cons_append,List.nil_append]at e
  refine⟨_,by simp only[Vc.down,seval,hR,hg,hb,hio,hw,ha,n_0_1,n_0_2,n_0_3,n_0_4,n_0_5,n_1_3,n_1_4,n_1_5,n_2_3,n_2_4,n_2_5,n_3_4,n_3_5,n_4_5,e];exact rfl,?_⟩
  simp only[happ,happ1]
  refine⟨fun x hx=>by((try simp (discharger:=((try simp only[List.length_set]);omega)) only[List.append_assoc,List.cons_append,List.nil_append,List.getElem?_append_left,List.getElem?_append_right,List.getElem?_set_ne,List.getElem?_set_self,List.length_set,Nat.sub_self,Nat.add_sub_cancel_left,List.getElem?_cons_zero,List.getElem?_cons_succ])<;>(first|exact rfl|exact rfl)),hr6,hG,hL,hWl,hAl,hFl,true,w1,w2,.slr 5 io 0 O.length,.nils,iw,ia,h.length,w4,w6,false,?_,?_,?_,.inr ⟨io,w3,rfl,?_,hio6⟩,.inl ⟨rfl,rfl⟩,?_,hw6,?_,ha6,?_,by omega,d01,by omega,by omega⟩
  all_goals ((try simp (discharger:=((try simp only[List.length_set]);omega)) only[List.append_assoc,List.cons_append,List.nil_append,List.getElem?_append_left,List.getElem?_append_right,List.getElem?_set_ne,List.getElem?_set_self,List.length_set,Nat.sub_self,Nat.add_sub_cancel_left,List.getElem?_cons_zero,List.getElem?_cons_succ])<;>(first|exact rfl|exact hR|exact hg|exact hb|exact hio|exact hw|exact ha))
 ·have n_0_1:(r=5)=False:=eq_false (by omega)
  have n_0_2:(r=6)=False:=eq_false (by omega)
  have n_0_3:(r=io)=False:=eq_false fun e=>by subst e;rw[hR]at hio;simp at hio
  have qn_0_3:r≠io:=of_eq_false n_0_3
  have n_0_4:(r=iw)=False:=eq_false fun e=>by subst e;rw[hR]at hw;simp at hw
  have qn_0_4:r≠iw:=of_eq_false n_0_4
  have n_0_5:(r=ia)=False:=eq_false fun e=>by subst e;rw[hR]at ha;simp at ha
  have qn_0_5:r≠ia:=of_eq_false n_0_5
  have n_0_6:(r=iq)=False:=eq_false fun e=>by subst e;rw[hR]at hiq;simp at hiq
  have qn_0_6:r≠iq:=of_eq_false n_0_6
  have n_1_3:(5=io)=False:=eq_false (by omega)
  have n_1_4:(5=iw)=False:=eq_false (by omega)
  have n_1_5:(5=ia)=False:=eq_false (by omega)
  have n_1_6:(5=iq)=False:=eq_false (by omega)
  have n_2_3:(6=io)=False:=eq_false (by omega)
  have n_2_4:(6=iw)=False:=eq_false (by omega)
  have n_2_5:(6=ia)=False:=eq_false (by omega)
  have n_2_6:(6=iq)=False:=eq_false (by omega)
  have n_3_4:(io=iw)=False:=eq_false fun e=>by subst e;rw[hio]at hw;simp at hw
  have qn_3_4:io≠iw:=of_eq_false n_3_4
  have n_3_5:(io=ia)=False:=eq_false fun e=>by subst e;rw[hio]at ha;simp at ha
  have qn_3_5:io≠ia:=of_eq_false n_3_5
  have n_3_6:(io=iq)=False:=eq_false fun e=>by subst e;rw[hio]at hiq;simp at hiq
  have qn_3_6:io≠iq:=of_eq_false n_3_6
  have n_4_5:(iw=ia)=False:=eq_false d01
  have qn_4_5:iw≠ia:=of_eq_false n_4_5
  have n_4_6:(iw=iq)=False:=eq_false fun e=>by subst e;simp at hqx
  have qn_4_6:iw≠iq:=of_eq_false n_4_6
  have n_5_6:(ia=iq)=False:=eq_false fun e=>by subst e;simp at hqx
  have qn_5_6:ia≠iq:=of_eq_false n_5_6
  have l4:=h_lt hio
  have l5:=h_lt hiq
  obtain⟨o,h',e,rfl,rfl⟩:=h_flowsD (s:=s) (d:=d) (hr:=hr) (own:=own) (fuel:=fuel) (G:=G) (L:=L) (O:=O) (R:=R) (W:=W) (A:=A) (w:=false) (w1:=false) (w2:=false) (w3:=false) (w5:=false) (w4:=false) (w6:=false) (by omega) hA0 h0 hx
  simp only[hG,hL,hWl,hAl,List.cons_append,List.nil_append]at e
  refine⟨_,by simp only[Vc.down,seval,hR,hg,hb,hio,hw,ha,hiq,n_0_1,n_0_2,n_0_3,n_0_4,n_0_5,n_0_6,n_1_3,n_1_4,n_1_5,n_1_6,n_2_3,n_2_4,n_2_5,n_2_6,n_3_4,n_3_5,n_3_6,n_4_5,n_4_6,n_5_6,e];exact rfl,?_⟩
  simp only[happ,happ1]
  refine⟨fun x hx=>by((try simp (discharger:=((try simp only[List.length_set]);omega)) only[List.append_assoc,List.cons_append,List.nil_append,List.getElem?_append_left,List.getElem?_append_right,List.getElem?_set_ne,List.getElem?_set_self,List.length_set,Nat.sub_self,Nat.add_sub_cancel_left,List.getElem?_cons_zero,List.getElem?_cons_succ])<;>(first|exact rfl|exact rfl)),hr6,hG,hL,hWl,hAl,hFl,true,w1,w2,.slr 5 io 0 O.length,.slr 1 iq 0 R.length,iw,ia,h.length,w4,w6,false,?_,?_,?_,.inr ⟨io,w3,rfl,?_,hio6⟩,.inr ⟨iq,w5,hRn,rfl,?_,hiq6,by simp at hqx ⊢;omega⟩,?_,hw6,?_,ha6,?_,by omega,d01,by omega,by omega⟩
  all_goals ((try simp (discharger:=((try simp only[List.length_set]);omega)) only[List.append_assoc,List.cons_append,List.nil_append,List.getElem?_append_left,List.getElem?_append_right,List.getElem?_set_ne,List.getElem?_set_self,List.length_set,Nat.sub_self,Nat.add_sub_cancel_left,List.getElem?_cons_zero,List.getElem?_cons_succ])<;>(first|exact rfl|exact hR|exact hg|exact hb|exact hio|exact hw|exact ha|exact hiq))
theorem st_gas{s:BStore}{d:BDay}{hr own fuel:Int}{h:Heap}{r:Nat}{G L:List Int}{O:List BTrade}{R W A F:List Int}(hl:s.cons.length≤1000)(H:HsD s d hr own fuel G L O R W A F r h):
 ∃es,cl om' h (some (.func (.func 109) [.ptr r 0 0] [])) (some [])=some (.ret (.tup []),es)∧Bh5 h (happ h es)∧
  HsD s d hr own (gasF s.fuel F 0 (G,fuel)).2 (gasF s.fuel F 0 (G,fuel)).1 L O R W A F r (happ h es):=by
 obtain⟨hr6,hG,hL,hWl,hAl,hFl,w,w1,w2,ov,rv,iw,ia,jf,w4,w6,w7,hR,hg,hb,hov,hrv,hw,hw6,ha,ha6,hf,hf6,d01,d02,d12⟩:=H
 have l1:=h_lt hR
 have l2:=h_lt hg
 have l3:=h_lt hb
 have lw0:=h_lt hw
 have lw1:=h_lt ha
 have lw2:=h_lt hf
 have hGl:(gasF s.fuel F 0 (G,fuel)).1.length=s.cons.length:=by rw[gasF_length,hG]
 rcases hov with⟨rfl,rfl⟩|⟨io,w3,rfl,hio,hio6⟩<;>rcases hrv with⟨rfl,rfl⟩|⟨iq,w5,hRn,rfl,hiq,hiq6,hqx⟩
 ·have n_0_1:(r=5)=False:=eq_false (by omega)
  have n_0_2:(r=6)=False:=eq_false (by omega)
  have n_0_3:(r=iw)=False:=eq_false fun e=>by subst e;rw[hR]at hw;simp at hw
  have qn_0_3:r≠iw:=of_eq_false n_0_3
  have n_0_4:(r=ia)=False:=eq_false fun e=>by subst e;rw[hR]at ha;simp at ha
  have qn_0_4:r≠ia:=of_eq_false n_0_4
  have n_0_5:(r=jf)=False:=eq_false fun e=>by subst e;rw[hR]at hf;simp at hf
  have qn_0_5:r≠jf:=of_eq_false n_0_5
  have n_1_3:(5=iw)=False:=eq_false (by omega)
  have n_1_4:(5=ia)=False:=eq_false (by omega)
  have n_1_5:(5=jf)=False:=eq_false (by omega)
  have n_2_3:(6=iw)=False:=eq_false (by omega)
  have n_2_4:(6=ia)=False:=eq_false (by omega)
  have n_2_5:(6=jf)=False:=eq_false (by omega)
  have n_3_4:(iw=ia)=False:=eq_false d01
  have qn_3_4:iw≠ia:=of_eq_false n_3_4
  have n_3_5:(iw=jf)=False:=eq_false d02
  have qn_3_5:iw≠jf:=of_eq_false n_3_5
  have n_4_5:(ia=jf)=False:=eq_false d12
  have qn_4_5:ia≠jf:=of_eq_false n_4_5
  obtain⟨o,h',e,rfl,wr,wG,hwG,hwr,rfl⟩:=h_gasA (s:=s) (d:=d) (hr:=hr) (own:=own) (fuel:=fuel) (G:=G) (L:=L) (O:=[]) (R:=[]) (W:=W) (A:=A) (F:=F) (w:=false) (w1:=false) (w2:=false) (w3:=false) (w5:=false) (w4:=false) (w6:=false) (w7:=false) (by omega) (by omega)
  generalize hFu:gasF s.fuel F 0 (G,fuel)=gf at *
  obtain⟨G',fu'⟩:=gf
  dsimp only at *
  simp only[hG,hL,hWl,hAl,hFl,List.cons_append,List.nil_append]at e
  obtain⟨vG,hvG⟩:∃v,v=wG:=⟨_,rfl⟩
  obtain⟨vr,hvr⟩:∃v,v=wr:=⟨_,rfl⟩
  cases wr<;>cases wG<;>(try have:=hwG rfl)<;>(try subst G')<;>(try have:=hwr rfl)<;>(try subst fu')<;>(
   refine⟨_,by simp only[Vc.down,seval,hR,hg,hb,hw,ha,hf,n_0_1,n_0_2,n_0_3,n_0_4,n_0_5,n_1_3,n_1_4,n_1_5,n_2_3,n_2_4,n_2_5,n_3_4,n_3_5,n_4_5,e];exact rfl,?_⟩
   simp only[happ,happ1]
   refine⟨fun x hx=>by((try simp (discharger:=((try simp only[List.length_set]);omega)) only[List.append_assoc,List.cons_append,List.nil_append,List.getElem?_append_left,List.getElem?_append_right,List.getElem?_set_ne,List.getElem?_set_self,List.length_set,Nat.sub_self,Nat.add_sub_cancel_left,List.getElem?_cons_zero,List.getElem?_cons_succ])<;>(first|exact rfl|exact rfl)),hr6,hGl,hL,hWl,hAl,hFl,(vr||w),(vG||w1),w2,.nils,.nils,iw,ia,jf,w4,w6,w7,?_,?_,?_,.inl ⟨rfl,rfl⟩,.inl ⟨rfl,rfl⟩,?_,hw6,?_,ha6,?_,hf6,d01,d02,d12⟩
   all_goals (subst vr;subst vG;((try simp (discharger:=((try simp only[List.length_set]);omega)) only[List.append_assoc,List.cons_append,List.nil_append,List.getElem?_append_left,List.getElem?_append_right,List.getElem?_set_ne,List.getElem?_set_self,List.length_set,Nat.sub_self,Nat.add_sub_cancel_left,List.getElem?_cons_zero,List.getElem?_cons_succ])<;>(first|exact rfl|exact hR|exact hg|exact hb|exact hw|exact ha|exact hf))))
 ·have n_0_1:(r=5)=False:=eq_false (by omega)
  have n_0_2:(r=6)=False:=eq_false (by omega)
  have n_0_3:(r=iw)=False:=eq_false fun e=>by subst e;rw[hR]at hw;simp at hw
  have qn_0_3:r≠iw:=of_eq_false n_0_3
  have n_0_4:(r=ia)=False:=eq_false fun e=>by subst e;rw[hR]at ha;simp at ha
  have qn_0_4:r≠ia:=of_eq_false n_0_4
  have n_0_5:(r=jf)=False:=eq_false fun e=>by subst e;rw[hR]at hf;simp at hf
  have qn_0_5:r≠jf:=of_eq_false n_0_5
  have n_0_6:(r=iq)=False:=eq_false fun e=>by subst e;rw[hR]at hiq;simp at hiq
  have qn_0_6:r≠iq:=of_eq_false n_0_6
  have n_1_3:(5=iw)=False:=eq_false (by omega)
  have n_1_4:(5=ia)=False:=eq_false (by omega)
  have n_1_5:(5=jf)=False:=eq_false (by omega)
  have n_1_6:(5=iq)=False:=eq_false (by omega)
  have n_2_3:(6=iw)=False:=eq_false (by omega)
  have n_2_4:(6=ia)=False:=eq_false (by omega)
  have n_2_5:(6=jf)=False:=eq_false (by omega)
  have n_2_6:(6=iq)=False:=eq_false (by omega)
  have n_3_4:(iw=ia)=False:=eq_false d01
  have qn_3_4:iw≠ia:=of_eq_false n_3_4
  have n_3_5:(iw=jf)=False:=eq_false d02
  have qn_3_5:iw≠jf:=of_eq_false n_3_5
  have n_3_6:(iw=iq)=False:=eq_false fun e=>by subst e;simp at hqx
  have qn_3_6:iw≠iq:=of_eq_false n_3_6
  have n_4_5:(ia=jf)=False:=eq_false d12
  have qn_4_5:ia≠jf:=of_eq_false n_4_5
  have n_4_6:(ia=iq)=False:=eq_false fun e=>by subst e;simp at hqx
  have qn_4_6:ia≠iq:=of_eq_false n_4_6
  have n_5_6:(jf=iq)=False:=eq_false fun e=>by subst e;simp at hqx
  have qn_5_6:jf≠iq:=of_eq_false n_5_6
  have l5:=h_lt hiq
  obtain⟨o,h',e,rfl,wr,wG,hwG,hwr,rfl⟩:=h_gasC (s:=s) (d:=d) (hr:=hr) (own:=own) (fuel:=fuel) (G:=G) (L:=L) (O:=[]) (R:=R) (W:=W) (A:=A) (F:=F) (w:=false) (w1:=false) (w2:=false) (w3:=false) (w5:=false) (w4:=false) (w6:=false) (w7:=false) (by omega) (by omega)
  generalize hFu:gasF s.fuel F 0 (G,fuel)=gf at *
  obtain⟨G',fu'⟩:=gf
  dsimp only at *
  simp only[hG,hL,hWl,hAl,hFl,List.cons_append,List.nil_append]at e
  obtain⟨vG,hvG⟩:∃v,v=wG:=⟨_,rfl⟩
  obtain⟨vr,hvr⟩:∃v,v=wr:=⟨_,rfl⟩
  cases wr<;>cases wG<;>(try have:=hwG rfl)<;>(try subst G')<;>(try have:=hwr rfl)<;>(try subst fu')<;>(
   refine⟨_,by simp only[Vc.down,seval,hR,hg,hb,hw,ha,hf,hiq,n_0_1,n_0_2,n_0_3,n_0_4,n_0_5,n_0_6,n_1_3,n_1_4,n_1_5,n_1_6,n_2_3,n_2_4,n_2_5,n_2_6,n_3_4,n_3_5,n_3_6,n_4_5,n_4_6,n_5_6,e];exact rfl,?_⟩
   simp only[happ,happ1]
   refine⟨fun x hx=>by((try simp (discharger:=((try simp only[List.length_set]);omega)) only[List.append_assoc,List.cons_append,List.nil_append,List.getElem?_append_left,List.getElem?_append_right,List.getElem?_set_ne,List.getElem?_set_self,List.length_set,Nat.sub_self,Nat.add_sub_cancel_left,List.getElem?_cons_zero,List.getElem?_cons_succ])<;>(first|exact rfl|exact rfl)),hr6,hGl,hL,hWl,hAl,hFl,(vr||w),(vG||w1),w2,.nils,.slr 1 iq 0 R.length,iw,ia,jf,w4,w6,w7,?_,?_,?_,.inl ⟨rfl,rfl⟩,.inr ⟨iq,w5,hRn,rfl,?_,hiq6,hqx⟩,?_,hw6,?_,ha6,?_,hf6,d01,d02,d12⟩
   all_goals (subst vr;subst vG;((try simp (discharger:=((try simp only[List.length_set]);omega)) only[List.append_assoc,List.cons_append,List.nil_append,List.getElem?_append_left,List.getElem?_append_right,List.getElem?_set_ne,List.getElem?_set_self,List.length_set,Nat.sub_self,Nat.add_sub_cancel_left,List.getElem?_cons_zero,List.getElem?_cons_succ])<;>(first|exact rfl|exact hR|exact hg|exact hb|exact hw|exact ha|exact hf|exact hiq))))
 ·have n_0_1:(r=5)=False:=eq_false (by omega)
  have n_0_2:(r=6)=False:=eq_false (by omega)
  have n_0_3:(r=io)=False:=eq_false fun e=>by subst e;rw[hR]at hio;simp at hio
  have qn_0_3:r≠io:=of_eq_false n_0_3
  have n_0_4:(r=iw)=False:=eq_false fun e=>by subst e;rw[hR]at hw;simp at hw
  have qn_0_4:r≠iw:=of_eq_false n_0_4
  have n_0_5:(r=ia)=False:=eq_false fun e=>by subst e;rw[hR]at ha;simp at ha
  have qn_0_5:r≠ia:=of_eq_false n_0_5
  have n_0_6:(r=jf)=False:=eq_false fun e=>by subst e;rw[hR]at hf;simp at hf
  have qn_0_6:r≠jf:=of_eq_false n_0_6
  have n_1_3:(5=io)=False:=eq_false (by omega)
  have n_1_4:(5=iw)=False:=eq_false (by omega)
  have n_1_5:(5=ia)=False:=eq_false (by omega)
  have n_1_6:(5=jf)=False:=eq_false (by omega)
  have n_2_3:(6=io)=False:=eq_false (by omega)
  have n_2_4:(6=iw)=False:=eq_false (by omega)
  have n_2_5:(6=ia)=False:=eq_false (by omega)
  have n_2_6:(6=jf)=False:=eq_false (by omega)
  have n_3_4:(io=iw)=False:=eq_false fun e=>by subst e;rw[hio]at hw;simp at hw
  have qn_3_4:io≠iw:=of_eq_false n_3_4
  have n_3_5:(io=ia)=False:=eq_false fun e=>by subst e;rw[hio]at ha;simp at ha
  have qn_3_5:io≠ia:=of_eq_false n_3_5
  have n_3_6:(io=jf)=False:=eq_false fun e=>by subst e;rw[hio]at hf;simp at hf
  have qn_3_6:io≠jf:=of_eq_false n_3_6
  have n_4_5:(iw=ia)=False:=eq_false d01
  have qn_4_5:iw≠ia:=of_eq_false n_4_5
  have n_4_6:(iw=jf)=False:=eq_false d02
  have qn_4_6:iw≠jf:=of_eq_false n_4_6
  have n_5_6:(ia=jf)=False:=eq_false d12
  have qn_5_6:ia≠jf:=of_eq_false n_5_6
  have l4:=h_lt hio
  obtain⟨o,h',e,rfl,wr,wG,hwG,hwr,rfl⟩:=h_gasB (s:=s) (d:=d) (hr:=hr) (own:=own) (fuel:=fuel) (G:=G) (L:=L) (O:=O) (R:=[]) (W:=W) (A:=A) (F:=F) (w:=false) (w1:=false) (w2:=false) (w3:=false) (w5:=false) (w4:=false) (w6:=false) (w7:=false) (by omega) (by omega)
  generalize hFu:gasF s.fuel F 0 (G,fuel)=gf at *
  obtain⟨G',fu'⟩:=gf
  dsimp only at *
  simp only[hG,hL,hWl,hAl,hFl,List.cons_append,List.nil_append]at e
  obtain⟨vG,hvG⟩:∃v,v=wG:=⟨_,rfl⟩
  obtain⟨vr,hvr⟩:∃v,v=wr:=⟨_,rfl⟩
  cases wr<;>cases wG<;>(try have:=hwG rfl)<;>(try subst G')<;>(try have:=hwr rfl)<;>(try subst fu')<;>(
   refine⟨_,by simp only[Vc.down,seval,hR,hg,hb,hio,hw,ha,hf,n_0_1,n_0_2,n_0_3,n_0_4,n_0_5,n_0_6,n_1_3,n_1_4,n_1_5,n_1_6,n_2_3,n_2_4,n_2_5,n_2_6,n_3_4,n_3_5,n_3_6,n_4_5,n_4_6,n_5_6,e];exact rfl,?_⟩
   simp only[happ,happ1]
   refine⟨fun x hx=>by((try simp (discharger:=((try simp only[List.length_set]);omega)) only[List.append_assoc,List.cons_append,List.nil_append,List.getElem?_append_left,List.getElem?_append_right,List.getElem?_set_ne,List.getElem?_set_self,List.length_set,Nat.sub_self,Nat.add_sub_cancel_left,List.getElem?_cons_zero,List.getElem?_cons_succ])<;>(first|exact rfl|exact rfl)),hr6,hGl,hL,hWl,hAl,hFl,(vr||w),(vG||w1),w2,.slr 5 io 0 O.length,.nils,iw,ia,jf,w4,w6,w7,?_,?_,?_,.inr ⟨io,w3,rfl,?_,hio6⟩,.inl ⟨rfl,rfl⟩,?_,hw6,?_,ha6,?_,hf6,d01,d02,d12⟩
   all_goals (subst vr;subst vG;((try simp (discharger:=((try simp only[List.length_set]);omega)) only[List.append_assoc,List.cons_append,List.nil_append,List.getElem?_append_left,List.getElem?_append_right,List.getElem?_set_ne,List.getElem?_set_self,List.length_set,Nat.sub_self,Nat.add_sub_cancel_left,List.getElem?_cons_zero,List.getElem?_cons_succ])<;>(first|exact rfl|exact hR|exact hg|exact hb|exact hio|exact hw|exact ha|exact hf))))
 ·have n_0_1:(r=5)=False:=eq_false (by omega)
  have n_0_2:(r=6)=False:=eq_false (by omega)
  have n_0_3:(r=io)=False:=eq_false fun e=>by subst e;rw[hR]at hio;simp at hio
  have qn_0_3:r≠io:=of_eq_false n_0_3
  have n_0_4:(r=iw)=False:=eq_false fun e=>by subst e;rw[hR]at hw;simp at hw
  have qn_0_4:r≠iw:=of_eq_false n_0_4
  have n_0_5:(r=ia)=False:=eq_false fun e=>by subst e;rw[hR]at ha;simp at ha
  have qn_0_5:r≠ia:=of_eq_false n_0_5
  have n_0_6:(r=jf)=False:=eq_false fun e=>by subst e;rw[hR]at hf;simp at hf
  have qn_0_6:r≠jf:=of_eq_false n_0_6
  have n_0_7:(r=iq)=False:=eq_false fun e=>by subst e;rw[hR]at hiq;simp at hiq
  have qn_0_7:r≠iq:=of_eq_false n_0_7
  have n_1_3:(5=io)=False:=eq_false (by omega)
  have n_1_4:(5=iw)=False:=eq_false (by omega)
  have n_1_5:(5=ia)=False:=eq_false (by omega)
  have n_1_6:(5=jf)=False:=eq_false (by omega)
  have n_1_7:(5=iq)=False:=eq_false (by omega)
  have n_2_3:(6=io)=False:=eq_false (by omega)
  have n_2_4:(6=iw)=False:=eq_false (by omega)
  have n_2_5:(6=ia)=False:=eq_false (by omega)
  have n_2_6:(6=jf)=False:=eq_false (by omega)
  have n_2_7:(6=iq)=False:=eq_false (by omega)
  have n_3_4:(io=iw)=False:=eq_false fun e=>by subst e;rw[hio]at hw;simp at hw
  have qn_3_4:io≠iw:=of_eq_false n_3_4
  have n_3_5:(io=ia)=False:=eq_false fun e=>by subst e;rw[hio]at ha;simp at ha
  have qn_3_5:io≠ia:=of_eq_false n_3_5
  have n_3_6:(io=jf)=False:=eq_false fun e=>by subst e;rw[hio]at hf;simp at hf
  have qn_3_6:io≠jf:=of_eq_false n_3_6
  have n_3_7:(io=iq)=False:=eq_false fun e=>by subst e;rw[hio]at hiq;simp at hiq
  have qn_3_7:io≠iq:=of_eq_false n_3_7
  have n_4_5:(iw=ia)=False:=eq_false d01
  have qn_4_5:iw≠ia:=of_eq_false n_4_5
  have n_4_6:(iw=jf)=False:=eq_false d02
  have qn_4_6:iw≠jf:=of_eq_false n_4_6
  have n_4_7:(iw=iq)=False:=eq_false fun e=>by subst e;simp at hqx
  have qn_4_7:iw≠iq:=of_eq_false n_4_7
  have n_5_6:(ia=jf)=False:=eq_false d12
  have qn_5_6:ia≠jf:=of_eq_false n_5_6
  have n_5_7:(ia=iq)=False:=eq_false fun e=>by subst e;simp at hqx
  have qn_5_7:ia≠iq:=of_eq_false n_5_7
  have n_6_7:(jf=iq)=False:=eq_false fun e=>by subst e;simp at hqx
  have qn_6_7:jf≠iq:=of_eq_false n_6_7
  have l4:=h_lt hio
  have l5:=h_lt hiq
  obtain⟨o,h',e,rfl,wr,wG,hwG,hwr,rfl⟩:=h_gasD (s:=s) (d:=d) (hr:=hr) (own:=own) (fuel:=fuel) (G:=G) (L:=L) (O:=O) (R:=R) (W:=W) (A:=A) (F:=F) (w:=false) (w1:=false) (w2:=false) (w3:=false) (w5:=false) (w4:=false) (w6:=false) (w7:=false) (by omega) (by omega)
  generalize hFu:gasF s.fuel F 0 (G,fuel)=gf at *
  obtain⟨G',fu'⟩:=gf
  dsimp only at *
  simp only[hG,hL,hWl,hAl,hFl,List.cons_append,List.nil_append]at e
  obtain⟨vG,hvG⟩:∃v,v=wG:=⟨_,rfl⟩
  obtain⟨vr,hvr⟩:∃v,v=wr:=⟨_,rfl⟩
  cases wr<;>cases wG<;>(try have:=hwG rfl)<;>(try subst G')<;>(try have:=hwr rfl)<;>(try subst fu')<;>(
   refine⟨_,by simp only[Vc.down,seval,hR,hg,hb,hio,hw,ha,hf,hiq,n_0_1,n_0_2,n_0_3,n_0_4,n_0_5,n_0_6,n_0_7,n_1_3,n_1_4,n_1_5,n_1_6,n_1_7,n_2_3,n_2_4,n_2_5,n_2_6,n_2_7,n_3_4,n_3_5,n_3_6,n_3_7,n_4_5,n_4_6,n_4_7,n_5_6,n_5_7,n_6_7,e];exact rfl,?_⟩
   simp only[happ,happ1]
   refine⟨fun x hx=>by((try simp (discharger:=((try simp only[List.length_set]);omega)) only[List.append_assoc,List.cons_append,List.nil_append,List.getElem?_append_left,List.getElem?_append_right,List.getElem?_set_ne,List.getElem?_set_self,List.length_set,Nat.sub_self,Nat.add_sub_cancel_left,List.getElem?_cons_zero,List.getElem?_cons_succ])<;>(first|exact rfl|exact rfl)),hr6,hGl,hL,hWl,hAl,hFl,(vr||w),(vG||w1),w2,.slr 5 io 0 O.length,.slr 1 iq 0 R.length,iw,ia,jf,w4,w6,w7,?_,?_,?_,.inr ⟨io,w3,rfl,?_,hio6⟩,.inr ⟨iq,w5,hRn,rfl,?_,hiq6,hqx⟩,?_,hw6,?_,ha6,?_,hf6,d01,d02,d12⟩
   all_goals (subst vr;subst vG;((try simp (discharger:=((try simp only[List.length_set]);omega)) only[List.append_assoc,List.cons_append,List.nil_append,List.getElem?_append_left,List.getElem?_append_right,List.getElem?_set_ne,List.getElem?_set_self,List.length_set,Nat.sub_self,Nat.add_sub_cancel_left,List.getElem?_cons_zero,List.getElem?_cons_succ])<;>(first|exact rfl|exact hR|exact hg|exact hb|exact hio|exact hw|exact ha|exact hf|exact hiq))))
theorem st_bills{s:BStore}{d:BDay}{hr own fuel:Int}{h:Heap}{r:Nat}{G L:List Int}{O:List BTrade}{R W A F:List Int}(hl:s.cons.length≤1000)(H:HsD s d hr own fuel G L O R W A F r h):
 ∃es,cl om' h (some (.func (.func 110) [.ptr r 0 0] [])) (some [])=some (.ret (.tup []),es)∧Bh5 h (happ h es)∧
  HsD s d hr own fuel G (actF (billS hr F W A) s.cons 0 L) O R W A F r (happ h es):=by
 obtain⟨hr6,hG,hL,hWl,hAl,hFl,w,w1,w2,ov,rv,iw,ia,jf,w4,w6,w7,hR,hg,hb,hov,hrv,hw,hw6,ha,ha6,hf,hf6,d01,d02,d12⟩:=H
 have l1:=h_lt hR
 have l2:=h_lt hg
 have l3:=h_lt hb
 have lw0:=h_lt hw
 have lw1:=h_lt ha
 have lw2:=h_lt hf
 have hLl:(actF (billS hr F W A) s.cons 0 L).length=s.cons.length:=by rw[bills_length,hL]
 rcases hov with⟨rfl,rfl⟩|⟨io,w3,rfl,hio,hio6⟩<;>rcases hrv with⟨rfl,rfl⟩|⟨iq,w5,hRn,rfl,hiq,hiq6,hqx⟩
 ·have n_0_1:(r=5)=False:=eq_false (by omega)
  have n_0_2:(r=6)=False:=eq_false (by omega)
  have n_0_3:(r=iw)=False:=eq_false fun e=>by subst e;rw[hR]at hw;simp at hw
  have qn_0_3:r≠iw:=of_eq_false n_0_3
  have n_0_4:(r=ia)=False:=eq_false fun e=>by subst e;rw[hR]at ha;simp at ha
  have qn_0_4:r≠ia:=of_eq_false n_0_4
  have n_0_5:(r=jf)=False:=eq_false fun e=>by subst e;rw[hR]at hf;simp at hf
  have qn_0_5:r≠jf:=of_eq_false n_0_5
  have n_1_3:(5=iw)=False:=eq_false (by omega)
  have n_1_4:(5=ia)=False:=eq_false (by omega)
  have n_1_5:(5=jf)=False:=eq_false (by omega)
  have n_2_3:(6=iw)=False:=eq_false (by omega)
  have n_2_4:(6=ia)=False:=eq_false (by omega)
  have n_2_5:(6=jf)=False:=eq_false (by omega)
  have n_3_4:(iw=ia)=False:=eq_false d01
  have qn_3_4:iw≠ia:=of_eq_false n_3_4
  have n_3_5:(iw=jf)=False:=eq_false d02
  have qn_3_5:iw≠jf:=of_eq_false n_3_5
  have n_4_5:(ia=jf)=False:=eq_false d12
  have qn_4_5:ia≠jf:=of_eq_false n_4_5
  obtain⟨o,h',e,rfl,wL,hwL,rfl⟩:=h_billsA (s:=s) (d:=d) (hr:=hr) (own:=own) (fuel:=fuel) (G:=G) (L:=L) (O:=[]) (R:=[]) (W:=W) (A:=A) (F:=F) (w:=false) (w1:=false) (w2:=false) (w3:=false) (w5:=false) (w4:=false) (w6:=false) (w7:=false) hL hWl hAl hFl hl
  generalize hLL:actF (billS hr F W A) s.cons 0 L=L' at *
  simp only[hG,hL,hWl,hAl,hFl,List.cons_append,List.nil_append]at e
  obtain⟨vL,hvL⟩:∃v,v=wL:=⟨_,rfl⟩
  cases wL<;>(try (have q:=hwL rfl;subst q))<;>(
   refine⟨_,by simp only[Vc.down,seval,hR,hg,hb,hw,ha,hf,n_0_1,n_0_2,n_0_3,n_0_4,n_0_5,n_1_3,n_1_4,n_1_5,n_2_3,n_2_4,n_2_5,n_3_4,n_3_5,n_4_5,e];exact rfl,?_⟩
   simp only[happ,happ1]
   refine⟨fun x hx=>by((try simp (discharger:=((try simp only[List.length_set]);omega)) only[List.append_assoc,List.cons_append,List.nil_append,List.getElem?_append_left,List.getElem?_append_right,List.getElem?_set_ne,List.getElem?_set_self,List.length_set,Nat.sub_self,Nat.add_sub_cancel_left,List.getElem?_cons_zero,List.getElem?_cons_succ])<;>(first|exact rfl|exact rfl)),hr6,hG,hLl,hWl,hAl,hFl,w,w1,(vL||w2),.nils,.nils,iw,ia,jf,w4,w6,w7,?_,?_,?_,.inl ⟨rfl,rfl⟩,.inl ⟨rfl,rfl⟩,?_,hw6,?_,ha6,?_,hf6,d01,d02,d12⟩
   all_goals (subst vL;((try simp (discharger:=((try simp only[List.length_set]);omega)) only[List.append_assoc,List.cons_append,List.nil_append,List.getElem?_append_left,List.getElem?_append_right,List.getElem?_set_ne,List.getElem?_set_self,List.length_set,Nat.sub_self,Nat.add_sub_cancel_left,List.getElem?_cons_zero,List.getElem?_cons_succ])<;>(first|exact rfl|exact hR|exact hg|exact hb|exact hw|exact ha|exact hf))))
 ·have n_0_1:(r=5)=False:=eq_false (by omega)
  have n_0_2:(r=6)=False:=eq_false (by omega)
  have n_0_3:(r=iw)=False:=eq_false fun e=>by subst e;rw[hR]at hw;simp at hw
  have qn_0_3:r≠iw:=of_eq_false n_0_3
  have n_0_4:(r=ia)=False:=eq_false fun e=>by subst e;rw[hR]at ha;simp at ha
  have qn_0_4:r≠ia:=of_eq_false n_0_4
  have n_0_5:(r=jf)=False:=eq_false fun e=>by subst e;rw[hR]at hf;simp at hf
  have qn_0_5:r≠jf:=of_eq_false n_0_5
  have n_0_6:(r=iq)=False:=eq_false fun e=>by subst e;rw[hR]at hiq;simp at hiq
  have qn_0_6:r≠iq:=of_eq_false n_0_6
  have n_1_3:(5=iw)=False:=eq_false (by omega)
  have n_1_4:(5=ia)=False:=eq_false (by omega)
  have n_1_5:(5=jf)=False:=eq_false (by omega)
  have n_1_6:(5=iq)=False:=eq_false (by omega)
  have n_2_3:(6=iw)=False:=eq_false (by omega)
  have n_2_4:(6=ia)=False:=eq_false (by omega)
  have n_2_5:(6=jf)=False:=eq_false (by omega)
  have n_2_6:(6=iq)=False:=eq_false (by omega)
  have n_3_4:(iw=ia)=False:=eq_false d01
  have qn_3_4:iw≠ia:=of_eq_false n_3_4
  have n_3_5:(iw=jf)=False:=eq_false d02
  have qn_3_5:iw≠jf:=of_eq_false n_3_5
  have n_3_6:(iw=iq)=False:=eq_false fun e=>by subst e;simp at hqx
  have qn_3_6:iw≠iq:=of_eq_false n_3_6
  have n_4_5:(ia=jf)=False:=eq_false d12
  have qn_4_5:ia≠jf:=of_eq_false n_4_5
  have n_4_6:(ia=iq)=False:=eq_false fun e=>by subst e;simp at hqx
  have qn_4_6:ia≠iq:=of_eq_false n_4_6
  have n_5_6:(jf=iq)=False:=eq_false fun e=>by subst e;simp at hqx
  have qn_5_6:jf≠iq:=of_eq_false n_5_6
  have l5:=h_lt hiq
  obtain⟨o,h',e,rfl,wL,hwL,rfl⟩:=h_billsC (s:=s) (d:=d) (hr:=hr) (own:=own) (fuel:=fuel) (G:=G) (L:=L) (O:=[]) (R:=R) (W:=W) (A:=A) (F:=F) (w:=false) (w1:=false) (w2:=false) (w3:=false) (w5:=false) (w4:=false) (w6:=false) (w7:=false) hL hWl hAl hFl hl
  generalize hLL:actF (billS hr F W A) s.cons 0 L=L' at *
  simp only[hG,hL,hWl,hAl,hFl,List.cons_append,List.nil_append]at e
  obtain⟨vL,hvL⟩:∃v,v=wL:=⟨_,rfl⟩
  cases wL<;>(try (have q:=hwL rfl;subst q))<;>(
   refine⟨_,by simp only[Vc.down,seval,hR,hg,hb,hw,ha,hf,hiq,n_0_1,n_0_2,n_0_3,n_0_4,n_0_5,n_0_6,n_1_3,n_1_4,n_1_5,n_1_6,n_2_3,n_2_4,n_2_5,n_2_6,n_3_4,n_3_5,n_3_6,n_4_5,n_4_6,n_5_6,e];exact rfl,?_⟩
   simp only[happ,happ1]
   refine⟨fun x hx=>by((try simp (discharger:=((try simp only[List.length_set]);omega)) only[List.append_assoc,List.cons_append,List.nil_append,List.getElem?_append_left,List.getElem?_append_right,List.getElem?_set_ne,List.getElem?_set_self,List.length_set,Nat.sub_self,Nat.add_sub_cancel_left,List.getElem?_cons_zero,List.getElem?_cons_succ])<;>(first|exact rfl|exact rfl)),hr6,hG,hLl,hWl,hAl,hFl,w,w1,(vL||w2),.nils,.slr 1 iq 0 R.length,iw,ia,jf,w4,w6,w7,?_,?_,?_,.inl ⟨rfl,rfl⟩,.inr ⟨iq,w5,hRn,rfl,?_,hiq6,hqx⟩,?_,hw6,?_,ha6,?_,hf6,d01,d02,d12⟩
   all_goals (subst vL;((try simp (discharger:=((try simp only[List.length_set]);omega)) only[List.append_assoc,List.cons_append,List.nil_append,List.getElem?_append_left,List.getElem?_append_right,List.getElem?_set_ne,List.getElem?_set_self,List.length_set,Nat.sub_self,Nat.add_sub_cancel_left,List.getElem?_cons_zero,List.getElem?_cons_succ])<;>(first|exact rfl|exact hR|exact hg|exact hb|exact hw|exact ha|exact hf|exact hiq))))
 ·have n_0_1:(r=5)=False:=eq_false (by omega)
  have n_0_2:(r=6)=False:=eq_false (by omega)
  have n_0_3:(r=io)=False:=eq_false fun e=>by subst e;rw[hR]at hio;simp at hio
  have qn_0_3:r≠io:=of_eq_false n_0_3
  have n_0_4:(r=iw)=False:=eq_false fun e=>by subst e;rw[hR]at hw;simp at hw
  have qn_0_4:r≠iw:=of_eq_false n_0_4
  have n_0_5:(r=ia)=False:=eq_false fun e=>by subst e;rw[hR]at ha;simp at ha
  have qn_0_5:r≠ia:=of_eq_false n_0_5
  have n_0_6:(r=jf)=False:=eq_false fun e=>by subst e;rw[hR]at hf;simp at hf
  have qn_0_6:r≠jf:=of_eq_false n_0_6
  have n_1_3:(5=io)=False:=eq_false (by omega)
  have n_1_4:(5=iw)=False:=eq_false (by omega)
  have n_1_5:(5=ia)=False:=eq_false (by omega)
  have n_1_6:(5=jf)=False:=eq_false (by omega)
  have n_2_3:(6=io)=False:=eq_false (by omega)
  have n_2_4:(6=iw)=False:=eq_false (by omega)
  have n_2_5:(6=ia)=False:=eq_false (by omega)
  have n_2_6:(6=jf)=False:=eq_false (by omega)
  have n_3_4:(io=iw)=False:=eq_false fun e=>by subst e;rw[hio]at hw;simp at hw
  have qn_3_4:io≠iw:=of_eq_false n_3_4
  have n_3_5:(io=ia)=False:=eq_false fun e=>by subst e;rw[hio]at ha;simp at ha
  have qn_3_5:io≠ia:=of_eq_false n_3_5
  have n_3_6:(io=jf)=False:=eq_false fun e=>by subst e;rw[hio]at hf;simp at hf
  have qn_3_6:io≠jf:=of_eq_false n_3_6
  have n_4_5:(iw=ia)=False:=eq_false d01
  have qn_4_5:iw≠ia:=of_eq_false n_4_5
  have n_4_6:(iw=jf)=False:=eq_false d02
  have qn_4_6:iw≠jf:=of_eq_false n_4_6
  have n_5_6:(ia=jf)=False:=eq_false d12
  have qn_5_6:ia≠jf:=of_eq_false n_5_6
  have l4:=h_lt hio
  obtain⟨o,h',e,rfl,wL,hwL,rfl⟩:=h_billsB (s:=s) (d:=d) (hr:=hr) (own:=own) (fuel:=fuel) (G:=G) (L:=L) (O:=O) (R:=[]) (W:=W) (A:=A) (F:=F) (w:=false) (w1:=false) (w2:=false) (w3:=false) (w5:=false) (w4:=false) (w6:=false) (w7:=false) hL hWl hAl hFl hl
  generalize hLL:actF (billS hr F W A) s.cons 0 L=L' at *
  simp only[hG,hL,hWl,hAl,hFl,List.cons_append,List.nil_append]at e
  obtain⟨vL,hvL⟩:∃v,v=wL:=⟨_,rfl⟩
  cases wL<;>(try (have q:=hwL rfl;subst q))<;>(
   refine⟨_,by simp only[Vc.down,seval,hR,hg,hb,hio,hw,ha,hf,n_0_1,n_0_2,n_0_3,n_0_4,n_0_5,n_0_6,n_1_3,n_1_4,n_1_5,n_1_6,n_2_3,n_2_4,n_2_5,n_2_6,n_3_4,n_3_5,n_3_6,n_4_5,n_4_6,n_5_6,e];exact rfl,?_⟩
   simp only[happ,happ1]
   refine⟨fun x hx=>by((try simp (discharger:=((try simp only[List.length_set]);omega)) only[List.append_assoc,List.cons_append,List.nil_append,List.getElem?_append_left,List.getElem?_append_right,List.getElem?_set_ne,List.getElem?_set_self,List.length_set,Nat.sub_self,Nat.add_sub_cancel_left,List.getElem?_cons_zero,List.getElem?_cons_succ])<;>(first|exact rfl|exact rfl)),hr6,hG,hLl,hWl,hAl,hFl,w,w1,(vL||w2),.slr 5 io 0 O.length,.nils,iw,ia,jf,w4,w6,w7,?_,?_,?_,.inr ⟨io,w3,rfl,?_,hio6⟩,.inl ⟨rfl,rfl⟩,?_,hw6,?_,ha6,?_,hf6,d01,d02,d12⟩
   all_goals (subst vL;((try simp (discharger:=((try simp only[List.length_set]);omega)) only[List.append_assoc,List.cons_append,List.nil_append,List.getElem?_append_left,List.getElem?_append_right,List.getElem?_set_ne,List.getElem?_set_self,List.length_set,Nat.sub_self,Nat.add_sub_cancel_left,List.getElem?_cons_zero,List.getElem?_cons_succ])<;>(first|exact rfl|exact hR|exact hg|exact hb|exact hio|exact hw|exact ha|exact hf))))
 ·have n_0_1:(r=5)=False:=eq_false (by omega)
  have n_0_2:(r=6)=False:=eq_false (by omega)
  have n_0_3:(r=io)=False:=eq_false fun e=>by subst e;rw[hR]at hio;simp at hio
  have qn_0_3:r≠io:=of_eq_false n_0_3
  have n_0_4:(r=iw)=False:=eq_false fun e=>by subst e;rw[hR]at hw;simp at hw
  have qn_0_4:r≠iw:=of_eq_false n_0_4
  have n_0_5:(r=ia)=False:=eq_false fun e=>by subst e;rw[hR]at ha;simp at ha
  have qn_0_5:r≠ia:=of_eq_false n_0_5
  have n_0_6:(r=jf)=False:=eq_false fun e=>by subst e;rw[hR]at hf;simp at hf
  have qn_0_6:r≠jf:=of_eq_false n_0_6
  have n_0_7:(r=iq)=False:=eq_false fun e=>by subst e;rw[hR]at hiq;simp at hiq
  have qn_0_7:r≠iq:=of_eq_false n_0_7
  have n_1_3:(5=io)=False:=eq_false (by omega)
  have n_1_4:(5=iw)=False:=eq_false (by omega)
  have n_1_5:(5=ia)=False:=eq_false (by omega)
  have n_1_6:(5=jf)=False:=eq_false (by omega)
  have n_1_7:(5=iq)=False:=eq_false (by omega)
  have n_2_3:(6=io)=False:=eq_false (by omega)
  have n_2_4:(6=iw)=False:=eq_false (by omega)
  have n_2_5:(6=ia)=False:=eq_false (by omega)
  have n_2_6:(6=jf)=False:=eq_false (by omega)
  have n_2_7:(6=iq)=False:=eq_false (by omega)
  have n_3_4:(io=iw)=False:=eq_false fun e=>by subst e;rw[hio]at hw;simp at hw
  have qn_3_4:io≠iw:=of_eq_false n_3_4
  have n_3_5:(io=ia)=False:=eq_false fun e=>by subst e;rw[hio]at ha;simp at ha
  have qn_3_5:io≠ia:=of_eq_false n_3_5
  have n_3_6:(io=jf)=False:=eq_false fun e=>by subst e;rw[hio]at hf;simp at hf
  have qn_3_6:io≠jf:=of_eq_false n_3_6
  have n_3_7:(io=iq)=False:=eq_false fun e=>by subst e;rw[hio]at hiq;simp at hiq
  have qn_3_7:io≠iq:=of_eq_false n_3_7
  have n_4_5:(iw=ia)=False:=eq_false d01
  have qn_4_5:iw≠ia:=of_eq_false n_4_5
  have n_4_6:(iw=jf)=False:=eq_false d02
  have qn_4_6:iw≠jf:=of_eq_false n_4_6
  have n_4_7:(iw=iq)=False:=eq_false fun e=>by subst e;simp at hqx
  have qn_4_7:iw≠iq:=of_eq_false n_4_7
  have n_5_6:(ia=jf)=False:=eq_false d12
  have qn_5_6:ia≠jf:=of_eq_false n_5_6
  have n_5_7:(ia=iq)=False:=eq_false fun e=>by subst e;simp at hqx
  have qn_5_7:ia≠iq:=of_eq_false n_5_7
  have n_6_7:(jf=iq)=False:=eq_false fun e=>by subst e;simp at hqx
  have qn_6_7:jf≠iq:=of_eq_false n_6_7
  have l4:=h_lt hio
  have l5:=h_lt hiq
  obtain⟨o,h',e,rfl,wL,hwL,rfl⟩:=h_billsD (s:=s) (d:=d) (hr:=hr) (own:=own) (fuel:=fuel) (G:=G) (L:=L) (O:=O) (R:=R) (W:=W) (A:=A) (F:=F) (w:=false) (w1:=false) (w2:=false) (w3:=false) (w5:=false) (w4:=false) (w6:=false) (w7:=false) hL hWl hAl hFl hl
  generalize hLL:actF (billS hr F W A) s.cons 0 L=L' at *
  simp only[hG,hL,hWl,hAl,hFl,List.cons_append,List.nil_append]at e
  obtain⟨vL,hvL⟩:∃v,v=wL:=⟨_,rfl⟩
  cases wL<;>(try (have q:=hwL rfl;subst q))<;>(
   refine⟨_,by simp only[Vc.down,seval,hR,hg,hb,hio,hw,ha,hf,hiq,n_0_1,n_0_2,n_0_3,n_0_4,n_0_5,n_0_6,n_0_7,n_1_3,n_1_4,n_1_5,n_1_6,n_1_7,n_2_3,n_2_4,n_2_5,n_2_6,n_2_7,n_3_4,n_3_5,n_3_6,n_3_7,n_4_5,n_4_6,n_4_7,n_5_6,n_5_7,n_6_7,e];exact rfl,?_⟩
   simp only[happ,happ1]
   refine⟨fun x hx=>by((try simp (discharger:=((try simp only[List.length_set]);omega)) only[List.append_assoc,List.cons_append,List.nil_append,List.getElem?_append_left,List.getElem?_append_right,List.getElem?_set_ne,List.getElem?_set_self,List.length_set,Nat.sub_self,Nat.add_sub_cancel_left,List.getElem?_cons_zero,List.getElem?_cons_succ])<;>(first|exact rfl|exact rfl)),hr6,hG,hLl,hWl,hAl,hFl,w,w1,(vL||w2),.slr 5 io 0 O.length,.slr 1 iq 0 R.length,iw,ia,jf,w4,w6,w7,?_,?_,?_,.inr ⟨io,w3,rfl,?_,hio6⟩,.inr ⟨iq,w5,hRn,rfl,?_,hiq6,hqx⟩,?_,hw6,?_,ha6,?_,hf6,d01,d02,d12⟩
   all_goals (subst vL;((try simp (discharger:=((try simp only[List.length_set]);omega)) only[List.append_assoc,List.cons_append,List.nil_append,List.getElem?_append_left,List.getElem?_append_right,List.getElem?_set_ne,List.getElem?_set_self,List.length_set,Nat.sub_self,Nat.add_sub_cancel_left,List.getElem?_cons_zero,List.getElem?_cons_succ])<;>(first|exact rfl|exact hR|exact hg|exact hb|exact hio|exact hw|exact ha|exact hf|exact hiq))))
theorem e_cloneTr{l:List BTrade}{nn:Bool}(hl:l.length≤1000)(hne:¬(l=[]∧nn=false)):om'.call (.fn 103) [slv 5 true nn (l.map BTrade.cells)] []=some (.ret (.slr 5 0 0 l.length),[.live 5 true false (l.map BTrade.cells)]):=by
 cases l with
 |nil=>
  cases nn with
  |false=>exact(hne ⟨rfl,rfl⟩).elim
  |true=>
   (refine ce Tryz.func103 ?_;simp only[Tryz.f103];(have hb:=trivial;with_reducible repeat' (first|simp only[hb,Vc.down,seval,TY103.down,List.map_nil,slv_true]|refine fsp ?_ ?_<;>intro hb|refine fd ?_|fail)))
 |cons x l=>
  have h39:(l.length+1≤549755813888)=True:=eq_true (by simp at hl;omega)
  (refine ce Tryz.func103 ?_;simp only[Tryz.f103];(have hb:=trivial;with_reducible repeat' (first|simp only[hb,Vc.down,seval,TY103.down,List.length_map,h39,BTrade.cells]|refine fsp ?_ ?_<;>intro hb|refine fd ?_|fail)))
theorem e_cloneTrN:om'.call (.fn 103) [slv 5 true false []] []=some (.ret .nils,[]):=by
 (refine ce Tryz.func103 ?_;simp only[Tryz.f103];(have hb:=trivial;with_reducible repeat' (first|simp only[hb,Vc.down,seval,TY103.down,slv_nil]|refine fsp ?_ ?_<;>intro hb|refine fd ?_|fail)))
/-- The methods of an hour, in order. -/
def fnL:List Nat:=[104,105,106,107,108,109,110]
def fnV(r:Nat)(f:Nat):AV:=.func (.func f) [.ptr r 0 0] []
theorem ix_7(cs:List AV)(i:Int):aIndex Tryz.prog 145 (.agg cs) (.int .i64 i)=if 0≤i∧i<7 then cs[i.toNat*1]? else none:=by kernel_rfl
theorem bld_7(r:Nat):aBuild Tryz.prog 145 [(0,fnV r 104),(1,fnV r 105),(2,fnV r 106),(3,fnV r 107),(4,fnV r 108),(5,fnV r 109),(6,fnV r 110)]=some (.agg (fnL.map (fnV r))):=by kernel_rfl
def Fr34(h:Heap):Prop:=(∃fl w,h[3]?=some (.live 6 fl w [[.int .i64 0,.nils,.int .i64 0,.int .i64 0,.nils,.nils]]))∧∃fl w,h[4]?=some (.live 4 fl w [[.nils,.nils,.nils,.nils]])
theorem loansF_left(cs:List BCon)(hr:Int):∀(O:List BTrade) (G L:List Int) (p:List BTrade),(loansF cs hr O (G,L,p)).2.2=p++O.filter (fun t=>decide (t.back≠hr))
 | [],_,_,p=>by simp[loansF]
 |t::O,G,L,p=>by
  by_cases h:t.back=hr
  ·simp only[loansF,h,if_true,loansF_left cs hr O]
   simp[h]
  ·simp only[loansF,h,if_false,loansF_left cs hr O]
   simp[h]
theorem fn_at{f i:Nat}(h:fnL[i]?=some f):(i=0∧f=104)∨(i=1∧f=105)∨(i=2∧f=106)∨(i=3∧f=107)∨(i=4∧f=108)∨(i=5∧f=109)∨(i=6∧f=110):=by
 match i,h with
 |0,h|1,h|2,h|3,h|4,h|5,h|6,h=>simp[fnL]at h;subst h;simp
 |n+7,h=>simp[fnL]at h
/-- An hour as the program reckons it. -/
def G1(s:BStore)(hr:Int)(G L:List Int)(O:List BTrade):List Int:=(loansF s.cons hr O (G,L,[])).1
def L1(s:BStore)(hr:Int)(G L:List Int)(O:List BTrade):List Int:=(loansF s.cons hr O (G,L,[])).2.1
def O1(s:BStore)(hr:Int)(G L:List Int)(O:List BTrade):List BTrade:=(loansF s.cons hr O (G,L,[])).2.2
def T2(s:BStore)(d:BDay)(hr:Int)(G L:List Int)(O:List BTrade):List Int × List BTrade × List Int:=tradesF s.cons hr d.trades 0 (G1 s hr G L O,O1 s hr G L O,[])
def W3(s:BStore)(d:BDay)(hr:Int)(G L:List Int)(O:List BTrade):List Int:=actF (wantS s d hr (T2 s d hr G L O).1) s.cons 0 (List.replicate s.cons.length 0)
def A4(s:BStore)(d:BDay)(hr:Int)(x:BHour)(G L:List Int)(O:List BTrade):List Int:=grantAll grantL s.cons (W3 s d hr G L O) x.inn x.out
def F5(s:BStore)(d:BDay)(hr:Int)(x:BHour)(G L:List Int)(O:List BTrade):List Int:=flowsL (A4 s d hr x G L O) x
def own5(s:BStore)(d:BDay)(hr:Int)(x:BHour)(G L:List Int)(O:List BTrade)(own:Int):Int:=ownL (A4 s d hr x G L O) x own
def G6(s:BStore)(d:BDay)(hr:Int)(x:BHour)(G L:List Int)(O:List BTrade)(fuel:Int):List Int × Int:=gasF s.fuel (F5 s d hr x G L O) 0 ((T2 s d hr G L O).1,fuel)
def L7(s:BStore)(d:BDay)(hr:Int)(x:BHour)(G L:List Int)(O:List BTrade):List Int:=actF (billS hr (F5 s d hr x G L O) (W3 s d hr G L O) (A4 s d hr x G L O)) s.cons 0 (L1 s hr G L O)
def StS(s:BStore)(d:BDay)(hr own fuel:Int)(x:BHour)(G L:List Int)(O:List BTrade)(r:Nat):Nat→Heap→Prop
 |0,h=>HsA s d hr own fuel G L O [] r h
 |1,h=>HsA s d hr own fuel (G1 s hr G L O) (L1 s hr G L O) (O1 s hr G L O) [] r h
 |2,h=>HsA s d hr own fuel (T2 s d hr G L O).1 (L1 s hr G L O) (T2 s d hr G L O).2.1 (T2 s d hr G L O).2.2 r h
 |3,h=>HsB s d hr own fuel (T2 s d hr G L O).1 (L1 s hr G L O) (T2 s d hr G L O).2.1 (T2 s d hr G L O).2.2 (W3 s d hr G L O) r h
 |4,h=>HsC s d hr own fuel (T2 s d hr G L O).1 (L1 s hr G L O) (T2 s d hr G L O).2.1 (T2 s d hr G L O).2.2 (W3 s d hr G L O) (A4 s d hr x G L O) r h
 |5,h=>HsD s d hr (own5 s d hr x G L O own) fuel (T2 s d hr G L O).1 (L1 s hr G L O) (T2 s d hr G L O).2.1 (T2 s d hr G L O).2.2 (W3 s d hr G L O) (A4 s d hr x G L O) (F5 s d hr x G L O) r h
 |6,h=>HsD s d hr (own5 s d hr x G L O own) (G6 s d hr x G L O fuel).2 (G6 s d hr x G L O fuel).1 (L1 s hr G L O) (T2 s d hr G L O).2.1 (T2 s d hr G L O).2.2 (W3 s d hr G L O) (A4 s d hr x G L O) (F5 s d hr x G L O) r h
 |7,h=>HsD s d hr (own5 s d hr x G L O own) (G6 s d hr x G L O fuel).2 (G6 s d hr x G L O fuel).1 (L7 s d hr x G L O) (T2 s d hr G L O).2.1 (T2 s d hr G L O).2.2 (W3 s d hr G L O) (A4 s d hr x G L O) (F5 s d hr x G L O) r h
 |_,_=>False
/-- What an hour asks of its data. -/
structure HourOK(s:BStore)(d:BDay)(hr:Int)(x:BHour)(O:List BTrade):Prop where
 ne:s.cons≠[]
 len:s.cons.length≤1000
 noms:d.noms.length≤1000
 con:∀c∈s.cons,ConW c
 owed:O.length≤1000
 ow:∀t∈O,t.ok s.cons.length
 trl:d.trades.length≤1000
 tr:∀t∈d.trades,t.ok s.cons.length
 h0:0≤hr
 hx:d.hours[hr.toNat]?=some x
theorem st_all{s:BStore}{d:BDay}{hr own fuel:Int}{x:BHour}{G L:List Int}{O:List BTrade}(K:HourOK s d hr x O){r i f:Nat}{h:Heap}(hf:fnL[i]?=some f)(H:StS s d hr own fuel x G L O r i h):
 ∃es,cl om' h (some (fnV r f)) (some [])=some (.ret (.tup []),es)∧Bh5 h (happ h es)∧StS s d hr own fuel x G L O r (i+1) (happ h es):=by
 rcases fn_at hf with⟨rfl,rfl⟩|⟨rfl,rfl⟩|⟨rfl,rfl⟩|⟨rfl,rfl⟩|⟨rfl,rfl⟩|⟨rfl,rfl⟩|⟨rfl,rfl⟩
 ·exact st_loans K.owed K.ow H
 ·refine st_trades ?_ K.trl K.tr H
  unfold O1
  rw[loansF_left]
  have:=List.length_filter_le (fun t:BTrade=>decide (t.back≠hr)) O
  have:=K.owed
  simp only[List.nil_append]
  omega
 ·exact st_wants K.len K.noms K.con H
 ·exact st_grants K.len K.ne K.h0 K.hx H
 ·exact st_flows K.len K.ne K.h0 K.hx H
 ·exact st_gas K.len H
 ·exact st_bills K.len H
end Go.Proofs.YtdbiogihimdpcaaGreatDoor
