/- The functions of the layer, walked. -/
import Derived.Test.YtdbiogihimdpcaaGreatDoorPartAE
open List renaming length_set→aa9,cons_append→abQ,nil_append→acI,getElem?_set_ne→acL,getElem?_set_self→acQ,append_assoc→acR,getElem?_append_left→acV,getElem?_append_right→adG,getElem?_cons_zero→adL,getElem?_cons_succ→adM,getElem?_eq_some_iff→adN,append_nil→adO
open Nat renaming sub_self→adJ,add_sub_cancel_left→adK
set_option linter.unusedSimpArgs false
set_option linter.unusedVariables false
namespace Go.Proofs.YtdbiogihimdpcaaGreatDoor
open Go.Ev Go
set_option maxRecDepth 100000
set_option maxHeartbeats 16000000
def OvS(O:List Ab)(ov:AV)(h:Aa):Prop:=(O=[]∧ov=.nils)∨∃b w,ov=.slr 5 b 0 O.length∧h[b]?=some (.live 5 true w (O.map Ab.cells))∧6<b
def RvS(R:List Int)(rv:AV)(ex:List Nat)(h:Aa):Prop:=(R=[]∧rv=.nils)∨∃b w,R≠[]∧rv=.slr 1 b 0 R.length∧h[b]?=some (.live 1 true w (R.map iv))∧6<b∧b∉ex
def HsA(s:Ac)(d:An)(hr own fuel:Int)(G L:List Int)(O:List Ab)(R:List Int)(r:Nat)(h:Aa):Prop:=
 6<r∧G.length=s.cons.length∧L.length=s.cons.length∧∃w w1 w2 ov rv,h[r]?=some (.live 19 false w [(rc s d hr (.slr 1 5 0 s.cons.length) own fuel (.slr 1 6 0 s.cons.length) ov .nils .nils .nils rv)])∧h[5]?=some (.live 1 true w1 (G.map iv))∧h[6]?=some (.live 1 true w2 (L.map iv))∧OvS O ov h∧RvS R rv [] h
theorem auQ{h:Aa}{b:Nat}{c d:CB}(hb:h[b]?=some d):(h.set b c)[b]?=some c:=by
 rw[acQ (adN.1 hb).1]
def zZ(h h':Aa):Prop:=∀x,x<5→h'[x]?=h[x]?
theorem zZ.refl(h:Aa):zZ h h:=fun _ _=>rfl
theorem zZ.set{h h':Aa}(k:zZ h h'){b:Nat}(hb:4<b)(c:CB):zZ h (h'.set b c):=fun x hx=>by
 rw[acL (by omega)];exact k x hx
theorem aoQ{h:Aa}{b x:Nat}{c:CB}(hb:b≠x):(h.set b c)[x]?=h[x]?:=acL hb
theorem Eb{h:Aa}{x:Nat}{d:CB}(hx:h[x]?=some d):x<h.length:=(adN.1 hx).1
theorem Oz(cs:List Ah)(hr:Int):∀(O:List Ab) (G L:List Int) (p:List Ab),(Cd cs hr O (G,L,p)).1.length=G.length∧(Cd cs hr O (G,L,p)).2.1.length=L.length
 | [],_,_,_=>⟨rfl,rfl⟩
 |t::O,G,L,p=>by
  simp only[Cd]
  split
  ·have:=Oz cs hr O (Ud cs t G) (To cs t G L) p
   rw[Wj,Ns]at this
   exact this
  ·exact Oz cs hr O G L (p++[t])
theorem aeU{s:Ac}{d:An}{hr own fuel:Int}{h:Aa}{r:Nat}{G L:List Int}{O:List Ab}(hOl:O.length≤1000)(ho:∀t∈O,t.ok s.cons.length)(H:HsA s d hr own fuel G L O [] r h):
 ∃es,cl Bl h (some (.func (.func 104) [.ptr r 0 0] [])) (some [])=some (.ret (.tup []),es)∧zZ h (Ar h es)∧
  HsA s d hr own fuel (Cd s.cons hr O (G,L,[])).1 (Cd s.cons hr O (G,L,[])).2.1 (Cd s.cons hr O (G,L,[])).2.2 [] r (Ar h es):=by
 obtain⟨hr6,hG,hL,w,w1,w2,ov,rv,hR,hg,hb,hov,hrv⟩:=H
 have n1:(r=5)=False:=eq_false (by omega)
 have n2:(r=6)=False:=eq_false (by omega)
 obtain⟨_,rfl⟩|⟨_,_,hne,_⟩:=hrv
 ·rcases hov with⟨rfl,rfl⟩|⟨io,w3,rfl,hio,hio6⟩
  ·obtain⟨o,h',e,rfl,rfl⟩:=agE (s:=s) (d:=d) (fl:=false) (w:=false) (w1:=false) (w2:=false) (hr:=hr) (own:=own) (fuel:=fuel) (G:=G) (L:=L) rfl rfl rfl rfl
   rw[hG,hL]at e
   refine⟨_,by simp only[Vc.down,seval,hR,hg,hb,n1,n2,e];exact rfl,?_⟩
   simp only[Ar,Cc]
   refine⟨(zZ.refl h).set (by omega) _,hr6,hG,hL,true,w1,w2,.nils,.nils,auQ hR,?_,?_,.inl ⟨rfl,rfl⟩,.inl ⟨rfl,rfl⟩⟩
   ·rw[aoQ (by omega)];exact hg
   ·rw[aoQ (by omega)];exact hb
  ·have n3:(r=io)=False:=eq_false fun e=>by subst e;rw[hR]at hio;simp at hio
   have n4:(5=io)=False:=eq_false (by omega)
   have n5:(6=io)=False:=eq_false (by omega)
   obtain⟨o,h',e,rfl,wG,wL,hq⟩:=alH (s:=s) (d:=d) (fl:=false) (w:=false) (w1:=false) (w2:=false) (w3:=false) (hr:=hr) (own:=own) (fuel:=fuel) (G:=G) (L:=L) hG hL hOl ho rfl rfl rfl rfl
   generalize hF:Cd s.cons hr O (G,L,[])=F at *
   obtain⟨G',L',p'⟩:=F
   obtain⟨hwG,hwL,rfl⟩:=hq _ _ _ rfl
   rw[hG,hL]at e
   clear hq
   have hG':G'.length=s.cons.length:=by have:=Oz s.cons hr O G L [];rw[hF]at this;dsimp only at this;omega
   have hL':L'.length=s.cons.length:=by have:=Oz s.cons hr O G L [];rw[hF]at this;dsimp only at this;omega
   have l1:=Eb hR
   have l2:=Eb hg
   have l3:=Eb hb
   have l4:=Eb hio
   have m1:r≠io:=of_eq_false n3
   by_cases hp:p'=[]
   ·subst hp
    simp only[rP,qU,if_true,adO]at e
    obtain⟨vG,hvG⟩:∃v,v=wG:=⟨_,rfl⟩
    obtain⟨vL,hvL⟩:∃v,v=wL:=⟨_,rfl⟩
    cases wG<;>cases wL<;>(try have:=hwG rfl)<;>(try have:=hwL rfl)<;>(try subst G')<;>(try subst L')<;>(
     refine⟨_,by simp only[Vc.down,seval,hR,hg,hb,hio,n1,n2,n3,n4,n5,e];exact rfl,?_⟩
     simp only[Ar,Cc]
     refine⟨fun x hx=>by((try simp (discharger:=((try simp only[aa9]);omega)) only[acR,abQ,acI,acV,adG,acL,acQ,aa9,adJ,adK,adL,adM])<;>(first|exact rfl|exact rfl)),hr6,hG',hL',true,(vG||w1),(vL||w2),.nils,.nils,?_,?_,?_,.inl ⟨rfl,rfl⟩,.inl ⟨rfl,rfl⟩⟩
     all_goals (subst vG;subst vL;((try simp (discharger:=((try simp only[aa9]);omega)) only[acR,abQ,acI,acV,adG,acL,acQ,aa9,adJ,adK,adL,adM])<;>(first|exact rfl|exact hg|exact hb))))
   ·simp only[rP,qU,hp,if_false]at e
    obtain⟨vG,hvG⟩:∃v,v=wG:=⟨_,rfl⟩
    obtain⟨vL,hvL⟩:∃v,v=wL:=⟨_,rfl⟩
    cases wG<;>cases wL<;>(try have:=hwG rfl)<;>(try have:=hwL rfl)<;>(try subst G')<;>(try subst L')<;>(
     refine⟨_,by simp only[Vc.down,seval,hR,hg,hb,hio,n1,n2,n3,n4,n5,e];exact rfl,?_⟩
     simp only[Ar,Cc]
     refine⟨fun x hx=>by((try simp (discharger:=((try simp only[aa9]);omega)) only[acR,abQ,acI,acV,adG,acL,acQ,aa9,adJ,adK,adL,adM])<;>(first|exact rfl|exact rfl)),hr6,hG',hL',true,(vG||w1),(vL||w2),.slr 5 h.length 0 p'.length,.nils,?_,?_,?_,.inr ⟨h.length,false,rfl,?_,?_⟩,.inl ⟨rfl,rfl⟩⟩
     all_goals first
      |omega
      |(subst vG;subst vL;((try simp (discharger:=((try simp only[aa9]);omega)) only[acR,abQ,acI,acV,adG,acL,acQ,aa9,adJ,adK,adL,adM])<;>(first|exact rfl|exact hg|exact hb))))
 ·exact absurd rfl hne
theorem Nw(cs:List Ah)(hr:Int):∀(T:List Ab) (i:Nat) (G:List Int) (O:List Ab) (R:List Int),(Bd cs hr T i (G,O,R)).1.length=G.length
 | [],_,_,_,_=>rfl
 |t::T,i,G,O,R=>by
  simp only[Bd]
  split
  ·split
   ·exact Nw cs hr T _ _ _ _
   ·rw[Nw cs hr T _ _ _ _,Hy]
  ·exact Nw cs hr T _ _ _ _
theorem ac6{s:Ac}{d:An}{hr own fuel:Int}{h:Aa}{r:Nat}{G L:List Int}{O:List Ab}(hOl:O.length≤1000)(hd50:d.trades.length≤1000)(ho:∀t∈d.trades,t.ok s.cons.length)(H:HsA s d hr own fuel G L O [] r h):
 ∃es,cl Bl h (some (.func (.func 105) [.ptr r 0 0] [])) (some [])=some (.ret (.tup []),es)∧zZ h (Ar h es)∧
  HsA s d hr own fuel (Bd s.cons hr d.trades 0 (G,O,[])).1 L (Bd s.cons hr d.trades 0 (G,O,[])).2.1 (Bd s.cons hr d.trades 0 (G,O,[])).2.2 r (Ar h es):=by
 obtain⟨hr6,hG,hL,w,w1,w2,ov,rv,hR,hg,hb,hov,hrv⟩:=H
 have n1:(r=5)=False:=eq_false (by omega)
 have n2:(r=6)=False:=eq_false (by omega)
 have l1:=Eb hR
 have l2:=Eb hg
 have l3:=Eb hb
 have hG0:(Bd s.cons hr d.trades 0 (G,O,[])).1.length=s.cons.length:=by rw[Nw,hG]
 obtain⟨_,rfl⟩|⟨_,_,hne,_⟩:=hrv
 ·rcases hov with⟨rfl,rfl⟩|⟨io,w3,rfl,hio,hio6⟩
  ·obtain⟨o,h',e,rfl,wr,wG,wo,wR,ov,rv,T,hq⟩:=adF (s:=s) (d:=d) (w:=false) (w1:=false) (w2:=false) (hr:=hr) (own:=own) (fuel:=fuel) (G:=G) (L:=L) (O:=[]) (w3:=false) hG rfl hd50 ho
   generalize hF:Bd s.cons hr d.trades 0 (G,[],[])=F at *
   obtain⟨G',O',R⟩:=F
   obtain⟨hwG,hwr,rfl,hT⟩:=hq _ _ _ rfl
   clear hq
   dsimp only at hG0 ⊢
   rw[hG,hL]at e
   rcases hT with⟨rfl,rfl,rfl,rfl,rfl⟩|⟨hO',rfl,rfl,rfl,rfl⟩|⟨rfl,hR',rfl,rfl,rfl⟩|⟨hO',hR',rfl,rfl,rfl⟩
   ·simp only[adO]at e
    obtain⟨vG,hvG⟩:∃v,v=wG:=⟨_,rfl⟩
    obtain⟨vr,hvr⟩:∃v,v=wr:=⟨_,rfl⟩
    cases wr<;>cases wG<;>(try have:=hwG rfl)<;>(try subst G')<;>(
     refine⟨_,by simp only[Vc.down,seval,hR,hg,hb,n1,n2,e];exact rfl,?_⟩
     simp only[Ar,Cc]
     refine⟨fun x hx=>by((try simp (discharger:=((try simp only[aa9]);omega)) only[acR,abQ,acI,acV,adG,acL,acQ,aa9,adJ,adK,adL,adM])<;>(first|exact rfl|exact rfl)),hr6,hG0,hL,(vr||w),(vG||w1),w2,.nils,.nils,?_,?_,?_,.inl ⟨rfl,rfl⟩,.inl ⟨rfl,rfl⟩⟩
     all_goals (subst vG;subst vr;((try simp (discharger:=((try simp only[aa9]);omega)) only[acR,abQ,acI,acV,adG,acL,acQ,aa9,adJ,adK,adL,adM])<;>(first|exact rfl|exact hR|exact hg|exact hb))))
   ·have hwt:wr=true:=by
     cases wr
     ·have:=hwr rfl;simp at this
     ·rfl
    subst hwt
    simp only[abQ,acI]at e
    obtain⟨vG,hvG⟩:∃v,v=wG:=⟨_,rfl⟩
    cases wG<;>(try have:=hwG rfl)<;>(try subst G')<;>(
     refine⟨_,by simp only[Vc.down,seval,hR,hg,hb,n1,n2,e];exact rfl,?_⟩
     simp only[Ar,Cc]
     refine⟨fun x hx=>by((try simp (discharger:=((try simp only[aa9]);omega)) only[acR,abQ,acI,acV,adG,acL,acQ,aa9,adJ,adK,adL,adM])<;>(first|exact rfl|exact rfl)),hr6,hG0,hL,true,(vG||w1),w2,.slr 5 h.length 0 O'.length,.nils,?_,?_,?_,.inr ⟨h.length,wo,rfl,?_,by omega⟩,.inl ⟨rfl,rfl⟩⟩
     all_goals (subst vG;((try simp (discharger:=((try simp only[aa9]);omega)) only[acR,abQ,acI,acV,adG,acL,acQ,aa9,adJ,adK,adL,adM])<;>(first|exact rfl|exact hR|exact hg|exact hb))))
   ·have hwt:wr=true:=by
     cases wr
     ·have:=hwr rfl;simp at this
     ·rfl
    subst hwt
    simp only[abQ,acI]at e
    obtain⟨vG,hvG⟩:∃v,v=wG:=⟨_,rfl⟩
    cases wG<;>(try have:=hwG rfl)<;>(try subst G')<;>(
     refine⟨_,by simp only[Vc.down,seval,hR,hg,hb,n1,n2,e];exact rfl,?_⟩
     simp only[Ar,Cc]
     refine⟨fun x hx=>by((try simp (discharger:=((try simp only[aa9]);omega)) only[acR,abQ,acI,acV,adG,acL,acQ,aa9,adJ,adK,adL,adM])<;>(first|exact rfl|exact rfl)),hr6,hG0,hL,true,(vG||w1),w2,.nils,.slr 1 h.length 0 R.length,?_,?_,?_,.inl ⟨rfl,rfl⟩,.inr ⟨h.length,wR,hR',rfl,?_,by omega,by simp⟩⟩
     all_goals (subst vG;((try simp (discharger:=((try simp only[aa9]);omega)) only[acR,abQ,acI,acV,adG,acL,acQ,aa9,adJ,adK,adL,adM])<;>(first|exact rfl|exact hR|exact hg|exact hb))))
   ·have hwt:wr=true:=by
     cases wr
     ·have:=hwr rfl;simp at this
     ·rfl
    subst hwt
    simp only[abQ,acI]at e
    obtain⟨vG,hvG⟩:∃v,v=wG:=⟨_,rfl⟩
    cases wG<;>(try have:=hwG rfl)<;>(try subst G')<;>(
     refine⟨_,by simp only[Vc.down,seval,hR,hg,hb,n1,n2,e];exact rfl,?_⟩
     simp only[Ar,Cc]
     refine⟨fun x hx=>by((try simp (discharger:=((try simp only[aa9]);omega)) only[acR,abQ,acI,acV,adG,acL,acQ,aa9,adJ,adK,adL,adM])<;>(first|exact rfl|exact rfl)),hr6,hG0,hL,true,(vG||w1),w2,.slr 5 h.length 0 O'.length,.slr 1 (h.length+1) 0 R.length,?_,?_,?_,.inr ⟨h.length,wo,rfl,?_,by omega⟩,.inr ⟨h.length+1,wR,hR',rfl,?_,by omega,by simp⟩⟩
     all_goals (subst vG;((try simp (discharger:=((try simp only[aa9]);omega)) only[acR,abQ,acI,acV,adG,acL,acQ,aa9,adJ,adK,adL,adM])<;>(first|exact rfl|exact hR|exact hg|exact hb))))
  ·have n3:(r=io)=False:=eq_false fun e=>by subst e;rw[hR]at hio;simp at hio
   have n4:(5=io)=False:=eq_false (by omega)
   have n5:(6=io)=False:=eq_false (by omega)
   have l4:=Eb hio
   have m1:r≠io:=of_eq_false n3
   obtain⟨o,h',e,rfl,wr,wG,wo,wR,ov,rv,T,hq⟩:=aaC (s:=s) (d:=d) (w:=false) (w1:=false) (w2:=false) (w3:=false) (hr:=hr) (own:=own) (fuel:=fuel) (G:=G) (L:=L) (O:=O) hG hOl hd50 ho
   generalize hF:Bd s.cons hr d.trades 0 (G,O,[])=F at *
   obtain⟨G',O',R⟩:=F
   obtain⟨hwG,hwr,rfl,hT⟩:=hq _ _ _ rfl
   clear hq
   dsimp only at hG0 ⊢
   rw[hG,hL]at e
   rcases hT with⟨rfl,rfl,rfl,rfl,rfl⟩|⟨hR',rfl,rfl,rfl,rfl⟩|⟨rfl,rfl,rfl,rfl⟩|⟨hR',rfl,rfl,rfl⟩
   ·simp only[abQ,acI]at e
    obtain⟨vG,hvG⟩:∃v,v=wG:=⟨_,rfl⟩
    obtain⟨vr,hvr⟩:∃v,v=wr:=⟨_,rfl⟩
    obtain⟨vo,hvo⟩:∃v,v=wo:=⟨_,rfl⟩
    cases wr<;>cases wG<;>cases wo<;>(try have:=hwG rfl)<;>(try subst G')<;>(
     refine⟨_,by simp only[Vc.down,seval,hR,hg,hb,hio,n1,n2,n3,n4,n5,e];exact rfl,?_⟩
     simp only[Ar,Cc]
     refine⟨fun x hx=>by((try simp (discharger:=((try simp only[aa9]);omega)) only[acR,abQ,acI,acV,adG,acL,acQ,aa9,adJ,adK,adL,adM])<;>(first|exact rfl|exact rfl)),hr6,hG0,hL,(vr||w),(vG||w1),w2,.slr 5 io 0 O'.length,.nils,?_,?_,?_,.inr ⟨io,(vo||w3),rfl,?_,hio6⟩,.inl ⟨rfl,rfl⟩⟩
     all_goals (subst vG;subst vr;subst vo;((try simp (discharger:=((try simp only[aa9]);omega)) only[acR,abQ,acI,acV,adG,acL,acQ,aa9,adJ,adK,adL,adM])<;>(first|exact rfl|exact hR|exact hg|exact hb|exact hio))))
   ·have hwt:wr=true:=by
     cases wr
     ·have:=hwr rfl;simp at this
     ·rfl
    subst hwt
    simp only[abQ,acI]at e
    obtain⟨vG,hvG⟩:∃v,v=wG:=⟨_,rfl⟩
    obtain⟨vo,hvo⟩:∃v,v=wo:=⟨_,rfl⟩
    cases wG<;>cases wo<;>(try have:=hwG rfl)<;>(try subst G')<;>(
     refine⟨_,by simp only[Vc.down,seval,hR,hg,hb,hio,n1,n2,n3,n4,n5,e];exact rfl,?_⟩
     simp only[Ar,Cc]
     refine⟨fun x hx=>by((try simp (discharger:=((try simp only[aa9]);omega)) only[acR,abQ,acI,acV,adG,acL,acQ,aa9,adJ,adK,adL,adM])<;>(first|exact rfl|exact rfl)),hr6,hG0,hL,true,(vG||w1),w2,.slr 5 io 0 O'.length,.slr 1 h.length 0 R.length,?_,?_,?_,.inr ⟨io,(vo||w3),rfl,?_,hio6⟩,.inr ⟨h.length,wR,hR',rfl,?_,by omega,by simp⟩⟩
     all_goals (subst vG;subst vo;((try simp (discharger:=((try simp only[aa9]);omega)) only[acR,abQ,acI,acV,adG,acL,acQ,aa9,adJ,adK,adL,adM])<;>(first|exact rfl|exact hR|exact hg|exact hb|exact hio))))
   ·have hwt:wr=true:=by
     cases wr
     ·have:=hwr rfl;simp at this
     ·rfl
    subst hwt
    simp only[abQ,acI]at e
    obtain⟨vG,hvG⟩:∃v,v=wG:=⟨_,rfl⟩
    obtain⟨vo,hvo⟩:∃v,v=wo:=⟨_,rfl⟩
    cases wG<;>cases wo<;>(try have:=hwG rfl)<;>(try subst G')<;>(
     refine⟨_,by simp only[Vc.down,seval,hR,hg,hb,hio,n1,n2,n3,n4,n5,e];exact rfl,?_⟩
     simp only[Ar,Cc]
     refine⟨fun x hx=>by((try simp (discharger:=((try simp only[aa9]);omega)) only[acR,abQ,acI,acV,adG,acL,acQ,aa9,adJ,adK,adL,adM])<;>(first|exact rfl|exact rfl)),hr6,hG0,hL,true,(vG||w1),w2,.slr 5 h.length 0 O'.length,.nils,?_,?_,?_,.inr ⟨h.length,vo,rfl,?_,by omega⟩,.inl ⟨rfl,rfl⟩⟩
     all_goals (subst vG;subst vo;((try simp (discharger:=((try simp only[aa9]);omega)) only[acR,abQ,acI,acV,adG,acL,acQ,aa9,adJ,adK,adL,adM])<;>(first|exact rfl|exact hR|exact hg|exact hb|exact hio))))
   ·have hwt:wr=true:=by
     cases wr
     ·have:=hwr rfl;simp at this
     ·rfl
    subst hwt
    simp only[abQ,acI]at e
    obtain⟨vG,hvG⟩:∃v,v=wG:=⟨_,rfl⟩
    obtain⟨vo,hvo⟩:∃v,v=wo:=⟨_,rfl⟩
    cases wG<;>cases wo<;>(try have:=hwG rfl)<;>(try subst G')<;>(
     refine⟨_,by simp only[Vc.down,seval,hR,hg,hb,hio,n1,n2,n3,n4,n5,e];exact rfl,?_⟩
     simp only[Ar,Cc]
     refine⟨fun x hx=>by((try simp (discharger:=((try simp only[aa9]);omega)) only[acR,abQ,acI,acV,adG,acL,acQ,aa9,adJ,adK,adL,adM])<;>(first|exact rfl|exact rfl)),hr6,hG0,hL,true,(vG||w1),w2,.slr 5 h.length 0 O'.length,.slr 1 (h.length+1) 0 R.length,?_,?_,?_,.inr ⟨h.length,vo,rfl,?_,by omega⟩,.inr ⟨h.length+1,wR,hR',rfl,?_,by omega,by simp⟩⟩
     all_goals (subst vG;subst vo;((try simp (discharger:=((try simp only[aa9]);omega)) only[acR,abQ,acI,acV,adG,acL,acQ,aa9,adJ,adK,adL,adM])<;>(first|exact rfl|exact hR|exact hg|exact hb|exact hio))))
 ·exact absurd rfl hne
end Go.Proofs.YtdbiogihimdpcaaGreatDoor
