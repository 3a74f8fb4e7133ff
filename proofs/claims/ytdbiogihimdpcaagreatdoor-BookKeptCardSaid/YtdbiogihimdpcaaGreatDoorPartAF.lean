/- The functions of the layer, walked. -/
import Derived.Test.YtdbiogihimdpcaaGreatDoorPartAE
open List renaming length_set→aaF,cons_append→aaR,nil_append→aaV,getElem?_set_ne→abL,getElem?_set_self→abT,append_assoc→acK,getElem?_append_left→acY,getElem?_append_right→acZ,getElem?_cons_zero→ac4,getElem?_cons_succ→ac5,getElem?_eq_some_iff→adA,append_nil→aeG
open Nat renaming sub_self→ac2,add_sub_cancel_left→ac3
set_option linter.unusedSimpArgs false
set_option linter.unusedVariables false
namespace Go.Proofs.YtdbiogihimdpcaaGreatDoor
open Go.Ev Go
set_option maxRecDepth 100000
set_option maxHeartbeats 16000000
def OvS(O:List Ab)(ov:AV)(h:Aa):Prop:=(O=[]∧ov=.nils)∨∃b w,ov=.slr 5 b 0 O.length∧h[b]?=some (.live 5 true w (O.map Ab.cells))∧6<b
def RvS(R:List Int)(rv:AV)(ex:List Nat)(h:Aa):Prop:=(R=[]∧rv=.nils)∨∃b w,R≠[]∧rv=.slr 1 b 0 R.length∧h[b]?=some (.live 1 true w (R.map iv))∧6<b∧b∉ex
def HsA(s:Ac)(d:Aq)(hr own fuel:Int)(G L:List Int)(O:List Ab)(R:List Int)(r:Nat)(h:Aa):Prop:=
 6<r∧G.length=s.cons.length∧L.length=s.cons.length∧∃w w1 w2 ov rv,h[r]?=some (.live 19 false w [(rc s d hr (.slr 1 5 0 s.cons.length) own fuel (.slr 1 6 0 s.cons.length) ov .nils .nils .nils rv)])∧h[5]?=some (.live 1 true w1 (G.map iv))∧h[6]?=some (.live 1 true w2 (L.map iv))∧OvS O ov h∧RvS R rv [] h
theorem as2{h:Aa}{b:Nat}{c d:CB}(hb:h[b]?=some d):(h.set b c)[b]?=some c:=by
 rw[abT (adA.1 hb).1]
def yK(h h':Aa):Prop:=∀x,x<5→h'[x]?=h[x]?
theorem yK.refl(h:Aa):yK h h:=fun _ _=>rfl
theorem yK.set{h h':Aa}(k:yK h h'){b:Nat}(hb:4<b)(c:CB):yK h (h'.set b c):=fun x hx=>by
 rw[abL (by omega)];exact k x hx
theorem anS{h:Aa}{b x:Nat}{c:CB}(hb:b≠x):(h.set b c)[x]?=h[x]?:=abL hb
theorem Dy{h:Aa}{x:Nat}{d:CB}(hx:h[x]?=some d):x<h.length:=(adA.1 hx).1
theorem Oy(cs:List Ae)(hr:Int):∀(O:List Ab) (G L:List Int) (p:List Ab),(Bz cs hr O (G,L,p)).1.length=G.length∧(Bz cs hr O (G,L,p)).2.1.length=L.length
 | [],_,_,_=>⟨rfl,rfl⟩
 |t::O,G,L,p=>by
  simp only[Bz]
  split
  ·have:=Oy cs hr O (Sv cs t G) (Ta cs t G L) p
   rw[Vv,Nr]at this
   exact this
  ·exact Oy cs hr O G L (p++[t])
theorem agX{s:Ac}{d:Aq}{hr own fuel:Int}{h:Aa}{r:Nat}{G L:List Int}{O:List Ab}(hOl:O.length≤1000)(ho:∀t∈O,t.ok s.cons.length)(H:HsA s d hr own fuel G L O [] r h):
 ∃es,cl Bn h (some (.func (.func 104) [.ptr r 0 0] [])) (some [])=some (.ret (.tup []),es)∧yK h (Ar h es)∧
  HsA s d hr own fuel (Bz s.cons hr O (G,L,[])).1 (Bz s.cons hr O (G,L,[])).2.1 (Bz s.cons hr O (G,L,[])).2.2 [] r (Ar h es):=by
 obtain⟨hr6,hG,hL,w,w1,w2,ov,rv,hR,hg,hb,hov,hrv⟩:=H
 have n1:(r=5)=False:=eq_false (by omega)
 have n2:(r=6)=False:=eq_false (by omega)
 obtain⟨_,rfl⟩|⟨_,_,hne,_⟩:=hrv
 ·rcases hov with⟨rfl,rfl⟩|⟨io,w3,rfl,hio,hio6⟩
  ·obtain⟨o,h',e,rfl,rfl⟩:=ad3 (s:=s) (d:=d) (fl:=false) (w:=false) (w1:=false) (w2:=false) (hr:=hr) (own:=own) (fuel:=fuel) (G:=G) (L:=L) rfl rfl rfl rfl
   rw[hG,hL]at e
   refine⟨_,by simp only[Vc.down,seval,hR,hg,hb,n1,n2,e];exact rfl,?_⟩
   simp only[Ar,Bw]
   refine⟨(yK.refl h).set (by omega) _,hr6,hG,hL,true,w1,w2,.nils,.nils,as2 hR,?_,?_,.inl ⟨rfl,rfl⟩,.inl ⟨rfl,rfl⟩⟩
   ·rw[anS (by omega)];exact hg
   ·rw[anS (by omega)];exact hb
  ·have n3:(r=io)=False:=eq_false fun e=>by subst e;rw[hR]at hio;simp at hio
   have n4:(5=io)=False:=eq_false (by omega)
   have n5:(6=io)=False:=eq_false (by omega)
   obtain⟨o,h',e,rfl,wG,wL,hq⟩:=akX (s:=s) (d:=d) (fl:=false) (w:=false) (w1:=false) (w2:=false) (w3:=false) (hr:=hr) (own:=own) (fuel:=fuel) (G:=G) (L:=L) hG hL hOl ho rfl rfl rfl rfl
   generalize hF:Bz s.cons hr O (G,L,[])=F at *
   obtain⟨G',L',p'⟩:=F
   obtain⟨hwG,hwL,rfl⟩:=hq _ _ _ rfl
   rw[hG,hL]at e
   clear hq
   have hG':G'.length=s.cons.length:=by have:=Oy s.cons hr O G L [];rw[hF]at this;dsimp only at this;omega
   have hL':L'.length=s.cons.length:=by have:=Oy s.cons hr O G L [];rw[hF]at this;dsimp only at this;omega
   have l1:=Dy hR
   have l2:=Dy hg
   have l3:=Dy hb
   have l4:=Dy hio
   have m1:r≠io:=of_eq_false n3
   by_cases hp:p'=[]
   ·subst hp
    simp only[rN,sO,if_true,aeG]at e
    obtain⟨vG,hvG⟩:∃v,v=wG:=⟨_,rfl⟩
    obtain⟨vL,hvL⟩:∃v,v=wL:=⟨_,rfl⟩
    cases wG<;>cases wL<;>(try have:=hwG rfl)<;>(try have:=hwL rfl)<;>(try subst G')<;>(try subst L')<;>(
     refine⟨_,by simp only[Vc.down,seval,hR,hg,hb,hio,n1,n2,n3,n4,n5,e];exact rfl,?_⟩
     simp only[Ar,Bw]
     refine⟨fun x hx=>by((try simp (discharger:=((try simp only[aaF]);omega)) only[acK,aaR,aaV,acY,acZ,abL,abT,aaF,ac2,ac3,ac4,ac5])<;>(first|exact rfl|exact rfl)),hr6,hG',hL',true,(vG||w1),(vL||w2),.nils,.nils,?_,?_,?_,.inl ⟨rfl,rfl⟩,.inl ⟨rfl,rfl⟩⟩
     all_goals (subst vG;subst vL;((try simp (discharger:=((try simp only[aaF]);omega)) only[acK,aaR,aaV,acY,acZ,abL,abT,aaF,ac2,ac3,ac4,ac5])<;>(first|exact rfl|exact hg|exact hb))))
   ·simp only[rN,sO,hp,if_false]at e
    obtain⟨vG,hvG⟩:∃v,v=wG:=⟨_,rfl⟩
    obtain⟨vL,hvL⟩:∃v,v=wL:=⟨_,rfl⟩
    cases wG<;>cases wL<;>(try have:=hwG rfl)<;>(try have:=hwL rfl)<;>(try subst G')<;>(try subst L')<;>(
     refine⟨_,by simp only[Vc.down,seval,hR,hg,hb,hio,n1,n2,n3,n4,n5,e];exact rfl,?_⟩
     simp only[Ar,Bw]
     refine⟨fun x hx=>by((try simp (discharger:=((try simp only[aaF]);omega)) only[acK,aaR,aaV,acY,acZ,abL,abT,aaF,ac2,ac3,ac4,ac5])<;>(first|exact rfl|exact rfl)),hr6,hG',hL',true,(vG||w1),(vL||w2),.slr 5 h.length 0 p'.length,.nils,?_,?_,?_,.inr ⟨h.length,false,rfl,?_,?_⟩,.inl ⟨rfl,rfl⟩⟩
     all_goals first
      |omega
      |(subst vG;subst vL;((try simp (discharger:=((try simp only[aaF]);omega)) only[acK,aaR,aaV,acY,acZ,abL,abT,aaF,ac2,ac3,ac4,ac5])<;>(first|exact rfl|exact hg|exact hb))))
 ·exact absurd rfl hne
theorem Nn(cs:List Ae)(hr:Int):∀(T:List Ab) (i:Nat) (G:List Int) (O:List Ab) (R:List Int),(Bd cs hr T i (G,O,R)).1.length=G.length
 | [],_,_,_,_=>rfl
 |t::T,i,G,O,R=>by
  simp only[Bd]
  split
  ·split
   ·exact Nn cs hr T _ _ _ _
   ·rw[Nn cs hr T _ _ _ _,Hw]
  ·exact Nn cs hr T _ _ _ _
theorem abO{s:Ac}{d:Aq}{hr own fuel:Int}{h:Aa}{r:Nat}{G L:List Int}{O:List Ab}(hOl:O.length≤1000)(hd50:d.trades.length≤1000)(ho:∀t∈d.trades,t.ok s.cons.length)(H:HsA s d hr own fuel G L O [] r h):
 ∃es,cl Bn h (some (.func (.func 105) [.ptr r 0 0] [])) (some [])=some (.ret (.tup []),es)∧yK h (Ar h es)∧
  HsA s d hr own fuel (Bd s.cons hr d.trades 0 (G,O,[])).1 L (Bd s.cons hr d.trades 0 (G,O,[])).2.1 (Bd s.cons hr d.trades 0 (G,O,[])).2.2 r (Ar h es):=by
 obtain⟨hr6,hG,hL,w,w1,w2,ov,rv,hR,hg,hb,hov,hrv⟩:=H
 have n1:(r=5)=False:=eq_false (by omega)
 have n2:(r=6)=False:=eq_false (by omega)
 have l1:=Dy hR
 have l2:=Dy hg
 have l3:=Dy hb
 have hG0:(Bd s.cons hr d.trades 0 (G,O,[])).1.length=s.cons.length:=by rw[Nn,hG]
 obtain⟨_,rfl⟩|⟨_,_,hne,_⟩:=hrv
 ·rcases hov with⟨rfl,rfl⟩|⟨io,w3,rfl,hio,hio6⟩
  ·obtain⟨o,h',e,rfl,wr,wG,wo,wR,ov,rv,T,hq⟩:=ab4 (s:=s) (d:=d) (w:=false) (w1:=false) (w2:=false) (hr:=hr) (own:=own) (fuel:=fuel) (G:=G) (L:=L) (O:=[]) (w3:=false) hG rfl hd50 ho
   generalize hF:Bd s.cons hr d.trades 0 (G,[],[])=F at *
   obtain⟨G',O',R⟩:=F
   obtain⟨hwG,hwr,rfl,hT⟩:=hq _ _ _ rfl
   clear hq
   dsimp only at hG0 ⊢
   rw[hG,hL]at e
   rcases hT with⟨rfl,rfl,rfl,rfl,rfl⟩|⟨hO',rfl,rfl,rfl,rfl⟩|⟨rfl,hR',rfl,rfl,rfl⟩|⟨hO',hR',rfl,rfl,rfl⟩
   ·simp only[aeG]at e
    obtain⟨vG,hvG⟩:∃v,v=wG:=⟨_,rfl⟩
    obtain⟨vr,hvr⟩:∃v,v=wr:=⟨_,rfl⟩
    cases wr<;>cases wG<;>(try have:=hwG rfl)<;>(try subst G')<;>(
     refine⟨_,by simp only[Vc.down,seval,hR,hg,hb,n1,n2,e];exact rfl,?_⟩
     simp only[Ar,Bw]
     refine⟨fun x hx=>by((try simp (discharger:=((try simp only[aaF]);omega)) only[acK,aaR,aaV,acY,acZ,abL,abT,aaF,ac2,ac3,ac4,ac5])<;>(first|exact rfl|exact rfl)),hr6,hG0,hL,(vr||w),(vG||w1),w2,.nils,.nils,?_,?_,?_,.inl ⟨rfl,rfl⟩,.inl ⟨rfl,rfl⟩⟩
     all_goals (subst vG;subst vr;((try simp (discharger:=((try simp only[aaF]);omega)) only[acK,aaR,aaV,acY,acZ,abL,abT,aaF,ac2,ac3,ac4,ac5])<;>(first|exact rfl|exact hR|exact hg|exact hb))))
   ·have hwt:wr=true:=by
     cases wr
     ·have:=hwr rfl;simp at this
     ·rfl
    subst hwt
    simp only[aaR,aaV]at e
    obtain⟨vG,hvG⟩:∃v,v=wG:=⟨_,rfl⟩
    cases wG<;>(try have:=hwG rfl)<;>(try subst G')<;>(
     refine⟨_,by simp only[Vc.down,seval,hR,hg,hb,n1,n2,e];exact rfl,?_⟩
     simp only[Ar,Bw]
     refine⟨fun x hx=>by((try simp (discharger:=((try simp only[aaF]);omega)) only[acK,aaR,aaV,acY,acZ,abL,abT,aaF,ac2,ac3,ac4,ac5])<;>(first|exact rfl|exact rfl)),hr6,hG0,hL,true,(vG||w1),w2,.slr 5 h.length 0 O'.length,.nils,?_,?_,?_,.inr ⟨h.length,wo,rfl,?_,by omega⟩,.inl ⟨rfl,rfl⟩⟩
     all_goals (subst vG;((try simp (discharger:=((try simp only[aaF]);omega)) only[acK,aaR,aaV,acY,acZ,abL,abT,aaF,ac2,ac3,ac4,ac5])<;>(first|exact rfl|exact hR|exact hg|exact hb))))
   ·have hwt:wr=true:=by
     cases wr
     ·have:=hwr rfl;simp at this
     ·rfl
    subst hwt
    simp only[aaR,aaV]at e
    obtain⟨vG,hvG⟩:∃v,v=wG:=⟨_,rfl⟩
    cases wG<;>(try have:=hwG rfl)<;>(try subst G')<;>(
     refine⟨_,by simp only[Vc.down,seval,hR,hg,hb,n1,n2,e];exact rfl,?_⟩
     simp only[Ar,Bw]
     refine⟨fun x hx=>by((try simp (discharger:=((try simp only[aaF]);omega)) only[acK,aaR,aaV,acY,acZ,abL,abT,aaF,ac2,ac3,ac4,ac5])<;>(first|exact rfl|exact rfl)),hr6,hG0,hL,true,(vG||w1),w2,.nils,.slr 1 h.length 0 R.length,?_,?_,?_,.inl ⟨rfl,rfl⟩,.inr ⟨h.length,wR,hR',rfl,?_,by omega,by simp⟩⟩
     all_goals (subst vG;((try simp (discharger:=((try simp only[aaF]);omega)) only[acK,aaR,aaV,acY,acZ,abL,abT,aaF,ac2,ac3,ac4,ac5])<;>(first|exact rfl|exact hR|exact hg|exact hb))))
   ·have hwt:wr=true:=by
     cases wr
     ·have:=hwr rfl;simp at this
     ·rfl
    subst hwt
    simp only[aaR,aaV]at e
    obtain⟨vG,hvG⟩:∃v,v=wG:=⟨_,rfl⟩
    cases wG<;>(try have:=hwG rfl)<;>(try subst G')<;>(
     refine⟨_,by simp only[Vc.down,seval,hR,hg,hb,n1,n2,e];exact rfl,?_⟩
     simp only[Ar,Bw]
     refine⟨fun x hx=>by((try simp (discharger:=((try simp only[aaF]);omega)) only[acK,aaR,aaV,acY,acZ,abL,abT,aaF,ac2,ac3,ac4,ac5])<;>(first|exact rfl|exact rfl)),hr6,hG0,hL,true,(vG||w1),w2,.slr 5 h.length 0 O'.length,.slr 1 (h.length+1) 0 R.length,?_,?_,?_,.inr ⟨h.length,wo,rfl,?_,by omega⟩,.inr ⟨h.length+1,wR,hR',rfl,?_,by omega,by simp⟩⟩
     all_goals (subst vG;((try simp (discharger:=((try simp only[aaF]);omega)) only[acK,aaR,aaV,acY,acZ,abL,abT,aaF,ac2,ac3,ac4,ac5])<;>(first|exact rfl|exact hR|exact hg|exact hb))))
  ·have n3:(r=io)=False:=eq_false fun e=>by subst e;rw[hR]at hio;simp at hio
   have n4:(5=io)=False:=eq_false (by omega)
   have n5:(6=io)=False:=eq_false (by omega)
   have l4:=Dy hio
   have m1:r≠io:=of_eq_false n3
   obtain⟨o,h',e,rfl,wr,wG,wo,wR,ov,rv,T,hq⟩:=aaL (s:=s) (d:=d) (w:=false) (w1:=false) (w2:=false) (w3:=false) (hr:=hr) (own:=own) (fuel:=fuel) (G:=G) (L:=L) (O:=O) hG hOl hd50 ho
   generalize hF:Bd s.cons hr d.trades 0 (G,O,[])=F at *
   obtain⟨G',O',R⟩:=F
   obtain⟨hwG,hwr,rfl,hT⟩:=hq _ _ _ rfl
   clear hq
   dsimp only at hG0 ⊢
   rw[hG,hL]at e
   rcases hT with⟨rfl,rfl,rfl,rfl,rfl⟩|⟨hR',rfl,rfl,rfl,rfl⟩|⟨rfl,rfl,rfl,rfl⟩|⟨hR',rfl,rfl,rfl⟩
   ·simp only[aaR,aaV]at e
    obtain⟨vG,hvG⟩:∃v,v=wG:=⟨_,rfl⟩
    obtain⟨vr,hvr⟩:∃v,v=wr:=⟨_,rfl⟩
    obtain⟨vo,hvo⟩:∃v,v=wo:=⟨_,rfl⟩
    cases wr<;>cases wG<;>cases wo<;>(try have:=hwG rfl)<;>(try subst G')<;>(
     refine⟨_,by simp only[Vc.down,seval,hR,hg,hb,hio,n1,n2,n3,n4,n5,e];exact rfl,?_⟩
     simp only[Ar,Bw]
     refine⟨fun x hx=>by((try simp (discharger:=((try simp only[aaF]);omega)) only[acK,aaR,aaV,acY,acZ,abL,abT,aaF,ac2,ac3,ac4,ac5])<;>(first|exact rfl|exact rfl)),hr6,hG0,hL,(vr||w),(vG||w1),w2,.slr 5 io 0 O'.length,.nils,?_,?_,?_,.inr ⟨io,(vo||w3),rfl,?_,hio6⟩,.inl ⟨rfl,rfl⟩⟩
     all_goals (subst vG;subst vr;subst vo;((try simp (discharger:=((try simp only[aaF]);omega)) only[acK,aaR,aaV,acY,acZ,abL,abT,aaF,ac2,ac3,ac4,ac5])<;>(first|exact rfl|exact hR|exact hg|exact hb|exact hio))))
   ·have hwt:wr=true:=by
     cases wr
     ·have:=hwr rfl;simp at this
     ·rfl
    subst hwt
    simp only[aaR,aaV]at e
    obtain⟨vG,hvG⟩:∃v,v=wG:=⟨_,rfl⟩
    obtain⟨vo,hvo⟩:∃v,v=wo:=⟨_,rfl⟩
    cases wG<;>cases wo<;>(try have:=hwG rfl)<;>(try subst G')<;>(
     refine⟨_,by simp only[Vc.down,seval,hR,hg,hb,hio,n1,n2,n3,n4,n5,e];exact rfl,?_⟩
     simp only[Ar,Bw]
     refine⟨fun x hx=>by((try simp (discharger:=((try simp only[aaF]);omega)) only[acK,aaR,aaV,acY,acZ,abL,abT,aaF,ac2,ac3,ac4,ac5])<;>(first|exact rfl|exact rfl)),hr6,hG0,hL,true,(vG||w1),w2,.slr 5 io 0 O'.length,.slr 1 h.length 0 R.length,?_,?_,?_,.inr ⟨io,(vo||w3),rfl,?_,hio6⟩,.inr ⟨h.length,wR,hR',rfl,?_,by omega,by simp⟩⟩
     all_goals (subst vG;subst vo;((try simp (discharger:=((try simp only[aaF]);omega)) only[acK,aaR,aaV,acY,acZ,abL,abT,aaF,ac2,ac3,ac4,ac5])<;>(first|exact rfl|exact hR|exact hg|exact hb|exact hio))))
   ·have hwt:wr=true:=by
     cases wr
     ·have:=hwr rfl;simp at this
     ·rfl
    subst hwt
    simp only[aaR,aaV]at e
    obtain⟨vG,hvG⟩:∃v,v=wG:=⟨_,rfl⟩
    obtain⟨vo,hvo⟩:∃v,v=wo:=⟨_,rfl⟩
    cases wG<;>cases wo<;>(try have:=hwG rfl)<;>(try subst G')<;>(
     refine⟨_,by simp only[Vc.down,seval,hR,hg,hb,hio,n1,n2,n3,n4,n5,e];exact rfl,?_⟩
     simp only[Ar,Bw]
     refine⟨fun x hx=>by((try simp (discharger:=((try simp only[aaF]);omega)) only[acK,aaR,aaV,acY,acZ,abL,abT,aaF,ac2,ac3,ac4,ac5])<;>(first|exact rfl|exact rfl)),hr6,hG0,hL,true,(vG||w1),w2,.slr 5 h.length 0 O'.length,.nils,?_,?_,?_,.inr ⟨h.length,vo,rfl,?_,by omega⟩,.inl ⟨rfl,rfl⟩⟩
     all_goals (subst vG;subst vo;((try simp (discharger:=((try simp only[aaF]);omega)) only[acK,aaR,aaV,acY,acZ,abL,abT,aaF,ac2,ac3,ac4,ac5])<;>(first|exact rfl|exact hR|exact hg|exact hb|exact hio))))
   ·have hwt:wr=true:=by
     cases wr
     ·have:=hwr rfl;simp at this
     ·rfl
    subst hwt
    simp only[aaR,aaV]at e
    obtain⟨vG,hvG⟩:∃v,v=wG:=⟨_,rfl⟩
    obtain⟨vo,hvo⟩:∃v,v=wo:=⟨_,rfl⟩
    cases wG<;>cases wo<;>(try have:=hwG rfl)<;>(try subst G')<;>(
     refine⟨_,by simp only[Vc.down,seval,hR,hg,hb,hio,n1,n2,n3,n4,n5,e];exact rfl,?_⟩
     simp only[Ar,Bw]
     refine⟨fun x hx=>by((try simp (discharger:=((try simp only[aaF]);omega)) only[acK,aaR,aaV,acY,acZ,abL,abT,aaF,ac2,ac3,ac4,ac5])<;>(first|exact rfl|exact rfl)),hr6,hG0,hL,true,(vG||w1),w2,.slr 5 h.length 0 O'.length,.slr 1 (h.length+1) 0 R.length,?_,?_,?_,.inr ⟨h.length,vo,rfl,?_,by omega⟩,.inr ⟨h.length+1,wR,hR',rfl,?_,by omega,by simp⟩⟩
     all_goals (subst vG;subst vo;((try simp (discharger:=((try simp only[aaF]);omega)) only[acK,aaR,aaV,acY,acZ,abL,abT,aaF,ac2,ac3,ac4,ac5])<;>(first|exact rfl|exact hR|exact hg|exact hb|exact hio))))
 ·exact absurd rfl hne
end Go.Proofs.YtdbiogihimdpcaaGreatDoor
