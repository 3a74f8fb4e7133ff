/- The functions of the layer, walked. -/
import Derived.Test.YtdbiogihimdpcaaGreatDoorPartAC
import Derived.Test.YtdbiogihimdpcaaGreatDoorPartAB
open List renaming length_map→aaE,map_eq_nil_iff→acM,take_of_length_le→acT,nil_append→adA,length_nil→adF,length_eq_zero_iff→adK,getElem?_set_ne→adO,mem_of_getElem?→adP,getElem?_eq_getElem→aiK,cons_append→ai4,append_assoc→ajQ,length_cons→ajR,length_append→ajS,getElem?_eq_some_iff→ajV,length_set→alB
open Bool renaming not_false→abH,not_true→abI,or_eq_false_iff→ajT
open Nat renaming add_zero→ab1,add_sub_cancel→adN
open Int renaming lt_irrefl→acZ,natCast_nonneg→adL,reduceEq→adM,natCast_zero→ajU
open Option renaming map_some→adI,getD_some→adJ
set_option linter.unusedSimpArgs false
set_option linter.unusedVariables false
namespace Go.Proofs.YtdbiogihimdpcaaGreatDoor
open Go.Ev Go
set_option maxRecDepth 100000
set_option maxHeartbeats 16000000
def Ku(t:Ab)(G:List Int):List Int:=
 sI (sI G t.frm (IntKind.i64.wrap (gI G t.frm-t.amount))) t.to (IntKind.i64.wrap (gI (sI G t.frm (IntKind.i64.wrap (gI G t.frm-t.amount))) t.to+t.amount))
def Lj(cs:List Ag)(t:Ab)(G:List Int)(n:Nat):Bool:=
 decide (gI G t.frm<t.amount)||decide (IntKind.i64.wrap (Ig cs t.to-gI G t.to)<t.amount)||(!(t.back== -1)&&decide ((50:Int)≤(n:Int)))
def Bc(cs:List Ag)(hr:Int):List Ab→Nat→List Int × List Ab × List Int→List Int × List Ab × List Int
 | [],_,a=>a
 |t::rest,i,(G,O,R)=>
  if(t.hour==hr)=true then
   if Lj cs t G O.length=true then Bc cs hr rest (i+1) (G,O,R++[(i:Int)])
   else Bc cs hr rest (i+1) (Ku t G,if(t.back== -1)=true then O else O++[t],R)
  else Bc cs hr rest (i+1) (G,O,R)
theorem Ib(t:Ab)(G:List Int):(Ku t G).length=G.length:=by simp[Ku,Bi]
def P3(O0:List Ab)(ov:AV)(O':List Ab)(g:Aa):Prop:=g[0]?=some .dead∨∃w,g[0]?=some (.live 5 true w (O'.map Ab.cells))∧ov=.slr 5 3 0 O'.length∧O'=O0
theorem P3.app{O0:List Ab}{ov:AV}{O':List Ab}{g:Aa}(h:P3 O0 ov O' g)(l:Aa):P3 O0 ov O' (g++l):=by
 rcases h with h|⟨w,h,e⟩
 ·exact .inl (Bv h l)
 ·exact .inr ⟨w,Bv h l,e⟩
theorem P3.kl{O0:List Ab}{ov rv:AV}{O':List Ab}{g:Aa}{rows:List (List AV)}(h:P3 O0 ov O' g)(hr:Ey 3 1 true rows rv g):P3 O0 ov O' (kl 3 rv g):=by
 rcases hr with⟨_,rfl⟩|⟨b,w,rfl,hb⟩
 ·exact h
 ·have hne:b≠0:=fun e=>by
   subst e
   rcases h with h|⟨w',h,_⟩<;>rw[h]at hb<;>simp at hb
  simp only[Ev.kl,adN]
  unfold P3
  rw[adO hne]
  exact h
theorem P3.dead{O0 O' O'':List Ab}{ov:AV}{b n:Nat}{g:Aa}(h:P3 O0 (.slr 5 (b+3) 0 n) O' g)(hb:b<g.length):P3 O0 ov O'' (g.set b .dead):=by
 refine .inl ?_
 by_cases e:b=0
 ·subst e;simp[hb]
 ·rw[adO e]
  rcases h with h|⟨w,_,h,_⟩
  ·exact h
  ·simp only[AV.slr.injEq]at h;omega
theorem acF{s:Ac}{d:Ao}{w w1 w2 w3:Bool}{hr own fuel:Int}{G L:List Int}{O:List Ab}(hG:G.length=s.cons.length)(hO:O=[])(hd50:d.trades.length≤1000)(ho:∀t∈d.trades,t.ok s.cons.length):
 Vo Bo 105 [.ptr 0 0 0] [.live 19 false w [(rc s d hr (.slr 1 1 0 G.length) own fuel (.slr 1 2 0 L.length) .nils .nils .nils .nils .nils)],.live 1 true w1 (G.map iv),.live 1 true w2 (L.map iv)]
  fun o h'=>o=.ret (.tup [])∧∃(wr wG wo wR:Bool) (ov rv:AV) (T:Aa),∀G' O' R,Bc s.cons hr d.trades 0 (G,O,[])=(G',O',R)→(wG=false→G'=G)∧(wr=false→ov=.nils∧rv=.nils)∧h'=[.live 19 false wr [(rc s d hr (.slr 1 1 0 G.length) own fuel (.slr 1 2 0 L.length) ov .nils .nils .nils rv)],.live 1 true wG (G'.map iv),.live 1 true w2 (L.map iv)]++T∧((O'=[]∧R=[]∧ov=.nils∧rv=.nils∧T=[])∨(O'≠[]∧R=[]∧ov=.slr 5 3 0 O'.length∧rv=.nils∧T=[.live 5 true wo (O'.map Ab.cells)])∨(O'=[]∧R≠[]∧ov=.nils∧rv=.slr 1 3 0 R.length∧T=[.live 1 true wR (R.map iv)])∨(O'≠[]∧R≠[]∧ov=.slr 5 3 0 O'.length∧rv=.slr 1 4 0 R.length∧T=[.live 5 true wo (O'.map Ab.cells),.live 1 true wR (R.map iv)])):=by
 have hl':d.trades.length≤maxLen:=by unfold maxLen;omega
 have hO1:O.length≤1000:=by first|exact hO|(rw[hO];simp)
 refine Nk rfl Tryz.func105 rfl rfl ?_
 simp only[Tryz.f105]
 (have hb:=trivial;with_reducible repeat' (first|simp only[hb,Vb.down,seval,Ii.down,aaE]|refine Aj ?_ ?_<;>intro hb|refine fd ?_|fail))
 refine Dk (Sr 112 d.trades (fun i (zz:List Int × List Ab × List Int × Nat) t h=>t 0=.ptr 0 0 0∧t 9=Bj 5 true d.nt (d.trades.map Ab.cells)∧t 10=.int .i64 d.trades.length∧t 11=.int .i64 i∧(∃wr wG g ov rv,h=.live 19 false wr [(rc s d hr (.slr 1 1 0 G.length) own fuel (.slr 1 2 0 L.length) ov .nils .nils .nils rv)]::.live 1 true wG (zz.1.map iv)::.live 1 true w2 (L.map iv)::g∧Bd g=true∧(wG=false→zz.1=G)∧(wr=false→ov=.nils∧rv=.nils)∧zz.1.length=G.length∧zz.2.1.length≤O.length+i∧zz.2.2.1.length≤i∧i=zz.2.2.2∧Ey 3 5 true (zz.2.1.map Ab.cells) ov g∧Ey 3 1 true (zz.2.2.1.map iv) rv g∧Sep ov rv∧(zz.2.1=[]→ov=.nils)∧(zz.2.2.1=[]→rv=.nils))) (fun rest zz=>Bc s.cons hr rest zz.2.2.2 (zz.1,zz.2.1,zz.2.2.1)) (fun r e t h=>e=.exit 0∧∃wr wG g ov rv,h=.live 19 false wr [(rc s d hr (.slr 1 1 0 G.length) own fuel (.slr 1 2 0 L.length) ov .nils .nils .nils rv)]::.live 1 true wG (r.1.map iv)::.live 1 true w2 (L.map iv)::g∧Bd g=true∧(wG=false→r.1=G)∧(wr=false→ov=.nils∧rv=.nils)∧Ey 3 5 true (r.2.1.map Ab.cells) ov g∧Ey 3 1 true (r.2.2.map iv) rv g∧Sep ov rv∧(r.2.1=[]→ov=.nils)∧(r.2.2=[]→rv=.nils)) ?_ ?_ (G,O,[],0) _ _ ?_) (fun e t h hk=>?_)
 ·rintro⟨G',O',R,k⟩ t h Q' kQ ⟨h0,h9,h10,h11,⟨wr,wG,g,ov,rv,rfl,hqg,hwG,hwr,hG',hOl,hRl,rfl,hown,hrow,hsp,⟨hx1,hx2⟩⟩⟩
  try dsimp only at *
  (have hb:=trivial;with_reducible repeat' (first|simp only[hb,Vb.down,seval,Ii.down,h0,h9,h10,h11,acZ,decide_false]|refine Aj ?_ ?_<;>intro hb|refine fd ?_|fail))
  exact kQ _ _ _ ⟨rfl,wr,wG,g,ov,rv,rfl,hqg,hwG,hwr,hown,hrow,hsp,⟨hx1,hx2⟩⟩
 ·rintro x rest i ⟨G',O',R,k⟩ t h J Q' kJ kQ hx hi ⟨h0,h9,h10,h11,⟨wr,wG,g,ov,rv,rfl,hqg,hwG,hwr,hG',hOl,hRl,rfl,hown,hrow,hsp,⟨hx1,hx2⟩⟩⟩
  have hd:decide ((i:Int)<(d.trades.length:Int))=true:=decide_eq_true (by omega)
  have hw:=Ak hi hl'
  try dsimp only at *
  obtain⟨⟨f0,f1⟩,k0,k1⟩:=ho x (adP hx)
  have e1:(0≤x.to)=True:=eq_true k0
  have e2:(x.to<(G.length:Int))=True:=eq_true (by omega)
  have e4:(0≤x.frm)=True:=eq_true f0
  have e5:(x.frm<(G.length:Int))=True:=eq_true (by omega)
  have hii:((i:Int)<(d.trades.length:Int))=True:=eq_true (by omega)
  obtain⟨ct,hct⟩:∃c,s.cons[x.to.toNat]?=some c:=⟨_,aiK (by omega)⟩
  have a1:G'[x.to.toNat]?=some (gI G' x.to):=Ht (by omega)
  have a3:G'[x.frm.toNat]?=some (gI G' x.frm):=Ht (by omega)
  have a5:∀v,(sI G' x.frm v)[x.to.toNat]?=some (gI (sI G' x.frm v) x.to):=fun v=>Ht (by rw[Bi];omega)
  have hroom:∀(tl:Aa),Bo.call (.sh 130) [.ptr 0 0 0,.int .i64 x.to] (.live 19 false false [(rc s d hr (.slr 1 1 0 G.length) own fuel (.slr 1 2 0 L.length) ov .nils .nils .nils rv)]::.live 1 true false (G'.map iv)::tl)=
   some (.ret (.int .i64 (IntKind.i64.wrap (ct.space-gI G' x.to))),.live 19 false false [(rc s d hr (.slr 1 1 0 G.length) own fuel (.slr 1 2 0 L.length) ov .nils .nils .nils rv)]::.live 1 true false (G'.map iv)::tl):=fun tl=>
   bI (b:=0) (bg:=1) (n:=G.length) hG' rfl rfl ⟨k0,by omega⟩ hct
  have hse:=fun i l l'=>Ya hqg i l l'
  have hln:=hown.ln Tryz.underlying46
  have hc1:=Ey.cell hown
  have hc2:=Ey.cell hrow
  have hc3:=Ey.acells hown
  have hc4:=Ey.acells hrow
  cases hbk:(x.hour==hr)with
  |false=>
   (have hb:=trivial;with_reducible repeat' (first|simp only[hb,Vb.down,seval,Ii.down,h0,h9,h10,h11,hd,hx,hw,hii,hbk,Ab.cells,aaE,abH]|refine Aj ?_ ?_<;>intro hb|refine fd ?_|fail))
   (refine Aq (kJ _ _ (G',O',R,i+1) ⟨?_,?_,?_,?_,⟨wr,wG,_,ov,rv,rfl,by rw[Dv,hqg];rfl,hwG,hwr,hG',by dsimp only;omega,by dsimp only;omega,rfl,hown.app _,hrow.app _,hsp,⟨hx1,hx2⟩⟩⟩ ?_);(simp[up,h0]);(simp[up,h9]);(simp[up,h10]);(simp[up]);(simp[Bc,hbk]))
  |true=>
   cases hno:Lj s.cons x G' O'.length with
   |true=>
    have hap1:=fun(q:Aa) (r:List AV)=>qC hrow (pre:=[.live 19 false wr [(rc s d hr (.slr 1 1 0 G.length) own fuel (.slr 1 2 0 L.length) ov .nils .nils .nils rv)],.live 1 true wG (G'.map iv),.live 1 true w2 (L.map iv)]) rfl q r [] (by simp;omega)
    have hhp1:=fun(q:Aa) (r:List (List AV)) (ba:Nat)=>jX hrow (pre:=[.live 19 false wr [(rc s d hr (.slr 1 1 0 G.length) own fuel (.slr 1 2 0 L.length) ov .nils .nils .nils rv)],.live 1 true wG (G'.map iv),.live 1 true w2 (L.map iv)]) rfl q 1 true r ba
    simp only[ai4,ajQ,adA,aaE,ajR,ajS,adF,Eh,Nat.reduceAdd]at hap1 hhp1
    have hno':=hno
    simp only[Lj,Ig,hct,adI,adJ]at hno'
    cases d1:decide (gI G' x.frm<x.amount)with
    |true=>
     (have hb:=trivial;with_reducible repeat' (first|simp only[hb,Vb.down,seval,Ii.down,d1,h0,h9,h10,h11,hd,hx,hw,hii,hbk,Ab.cells,Ag.cells,e1,e2,e4,e5,a1,a3,a5,hct,hroom,hse,iv,Fo,aaE,abH,abI,hln,hc1,hc2,hap1,hhp1,Je,Eh,ab1]|refine Aj ?_ ?_<;>intro hb|refine fd ?_|fail))
     (refine Aq (kJ _ _ (G',O',R++[(i:Int)],i+1) ⟨?_,?_,?_,?_,⟨true,wG,_,ov,_,rfl,by rw[Dv,Qv hqg];rfl,hwG,(fun h=>by cases h),hG',by dsimp only;omega,by simp;omega,rfl,(hown.kl hrow hsp.symm).app _,Ey.blk (b:=g.length+2) (w:=false) (by simp[Je,iv]) (by omega) (by simp),(hown.sep (by omega)),⟨hx1,fun h=>absurd h (by simp)⟩⟩⟩ ?_);(simp[up,h0]);(simp[up,h9]);(simp[up,h10]);(simp[up]);(simp[Bc,hbk,hno]))
    |false=>
     cases d2:decide (IntKind.i64.wrap (ct.space-gI G' x.to)<x.amount)with
     |true=>
      (have hb:=trivial;with_reducible repeat' (first|simp only[hb,Vb.down,seval,Ii.down,d1,d2,h0,h9,h10,h11,hd,hx,hw,hii,hbk,Ab.cells,Ag.cells,e1,e2,e4,e5,a1,a3,a5,hct,hroom,hse,iv,Fo,aaE,abH,abI,hln,hc1,hc2,hap1,hhp1,Je,Eh,ab1]|refine Aj ?_ ?_<;>intro hb|refine fd ?_|fail))
      (refine Aq (kJ _ _ (G',O',R++[(i:Int)],i+1) ⟨?_,?_,?_,?_,⟨true,wG,_,ov,_,rfl,by rw[Dv,Qv hqg];rfl,hwG,(fun h=>by cases h),hG',by dsimp only;omega,by simp;omega,rfl,(hown.kl hrow hsp.symm).app _,Ey.blk (b:=g.length+2) (w:=false) (by simp[Je,iv]) (by omega) (by simp),(hown.sep (by omega)),⟨hx1,fun h=>absurd h (by simp)⟩⟩⟩ ?_);(simp[up,h0]);(simp[up,h9]);(simp[up,h10]);(simp[up]);(simp[Bc,hbk,hno]))
     |false=>
      rw[d1,d2]at hno'
      have d3:(x.back== -1)=false:=by simpa using (by simpa using hno':_∧_).1
      have d4:decide ((50:Int)≤(O'.length:Int))=true:=by simpa using (by simpa using hno':_∧_).2
      (have hb:=trivial;with_reducible repeat' (first|simp only[hb,Vb.down,seval,Ii.down,d1,d2,d3,d4,h0,h9,h10,h11,hd,hx,hw,hii,hbk,Ab.cells,Ag.cells,e1,e2,e4,e5,a1,a3,a5,hct,hroom,hse,iv,Fo,aaE,abH,abI,hln,hc1,hc2,hap1,hhp1,Je,Eh,ab1]|refine Aj ?_ ?_<;>intro hb|refine fd ?_|fail))
      (refine Aq (kJ _ _ (G',O',R++[(i:Int)],i+1) ⟨?_,?_,?_,?_,⟨true,wG,_,ov,_,rfl,by rw[Dv,Qv hqg];rfl,hwG,(fun h=>by cases h),hG',by dsimp only;omega,by simp;omega,rfl,(hown.kl hrow hsp.symm).app _,Ey.blk (b:=g.length+2) (w:=false) (by simp[Je,iv]) (by omega) (by simp),(hown.sep (by omega)),⟨hx1,fun h=>absurd h (by simp)⟩⟩⟩ ?_);(simp[up,h0]);(simp[up,h9]);(simp[up,h10]);(simp[up]);(simp[Bc,hbk,hno]))
   |false=>
    have hno':=hno
    simp only[Lj,Ig,hct,adI,adJ,ajT]at hno'
    obtain⟨⟨d1,d2⟩,d3⟩:=hno'
    cases c1:(x.back== -1)with
    |true=>
     (have hb:=trivial;with_reducible repeat' (first|simp only[hb,Vb.down,seval,Ii.down,d1,d2,c1,h0,h9,h10,h11,hd,hx,hw,hii,hbk,Ab.cells,Ag.cells,e1,e2,e4,e5,a1,a3,a5,hct,hroom,hse,iv,Fo,aaE,abH,abI,hln,hc1,hc2,Je,Eh,ab1,Qc]|refine Aj ?_ ?_<;>intro hb|refine fd ?_|fail))
     (refine Aq (kJ _ _ (Ku x G',O',R,i+1) ⟨?_,?_,?_,?_,⟨wr,true,g++[.live 5 true true [x.cells]],ov,rv,by simp[Ku,Ab.cells],by rw[Dv,hqg];rfl,(fun h=>by cases h),hwr,by rw[Ib];exact hG',by dsimp only;omega,by dsimp only;omega,rfl,hown.app _,hrow.app _,hsp,⟨hx1,hx2⟩⟩⟩ ?_);(simp[up,h0]);(simp[up,h9]);(simp[up,h10]);(simp[up]);(simp[Bc,hbk,hno,c1]))
    |false=>
     have d4:decide ((50:Int)≤(O'.length:Int))=false:=by rw[c1]at d3;simpa using d3
     have hown':=hown
     rcases hown with⟨hO0,rfl⟩|⟨b,wo,rfl,hgb⟩
     ·obtain rfl:O'=[]:=acM.1 hO0
      have d5:decide ((50:Int)≤0)=false:=rfl
      have hno0:Lj s.cons x G' 0=false:=hno
      (have hb:=trivial;with_reducible repeat' (first|simp only[hb,Vb.down,seval,Ii.down,d1,d2,c1,d4,d5,adF,ajU,h0,h9,h10,h11,hd,hx,hw,hii,hbk,Ab.cells,Ag.cells,e1,e2,e4,e5,a1,a3,a5,hct,hroom,hse,iv,Fo,aaE,abH,abI,hln,hc2,Je,Eh,ab1,Qc]|refine Aj ?_ ?_<;>intro hb|refine fd ?_|fail))
      (refine Aq (kJ _ _ (Ku x G',[]++[x],R,i+1) ⟨?_,?_,?_,?_,⟨true,true,_,_,rv,rfl,by rw[Dv,hqg];rfl,(fun h=>by cases h),(fun h=>by cases h),by rw[Ib];exact hG',by simp;omega,by dsimp only;omega,rfl,Ey.blk (b:=g.length+2) (w:=false) (by simp[Ab.cells]) (by omega) (by simp),hrow.app _,(hrow.sep (by omega)).symm,⟨by simp,hx2⟩⟩⟩ ?_);(simp[up,h0]);(simp[up,h9]);(simp[up,h10]);(simp[up]);(simp[Bc,hbk,hno0,c1]))
     ·have hbl:b<g.length:=(ajV.1 hgb).1
      have hA:=Bv hgb
      have hS:=Nw hbl
      have hi39:(O'.length+1≤549755813888)=True:=eq_true (by omega)
      have hrk:=hrow.kl hown' hsp
      simp only[kl,adN]at hrk
      simp only[aaE]at hroom
      (have hb:=trivial;with_reducible repeat' (first|simp only[hb,Vb.down,seval,Ii.down,d1,d2,c1,d4,hA,hS,dD,Ud,alB,hi39,h0,h9,h10,h11,hd,hx,hw,hii,hbk,Ab.cells,Ag.cells,e1,e2,e4,e5,a1,a3,a5,hct,hroom,hse,iv,Fo,aaE,abH,abI,hln,hc2,Je,Eh,ab1,Qc]|refine Aj ?_ ?_<;>intro hb|refine fd ?_|fail))
      (refine Aq (kJ _ _ (Ku x G',O'++[x],R,i+1) ⟨?_,?_,?_,?_,⟨true,true,_,_,rv,rfl,by rw[Dv,bN hqg b];rfl,(fun h=>by cases h),(fun h=>by cases h),by rw[Ib];exact hG',by simp;omega,by dsimp only;omega,rfl,Ey.blk (b:=g.length+2) (w:=false) (by rw[Ud];simp[Ab.cells]) (by omega) (by simp),hrk.app _,(hrow.sep (by omega)).symm,⟨by simp,hx2⟩⟩⟩ ?_);(simp[up,h0]);(simp[up,h9]);(simp[up,h10]);(simp[up]);(simp[Bc,hbk,hno,c1]))
 ·exact⟨by simp[up,Dn],by simp[up,Dn],by simp[up,Dn],by simp[up],⟨_,_,_,_,_,rfl,rfl,fun _=>rfl,fun _=>⟨rfl,rfl⟩,rfl,by simp,by simp,rfl,.inl ⟨by rw[hO];rfl,rfl⟩,.inl ⟨rfl,rfl⟩,Sep.nils _,⟨fun _=>rfl,fun _=>rfl⟩⟩⟩
 ·obtain⟨rfl,wr,wG,g,ov,rv,rfl,hqg,hwG,hwr,hown,hrow,hsp,⟨hx1,hx2⟩⟩:=hk
  generalize hr0:Bc s.cons hr d.trades 0 (G,O,[])=r at *
  obtain⟨G',O',R⟩:=r
  dsimp only at *
  rcases hown with⟨hO0,rfl⟩|⟨b,wo,rfl,hgb⟩<;>rcases hrow with⟨hR0,rfl⟩|⟨b2,wR,rfl,hgr⟩
  ·(have hb:=trivial;with_reducible repeat' (first|simp only[hb,Vb.down,seval,Ii.down,aaE]|refine Aj ?_ ?_<;>intro hb|refine fd ?_|fail))
   exact⟨wr,wG,false,false,.nils,.nils,[],fun _ _ _ e=>by cases e;exact⟨hwG,(fun h=>by have q:=hwr h;first|(simp;done)|(simp at q ⊢ <;>first|exact q|omega)),rfl,.inl ⟨acM.1 hO0,acM.1 hR0,rfl,rfl,rfl⟩⟩⟩
  ·(have hb:=trivial;with_reducible repeat' (first|simp only[hb,Vb.down,seval,Ii.down,aaE,hgr]|refine Aj ?_ ?_<;>intro hb|refine fd ?_|fail))
   exact⟨wr,wG,false,wR,.nils,.slr 1 3 0 R.length,_,fun _ _ _ e=>by cases e;exact⟨hwG,(fun h=>by have q:=hwr h;first|(simp;done)|(simp at q ⊢ <;>first|exact q|omega)),rfl,.inr (.inr (.inl ⟨acM.1 hO0,fun h=>(by cases hx2 h),rfl,rfl,rfl⟩))⟩⟩
  ·(have hb:=trivial;with_reducible repeat' (first|simp only[hb,Vb.down,seval,Ii.down,aaE,hgb]|refine Aj ?_ ?_<;>intro hb|refine fd ?_|fail))
   exact⟨wr,wG,wo,false,.slr 5 3 0 O'.length,.nils,_,fun _ _ _ e=>by cases e;exact⟨hwG,(fun h=>by have q:=hwr h;first|(simp;done)|(simp at q ⊢ <;>first|exact q|omega)),rfl,.inr (.inl ⟨fun h=>(by cases hx1 h),acM.1 hR0,rfl,rfl,rfl⟩)⟩⟩
  ·have hne:(b=b2)=False:=eq_false fun e=>hsp _ _ _ _ _ _ _ _ rfl rfl (by omega)
   have hne':(b2=b)=False:=eq_false fun e=>hsp _ _ _ _ _ _ _ _ rfl rfl (by omega)
   (have hb:=trivial;with_reducible repeat' (first|simp only[hb,Vb.down,seval,Ii.down,aaE,hgb,hgr,hne,hne']|refine Aj ?_ ?_<;>intro hb|refine fd ?_|fail))
   exact⟨wr,wG,wo,wR,.slr 5 3 0 O'.length,.slr 1 4 0 R.length,_,fun _ _ _ e=>by cases e;exact⟨hwG,(fun h=>by have q:=hwr h;first|(simp;done)|(simp at q ⊢ <;>first|exact q|omega)),rfl,.inr (.inr (.inr ⟨fun h=>(by cases hx1 h),fun h=>(by cases hx2 h),rfl,rfl,rfl⟩))⟩⟩
theorem abG{s:Ac}{d:Ao}{w w1 w2 w3:Bool}{hr own fuel:Int}{G L:List Int}{O:List Ab}(hG:G.length=s.cons.length)(hO:O.length≤1000)(hd50:d.trades.length≤1000)(ho:∀t∈d.trades,t.ok s.cons.length):
 Vo Bo 105 [.ptr 0 0 0] [.live 19 false w [(rc s d hr (.slr 1 1 0 G.length) own fuel (.slr 1 2 0 L.length) (.slr 5 3 0 O.length) .nils .nils .nils .nils)],.live 1 true w1 (G.map iv),.live 1 true w2 (L.map iv),.live 5 true w3 (O.map Ab.cells)]
  fun o h'=>o=.ret (.tup [])∧∃(wr wG wo wR:Bool) (ov rv:AV) (T:Aa),∀G' O' R,Bc s.cons hr d.trades 0 (G,O,[])=(G',O',R)→(wG=false→G'=G)∧(wr=false→ov=.slr 5 3 0 O.length∧rv=.nils)∧h'=[.live 19 false wr [(rc s d hr (.slr 1 1 0 G.length) own fuel (.slr 1 2 0 L.length) ov .nils .nils .nils rv)],.live 1 true wG (G'.map iv),.live 1 true w2 (L.map iv)]++T∧((R=[]∧O'=O∧ov=.slr 5 3 0 O'.length∧rv=.nils∧T=[.live 5 true wo (O'.map Ab.cells)])∨(R≠[]∧O'=O∧ov=.slr 5 3 0 O'.length∧rv=.slr 1 4 0 R.length∧T=[.live 5 true wo (O'.map Ab.cells),.live 1 true wR (R.map iv)])∨(R=[]∧ov=.slr 5 4 0 O'.length∧rv=.nils∧T=[.dead,.live 5 true wo (O'.map Ab.cells)])∨(R≠[]∧ov=.slr 5 4 0 O'.length∧rv=.slr 1 5 0 R.length∧T=[.dead,.live 5 true wo (O'.map Ab.cells),.live 1 true wR (R.map iv)])):=by
 have hl':d.trades.length≤maxLen:=by unfold maxLen;omega
 have hO1:O.length≤1000:=by first|exact hO|(rw[hO];simp)
 refine Nk rfl Tryz.func105 rfl rfl ?_
 simp only[Tryz.f105]
 (have hb:=trivial;with_reducible repeat' (first|simp only[hb,Vb.down,seval,Ii.down,aaE]|refine Aj ?_ ?_<;>intro hb|refine fd ?_|fail))
 refine Dk (Sr 112 d.trades (fun i (zz:List Int × List Ab × List Int × Nat) t h=>t 0=.ptr 0 0 0∧t 9=Bj 5 true d.nt (d.trades.map Ab.cells)∧t 10=.int .i64 d.trades.length∧t 11=.int .i64 i∧(∃wr wG g ov rv,h=.live 19 false wr [(rc s d hr (.slr 1 1 0 G.length) own fuel (.slr 1 2 0 L.length) ov .nils .nils .nils rv)]::.live 1 true wG (zz.1.map iv)::.live 1 true w2 (L.map iv)::g∧Bd g=true∧(wG=false→zz.1=G)∧(wr=false→ov=.slr 5 3 0 O.length∧rv=.nils)∧zz.1.length=G.length∧zz.2.1.length≤O.length+i∧zz.2.2.1.length≤i∧i=zz.2.2.2∧Ey 3 5 true (zz.2.1.map Ab.cells) ov g∧Ey 3 1 true (zz.2.2.1.map iv) rv g∧Sep ov rv∧ov≠.nils∧(zz.2.2.1=[]→rv=.nils)∧P3 O ov zz.2.1 g)) (fun rest zz=>Bc s.cons hr rest zz.2.2.2 (zz.1,zz.2.1,zz.2.2.1)) (fun r e t h=>e=.exit 0∧∃wr wG g ov rv,h=.live 19 false wr [(rc s d hr (.slr 1 1 0 G.length) own fuel (.slr 1 2 0 L.length) ov .nils .nils .nils rv)]::.live 1 true wG (r.1.map iv)::.live 1 true w2 (L.map iv)::g∧Bd g=true∧(wG=false→r.1=G)∧(wr=false→ov=.slr 5 3 0 O.length∧rv=.nils)∧Ey 3 5 true (r.2.1.map Ab.cells) ov g∧Ey 3 1 true (r.2.2.map iv) rv g∧Sep ov rv∧ov≠.nils∧(r.2.2=[]→rv=.nils)∧P3 O ov r.2.1 g) ?_ ?_ (G,O,[],0) _ _ ?_) (fun e t h hk=>?_)
 ·rintro⟨G',O',R,k⟩ t h Q' kQ ⟨h0,h9,h10,h11,⟨wr,wG,g,ov,rv,rfl,hqg,hwG,hwr,hG',hOl,hRl,rfl,hown,hrow,hsp,⟨hx1,hx2,hx3⟩⟩⟩
  try dsimp only at *
  (have hb:=trivial;with_reducible repeat' (first|simp only[hb,Vb.down,seval,Ii.down,h0,h9,h10,h11,acZ,decide_false]|refine Aj ?_ ?_<;>intro hb|refine fd ?_|fail))
  exact kQ _ _ _ ⟨rfl,wr,wG,g,ov,rv,rfl,hqg,hwG,hwr,hown,hrow,hsp,⟨hx1,hx2,hx3⟩⟩
 ·rintro x rest i ⟨G',O',R,k⟩ t h J Q' kJ kQ hx hi ⟨h0,h9,h10,h11,⟨wr,wG,g,ov,rv,rfl,hqg,hwG,hwr,hG',hOl,hRl,rfl,hown,hrow,hsp,⟨hx1,hx2,hx3⟩⟩⟩
  have hd:decide ((i:Int)<(d.trades.length:Int))=true:=decide_eq_true (by omega)
  have hw:=Ak hi hl'
  try dsimp only at *
  obtain⟨⟨f0,f1⟩,k0,k1⟩:=ho x (adP hx)
  have e1:(0≤x.to)=True:=eq_true k0
  have e2:(x.to<(G.length:Int))=True:=eq_true (by omega)
  have e4:(0≤x.frm)=True:=eq_true f0
  have e5:(x.frm<(G.length:Int))=True:=eq_true (by omega)
  have hii:((i:Int)<(d.trades.length:Int))=True:=eq_true (by omega)
  obtain⟨ct,hct⟩:∃c,s.cons[x.to.toNat]?=some c:=⟨_,aiK (by omega)⟩
  have a1:G'[x.to.toNat]?=some (gI G' x.to):=Ht (by omega)
  have a3:G'[x.frm.toNat]?=some (gI G' x.frm):=Ht (by omega)
  have a5:∀v,(sI G' x.frm v)[x.to.toNat]?=some (gI (sI G' x.frm v) x.to):=fun v=>Ht (by rw[Bi];omega)
  have hroom:∀(tl:Aa),Bo.call (.sh 130) [.ptr 0 0 0,.int .i64 x.to] (.live 19 false false [(rc s d hr (.slr 1 1 0 G.length) own fuel (.slr 1 2 0 L.length) ov .nils .nils .nils rv)]::.live 1 true false (G'.map iv)::tl)=
   some (.ret (.int .i64 (IntKind.i64.wrap (ct.space-gI G' x.to))),.live 19 false false [(rc s d hr (.slr 1 1 0 G.length) own fuel (.slr 1 2 0 L.length) ov .nils .nils .nils rv)]::.live 1 true false (G'.map iv)::tl):=fun tl=>
   bI (b:=0) (bg:=1) (n:=G.length) hG' rfl rfl ⟨k0,by omega⟩ hct
  have hse:=fun i l l'=>Ya hqg i l l'
  have hln:=hown.ln Tryz.underlying46
  have hc1:=Ey.cell hown
  have hc2:=Ey.cell hrow
  have hc3:=Ey.acells hown
  have hc4:=Ey.acells hrow
  cases hbk:(x.hour==hr)with
  |false=>
   (have hb:=trivial;with_reducible repeat' (first|simp only[hb,Vb.down,seval,Ii.down,h0,h9,h10,h11,hd,hx,hw,hii,hbk,Ab.cells,aaE,abH]|refine Aj ?_ ?_<;>intro hb|refine fd ?_|fail))
   (refine Aq (kJ _ _ (G',O',R,i+1) ⟨?_,?_,?_,?_,⟨wr,wG,_,ov,rv,rfl,by rw[Dv,hqg];rfl,hwG,hwr,hG',by dsimp only;omega,by dsimp only;omega,rfl,hown.app _,hrow.app _,hsp,⟨hx1,hx2,hx3.app _⟩⟩⟩ ?_);(simp[up,h0]);(simp[up,h9]);(simp[up,h10]);(simp[up]);(simp[Bc,hbk]))
  |true=>
   cases hno:Lj s.cons x G' O'.length with
   |true=>
    have hap1:=fun(q:Aa) (r:List AV)=>qC hrow (pre:=[.live 19 false wr [(rc s d hr (.slr 1 1 0 G.length) own fuel (.slr 1 2 0 L.length) ov .nils .nils .nils rv)],.live 1 true wG (G'.map iv),.live 1 true w2 (L.map iv)]) rfl q r [] (by simp;omega)
    have hhp1:=fun(q:Aa) (r:List (List AV)) (ba:Nat)=>jX hrow (pre:=[.live 19 false wr [(rc s d hr (.slr 1 1 0 G.length) own fuel (.slr 1 2 0 L.length) ov .nils .nils .nils rv)],.live 1 true wG (G'.map iv),.live 1 true w2 (L.map iv)]) rfl q 1 true r ba
    simp only[ai4,ajQ,adA,aaE,ajR,ajS,adF,Eh,Nat.reduceAdd]at hap1 hhp1
    have hno':=hno
    simp only[Lj,Ig,hct,adI,adJ]at hno'
    cases d1:decide (gI G' x.frm<x.amount)with
    |true=>
     (have hb:=trivial;with_reducible repeat' (first|simp only[hb,Vb.down,seval,Ii.down,d1,h0,h9,h10,h11,hd,hx,hw,hii,hbk,Ab.cells,Ag.cells,e1,e2,e4,e5,a1,a3,a5,hct,hroom,hse,iv,Fo,aaE,abH,abI,hln,hc1,hc2,hap1,hhp1,Je,Eh,ab1]|refine Aj ?_ ?_<;>intro hb|refine fd ?_|fail))
     (refine Aq (kJ _ _ (G',O',R++[(i:Int)],i+1) ⟨?_,?_,?_,?_,⟨true,wG,_,ov,_,rfl,by rw[Dv,Qv hqg];rfl,hwG,(fun h=>by cases h),hG',by dsimp only;omega,by simp;omega,rfl,(hown.kl hrow hsp.symm).app _,Ey.blk (b:=g.length+2) (w:=false) (by simp[Je,iv]) (by omega) (by simp),(hown.sep (by omega)),⟨hx1,fun h=>absurd h (by simp),(hx3.kl hrow).app _⟩⟩⟩ ?_);(simp[up,h0]);(simp[up,h9]);(simp[up,h10]);(simp[up]);(simp[Bc,hbk,hno]))
    |false=>
     cases d2:decide (IntKind.i64.wrap (ct.space-gI G' x.to)<x.amount)with
     |true=>
      (have hb:=trivial;with_reducible repeat' (first|simp only[hb,Vb.down,seval,Ii.down,d1,d2,h0,h9,h10,h11,hd,hx,hw,hii,hbk,Ab.cells,Ag.cells,e1,e2,e4,e5,a1,a3,a5,hct,hroom,hse,iv,Fo,aaE,abH,abI,hln,hc1,hc2,hap1,hhp1,Je,Eh,ab1]|refine Aj ?_ ?_<;>intro hb|refine fd ?_|fail))
      (refine Aq (kJ _ _ (G',O',R++[(i:Int)],i+1) ⟨?_,?_,?_,?_,⟨true,wG,_,ov,_,rfl,by rw[Dv,Qv hqg];rfl,hwG,(fun h=>by cases h),hG',by dsimp only;omega,by simp;omega,rfl,(hown.kl hrow hsp.symm).app _,Ey.blk (b:=g.length+2) (w:=false) (by simp[Je,iv]) (by omega) (by simp),(hown.sep (by omega)),⟨hx1,fun h=>absurd h (by simp),(hx3.kl hrow).app _⟩⟩⟩ ?_);(simp[up,h0]);(simp[up,h9]);(simp[up,h10]);(simp[up]);(simp[Bc,hbk,hno]))
     |false=>
      rw[d1,d2]at hno'
      have d3:(x.back== -1)=false:=by simpa using (by simpa using hno':_∧_).1
      have d4:decide ((50:Int)≤(O'.length:Int))=true:=by simpa using (by simpa using hno':_∧_).2
      (have hb:=trivial;with_reducible repeat' (first|simp only[hb,Vb.down,seval,Ii.down,d1,d2,d3,d4,h0,h9,h10,h11,hd,hx,hw,hii,hbk,Ab.cells,Ag.cells,e1,e2,e4,e5,a1,a3,a5,hct,hroom,hse,iv,Fo,aaE,abH,abI,hln,hc1,hc2,hap1,hhp1,Je,Eh,ab1]|refine Aj ?_ ?_<;>intro hb|refine fd ?_|fail))
      (refine Aq (kJ _ _ (G',O',R++[(i:Int)],i+1) ⟨?_,?_,?_,?_,⟨true,wG,_,ov,_,rfl,by rw[Dv,Qv hqg];rfl,hwG,(fun h=>by cases h),hG',by dsimp only;omega,by simp;omega,rfl,(hown.kl hrow hsp.symm).app _,Ey.blk (b:=g.length+2) (w:=false) (by simp[Je,iv]) (by omega) (by simp),(hown.sep (by omega)),⟨hx1,fun h=>absurd h (by simp),(hx3.kl hrow).app _⟩⟩⟩ ?_);(simp[up,h0]);(simp[up,h9]);(simp[up,h10]);(simp[up]);(simp[Bc,hbk,hno]))
   |false=>
    have hno':=hno
    simp only[Lj,Ig,hct,adI,adJ,ajT]at hno'
    obtain⟨⟨d1,d2⟩,d3⟩:=hno'
    cases c1:(x.back== -1)with
    |true=>
     (have hb:=trivial;with_reducible repeat' (first|simp only[hb,Vb.down,seval,Ii.down,d1,d2,c1,h0,h9,h10,h11,hd,hx,hw,hii,hbk,Ab.cells,Ag.cells,e1,e2,e4,e5,a1,a3,a5,hct,hroom,hse,iv,Fo,aaE,abH,abI,hln,hc1,hc2,Je,Eh,ab1,Qc]|refine Aj ?_ ?_<;>intro hb|refine fd ?_|fail))
     (refine Aq (kJ _ _ (Ku x G',O',R,i+1) ⟨?_,?_,?_,?_,⟨wr,true,g++[.live 5 true true [x.cells]],ov,rv,by simp[Ku,Ab.cells],by rw[Dv,hqg];rfl,(fun h=>by cases h),hwr,by rw[Ib];exact hG',by dsimp only;omega,by dsimp only;omega,rfl,hown.app _,hrow.app _,hsp,⟨hx1,hx2,hx3.app _⟩⟩⟩ ?_);(simp[up,h0]);(simp[up,h9]);(simp[up,h10]);(simp[up]);(simp[Bc,hbk,hno,c1]))
    |false=>
     have d4:decide ((50:Int)≤(O'.length:Int))=false:=by rw[c1]at d3;simpa using d3
     have hown':=hown
     rcases hown with⟨hO0,rfl⟩|⟨b,wo,rfl,hgb⟩
     ·obtain rfl:O'=[]:=acM.1 hO0
      have d5:decide ((50:Int)≤0)=false:=rfl
      have hno0:Lj s.cons x G' 0=false:=hno
      (have hb:=trivial;with_reducible repeat' (first|simp only[hb,Vb.down,seval,Ii.down,d1,d2,c1,d4,d5,adF,ajU,h0,h9,h10,h11,hd,hx,hw,hii,hbk,Ab.cells,Ag.cells,e1,e2,e4,e5,a1,a3,a5,hct,hroom,hse,iv,Fo,aaE,abH,abI,hln,hc2,Je,Eh,ab1,Qc]|refine Aj ?_ ?_<;>intro hb|refine fd ?_|fail))
      (refine Aq (kJ _ _ (Ku x G',[]++[x],R,i+1) ⟨?_,?_,?_,?_,⟨true,true,_,_,rv,rfl,by rw[Dv,hqg];rfl,(fun h=>by cases h),(fun h=>by cases h),by rw[Ib];exact hG',by simp;omega,by dsimp only;omega,rfl,Ey.blk (b:=g.length+2) (w:=false) (by simp[Ab.cells]) (by omega) (by simp),hrow.app _,(hrow.sep (by omega)).symm,absurd rfl hx1⟩⟩ ?_);(simp[up,h0]);(simp[up,h9]);(simp[up,h10]);(simp[up]);(simp[Bc,hbk,hno0,c1]))
     ·have hbl:b<g.length:=(ajV.1 hgb).1
      have hA:=Bv hgb
      have hS:=Nw hbl
      have hi39:(O'.length+1≤549755813888)=True:=eq_true (by omega)
      have hrk:=hrow.kl hown' hsp
      simp only[kl,adN]at hrk
      simp only[aaE]at hroom
      (have hb:=trivial;with_reducible repeat' (first|simp only[hb,Vb.down,seval,Ii.down,d1,d2,c1,d4,hA,hS,dD,Ud,alB,hi39,h0,h9,h10,h11,hd,hx,hw,hii,hbk,Ab.cells,Ag.cells,e1,e2,e4,e5,a1,a3,a5,hct,hroom,hse,iv,Fo,aaE,abH,abI,hln,hc2,Je,Eh,ab1,Qc]|refine Aj ?_ ?_<;>intro hb|refine fd ?_|fail))
      (refine Aq (kJ _ _ (Ku x G',O'++[x],R,i+1) ⟨?_,?_,?_,?_,⟨true,true,_,_,rv,rfl,by rw[Dv,bN hqg b];rfl,(fun h=>by cases h),(fun h=>by cases h),by rw[Ib];exact hG',by simp;omega,by dsimp only;omega,rfl,Ey.blk (b:=g.length+2) (w:=false) (by rw[Ud];simp[Ab.cells]) (by omega) (by simp),hrk.app _,(hrow.sep (by omega)).symm,⟨by simp,hx2,(hx3.dead hbl).app _⟩⟩⟩ ?_);(simp[up,h0]);(simp[up,h9]);(simp[up,h10]);(simp[up]);(simp[Bc,hbk,hno,c1]))
 ·exact⟨by simp[up,Dn],by simp[up,Dn],by simp[up,Dn],by simp[up],⟨_,_,_,_,_,rfl,rfl,fun _=>rfl,fun _=>⟨rfl,rfl⟩,rfl,by simp,by simp,rfl,Ey.blk (b:=0) rfl rfl (by simp),.inl ⟨rfl,rfl⟩,Sep.nils _,⟨by simp,fun _=>rfl,.inr ⟨_,rfl,rfl,rfl⟩⟩⟩⟩
 ·obtain⟨rfl,wr,wG,g,ov,rv,rfl,hqg,hwG,hwr,hown,hrow,hsp,⟨hx1,hx2,hx3⟩⟩:=hk
  generalize hr0:Bc s.cons hr d.trades 0 (G,O,[])=r at *
  obtain⟨G',O',R⟩:=r
  dsimp only at *
  rcases hown with⟨hO0,rfl⟩|⟨b,wo,rfl,hgb⟩
  ·exact absurd rfl hx1
  by_cases hb0:b=0
  ·subst hb0
   have hOO:O'=O:=by
    rcases hx3 with h|⟨w',_,_,h⟩
    ·rw[hgb]at h;cases h
    ·exact h
   rcases hrow with⟨hR0,rfl⟩|⟨b2,wR,rfl,hgr⟩
   ·(have hb:=trivial;with_reducible repeat' (first|simp only[hb,Vb.down,seval,Ii.down,aaE,hgb,Nat.zero_add]|refine Aj ?_ ?_<;>intro hb|refine fd ?_|fail))
    exact⟨wr,wG,wo,false,.slr 5 3 0 O'.length,.nils,_,fun _ _ _ e=>by cases e;exact⟨hwG,(fun h=>by have q:=hwr h;first|(simp;done)|(simp at q ⊢ <;>first|exact q|omega)),rfl,.inl ⟨acM.1 hR0,hOO,rfl,rfl,rfl⟩⟩⟩
   ·have hne:(b2=0)=False:=eq_false fun e=>hsp _ _ _ _ _ _ _ _ rfl rfl (by omega)
    (have hb:=trivial;with_reducible repeat' (first|simp only[hb,Vb.down,seval,Ii.down,aaE,hgb,hgr,hne,Nat.zero_add]|refine Aj ?_ ?_<;>intro hb|refine fd ?_|fail))
    exact⟨wr,wG,wo,wR,.slr 5 3 0 O'.length,.slr 1 4 0 R.length,_,fun _ _ _ e=>by cases e;exact⟨hwG,(fun h=>by have q:=hwr h;first|(simp;done)|(simp at q ⊢ <;>first|exact q|omega)),rfl,.inr (.inl ⟨fun h=>(by cases hx2 h),hOO,rfl,rfl,rfl⟩)⟩⟩
  ·have hgd:g[0]?=some .dead:=by
    rcases hx3 with h|⟨w',_,h,_⟩
    ·exact h
    ·simp only[AV.slr.injEq]at h;omega
   have hbf:(b=0)=False:=eq_false hb0
   rcases hrow with⟨hR0,rfl⟩|⟨b2,wR,rfl,hgr⟩
   ·(have hb:=trivial;with_reducible repeat' (first|simp only[hb,Vb.down,seval,Ii.down,aaE,hgb,hgd,hbf]|refine Aj ?_ ?_<;>intro hb|refine fd ?_|fail))
    exact⟨wr,wG,wo,false,.slr 5 4 0 O'.length,.nils,_,fun _ _ _ e=>by cases e;exact⟨hwG,(fun h=>by have q:=hwr h;first|(simp;done)|(simp at q ⊢ <;>first|exact q|omega)),rfl,.inr (.inr (.inl ⟨acM.1 hR0,rfl,rfl,rfl⟩))⟩⟩
   ·have hne:(b=b2)=False:=eq_false fun e=>hsp _ _ _ _ _ _ _ _ rfl rfl (by omega)
    have hne':(b2=b)=False:=eq_false fun e=>hsp _ _ _ _ _ _ _ _ rfl rfl (by omega)
    have hne2:(b2=0)=False:=eq_false fun e=>by subst e;rw[hgd]at hgr;cases hgr
    (have hb:=trivial;with_reducible repeat' (first|simp only[hb,Vb.down,seval,Ii.down,aaE,hgb,hgr,hgd,hbf,hne,hne',hne2]|refine Aj ?_ ?_<;>intro hb|refine fd ?_|fail))
    exact⟨wr,wG,wo,wR,.slr 5 4 0 O'.length,.slr 1 5 0 R.length,_,fun _ _ _ e=>by cases e;exact⟨hwG,(fun h=>by have q:=hwr h;first|(simp;done)|(simp at q ⊢ <;>first|exact q|omega)),rfl,.inr (.inr (.inr ⟨fun h=>(by cases hx2 h),rfl,rfl,rfl⟩))⟩⟩
theorem aaM{s:Ac}{d:Ao}{w w1 w2 w3 w4 w5:Bool}{hr own fuel:Int}{G L W R:List Int}{O:List Ab}{x:Aw}(hW:W.length=s.cons.length)(hl:W.length≤1000)(hne:W≠[])(h0:0≤hr)(hx:d.hours[hr.toNat]?=some x):
 Vo Bo 107 [.ptr 0 0 0] [.live 19 false w [(rc s d hr (.slr 1 1 0 G.length) own fuel (.slr 1 2 0 L.length) .nils (.slr 1 3 0 W.length) .nils .nils .nils)],.live 1 true w1 (G.map iv),.live 1 true w2 (L.map iv),.live 1 true w4 (W.map iv)]
  fun o h'=>o=.ret (.tup [])∧h'=[.live 19 false true [(rc s d hr (.slr 1 1 0 G.length) own fuel (.slr 1 2 0 L.length) .nils (.slr 1 3 0 W.length) (.slr 1 4 0 W.length) .nils .nils)],.live 1 true w1 (G.map iv),.live 1 true w2 (L.map iv),.live 1 true w4 (W.map iv),.live 1 true false ((Gk Fj s.cons W x.inn x.out).map iv)]:=by
 have g1:=iV (nn:=true) (most:=x.inn) (least:=x.out) hW hl hne
 rw[Bg]at g1
 have htk:(W.map iv).take W.length=W.map iv:=acT (by simp)
 have h39:(W.length≤549755813888)=True:=eq_true (by omega)
 have hh:∀tl:Aa,Bo.call (.sh 133) [.ptr 0 0 0] (.live 19 false false [(rc s d hr (.slr 1 1 0 G.length) own fuel (.slr 1 2 0 L.length) .nils (.slr 1 3 0 W.length) .nils .nils .nils)]::tl)=some (.ret (.agg x.cells),.live 19 false false [(rc s d hr (.slr 1 1 0 G.length) own fuel (.slr 1 2 0 L.length) .nils (.slr 1 3 0 W.length) .nils .nils .nils)]::tl++[.live 4 true true [x.cells]]):=fun tl=>Xm (b:=0) rfl h0 hx
 refine Nk rfl Tryz.func107 rfl rfl ?_
 simp only[Tryz.f107]
 (have hb:=trivial;with_reducible repeat' (first|simp only[hb,Vb.down,seval,rW.down,aaE,hh,Aw.cells,g1,htk,h39]|refine Aj ?_ ?_<;>intro hb|refine fd ?_|fail))
theorem aaC{s:Ac}{d:Ao}{w w1 w2 w3 w4 w5:Bool}{hr own fuel:Int}{G L W R:List Int}{O:List Ab}{x:Aw}(hW:W.length=s.cons.length)(hl:W.length≤1000)(hne:W≠[])(h0:0≤hr)(hx:d.hours[hr.toNat]?=some x):
 Vo Bo 107 [.ptr 0 0 0] [.live 19 false w [(rc s d hr (.slr 1 1 0 G.length) own fuel (.slr 1 2 0 L.length) (.slr 5 3 0 O.length) (.slr 1 4 0 W.length) .nils .nils .nils)],.live 1 true w1 (G.map iv),.live 1 true w2 (L.map iv),.live 5 true w3 (O.map Ab.cells),.live 1 true w4 (W.map iv)]
  fun o h'=>o=.ret (.tup [])∧h'=[.live 19 false true [(rc s d hr (.slr 1 1 0 G.length) own fuel (.slr 1 2 0 L.length) (.slr 5 3 0 O.length) (.slr 1 4 0 W.length) (.slr 1 5 0 W.length) .nils .nils)],.live 1 true w1 (G.map iv),.live 1 true w2 (L.map iv),.live 5 true w3 (O.map Ab.cells),.live 1 true w4 (W.map iv),.live 1 true false ((Gk Fj s.cons W x.inn x.out).map iv)]:=by
 have g1:=iV (nn:=true) (most:=x.inn) (least:=x.out) hW hl hne
 rw[Bg]at g1
 have htk:(W.map iv).take W.length=W.map iv:=acT (by simp)
 have h39:(W.length≤549755813888)=True:=eq_true (by omega)
 have hh:∀tl:Aa,Bo.call (.sh 133) [.ptr 0 0 0] (.live 19 false false [(rc s d hr (.slr 1 1 0 G.length) own fuel (.slr 1 2 0 L.length) (.slr 5 3 0 O.length) (.slr 1 4 0 W.length) .nils .nils .nils)]::tl)=some (.ret (.agg x.cells),.live 19 false false [(rc s d hr (.slr 1 1 0 G.length) own fuel (.slr 1 2 0 L.length) (.slr 5 3 0 O.length) (.slr 1 4 0 W.length) .nils .nils .nils)]::tl++[.live 4 true true [x.cells]]):=fun tl=>Xm (b:=0) rfl h0 hx
 refine Nk rfl Tryz.func107 rfl rfl ?_
 simp only[Tryz.f107]
 (have hb:=trivial;with_reducible repeat' (first|simp only[hb,Vb.down,seval,rW.down,aaE,hh,Aw.cells,g1,htk,h39]|refine Aj ?_ ?_<;>intro hb|refine fd ?_|fail))
theorem abZ{s:Ac}{d:Ao}{w w1 w2 w3 w4 w5:Bool}{hr own fuel:Int}{G L W R:List Int}{O:List Ab}{x:Aw}(hW:W.length=s.cons.length)(hl:W.length≤1000)(hne:W≠[])(h0:0≤hr)(hx:d.hours[hr.toNat]?=some x):
 Vo Bo 107 [.ptr 0 0 0] [.live 19 false w [(rc s d hr (.slr 1 1 0 G.length) own fuel (.slr 1 2 0 L.length) .nils (.slr 1 3 0 W.length) .nils .nils (.slr 1 4 0 R.length))],.live 1 true w1 (G.map iv),.live 1 true w2 (L.map iv),.live 1 true w4 (W.map iv),.live 1 true w5 (R.map iv)]
  fun o h'=>o=.ret (.tup [])∧h'=[.live 19 false true [(rc s d hr (.slr 1 1 0 G.length) own fuel (.slr 1 2 0 L.length) .nils (.slr 1 3 0 W.length) (.slr 1 5 0 W.length) .nils (.slr 1 4 0 R.length))],.live 1 true w1 (G.map iv),.live 1 true w2 (L.map iv),.live 1 true w4 (W.map iv),.live 1 true w5 (R.map iv),.live 1 true false ((Gk Fj s.cons W x.inn x.out).map iv)]:=by
 have g1:=iV (nn:=true) (most:=x.inn) (least:=x.out) hW hl hne
 rw[Bg]at g1
 have htk:(W.map iv).take W.length=W.map iv:=acT (by simp)
 have h39:(W.length≤549755813888)=True:=eq_true (by omega)
 have hh:∀tl:Aa,Bo.call (.sh 133) [.ptr 0 0 0] (.live 19 false false [(rc s d hr (.slr 1 1 0 G.length) own fuel (.slr 1 2 0 L.length) .nils (.slr 1 3 0 W.length) .nils .nils (.slr 1 4 0 R.length))]::tl)=some (.ret (.agg x.cells),.live 19 false false [(rc s d hr (.slr 1 1 0 G.length) own fuel (.slr 1 2 0 L.length) .nils (.slr 1 3 0 W.length) .nils .nils (.slr 1 4 0 R.length))]::tl++[.live 4 true true [x.cells]]):=fun tl=>Xm (b:=0) rfl h0 hx
 refine Nk rfl Tryz.func107 rfl rfl ?_
 simp only[Tryz.f107]
 (have hb:=trivial;with_reducible repeat' (first|simp only[hb,Vb.down,seval,rW.down,aaE,hh,Aw.cells,g1,htk,h39]|refine Aj ?_ ?_<;>intro hb|refine fd ?_|fail))
theorem aaU{s:Ac}{d:Ao}{w w1 w2 w3 w4 w5:Bool}{hr own fuel:Int}{G L W R:List Int}{O:List Ab}{x:Aw}(hW:W.length=s.cons.length)(hl:W.length≤1000)(hne:W≠[])(h0:0≤hr)(hx:d.hours[hr.toNat]?=some x):
 Vo Bo 107 [.ptr 0 0 0] [.live 19 false w [(rc s d hr (.slr 1 1 0 G.length) own fuel (.slr 1 2 0 L.length) (.slr 5 3 0 O.length) (.slr 1 4 0 W.length) .nils .nils (.slr 1 5 0 R.length))],.live 1 true w1 (G.map iv),.live 1 true w2 (L.map iv),.live 5 true w3 (O.map Ab.cells),.live 1 true w4 (W.map iv),.live 1 true w5 (R.map iv)]
  fun o h'=>o=.ret (.tup [])∧h'=[.live 19 false true [(rc s d hr (.slr 1 1 0 G.length) own fuel (.slr 1 2 0 L.length) (.slr 5 3 0 O.length) (.slr 1 4 0 W.length) (.slr 1 6 0 W.length) .nils (.slr 1 5 0 R.length))],.live 1 true w1 (G.map iv),.live 1 true w2 (L.map iv),.live 5 true w3 (O.map Ab.cells),.live 1 true w4 (W.map iv),.live 1 true w5 (R.map iv),.live 1 true false ((Gk Fj s.cons W x.inn x.out).map iv)]:=by
 have g1:=iV (nn:=true) (most:=x.inn) (least:=x.out) hW hl hne
 rw[Bg]at g1
 have htk:(W.map iv).take W.length=W.map iv:=acT (by simp)
 have h39:(W.length≤549755813888)=True:=eq_true (by omega)
 have hh:∀tl:Aa,Bo.call (.sh 133) [.ptr 0 0 0] (.live 19 false false [(rc s d hr (.slr 1 1 0 G.length) own fuel (.slr 1 2 0 L.length) (.slr 5 3 0 O.length) (.slr 1 4 0 W.length) .nils .nils (.slr 1 5 0 R.length))]::tl)=some (.ret (.agg x.cells),.live 19 false false [(rc s d hr (.slr 1 1 0 G.length) own fuel (.slr 1 2 0 L.length) (.slr 5 3 0 O.length) (.slr 1 4 0 W.length) .nils .nils (.slr 1 5 0 R.length))]::tl++[.live 4 true true [x.cells]]):=fun tl=>Xm (b:=0) rfl h0 hx
 refine Nk rfl Tryz.func107 rfl rfl ?_
 simp only[Tryz.f107]
 (have hb:=trivial;with_reducible repeat' (first|simp only[hb,Vb.down,seval,rW.down,aaE,hh,Aw.cells,g1,htk,h39]|refine Aj ?_ ?_<;>intro hb|refine fd ?_|fail))
theorem Ob(x:Int):Bo.call (.fn 134) [.int .i64 x] []=some (.ret (.int .i64 x),[]):=by
 (refine ce Tryz.func134 ?_;simp only[Tryz.f134];(have hb:=trivial;with_reducible repeat' (first|simp only[hb,Vb.down,seval]|refine Aj ?_ ?_<;>intro hb|refine fd ?_|fail)))
def Ih(A:List Int)(x:Aw):Int:=min2 x.flowIn (Ax (A.map Cm) 0)
def Jo(A:List Int)(x:Aw):Int:=min2 x.flowOut (Ax (A.map Dt) 0)
def Bq(a:Int)(l:List Int):List Int:=Dl a (Ax l 0) l 0 0
def Ym(A:List Int)(x:Aw):List Int:=List.zipWith Xv (Bq (Ih A x) (A.map Cm)) (Bq (Jo A x) (A.map Dt))
def cD(A:List Int)(x:Aw)(own:Int):Int:=IntKind.i64.wrap (own+IntKind.i64.wrap (IntKind.i64.wrap (x.flowIn-Ih A x)-IntKind.i64.wrap (x.flowOut-Jo A x)))
theorem Dy(a w:Int):∀(l:List Int) (so got:Int),(Dl a w l so got).length=l.length
 | [],_,_=>rfl
 |x::l,so,got=>by unfold Dl;simp[Dy a w l]
theorem aeK{s:Ac}{d:Ao}{w w1 w2 w3 w4 w5 w6:Bool}{hr own fuel:Int}{G L W A R:List Int}{O:List Ab}{x:Aw}(hl:A.length≤1000)(hne:A≠[])(h0:0≤hr)(hx:d.hours[hr.toNat]?=some x):
 Vo Bo 108 [.ptr 0 0 0] [.live 19 false w [(rc s d hr (.slr 1 1 0 G.length) own fuel (.slr 1 2 0 L.length) .nils (.slr 1 3 0 W.length) (.slr 1 4 0 A.length) .nils .nils)],.live 1 true w1 (G.map iv),.live 1 true w2 (L.map iv),.live 1 true w4 (W.map iv),.live 1 true w6 (A.map iv)]
  fun o h'=>o=.ret (.tup [])∧h'=[.live 19 false true [(rc s d hr (.slr 1 1 0 G.length) ((cD A x own)) fuel (.slr 1 2 0 L.length) .nils (.slr 1 3 0 W.length) (.slr 1 4 0 A.length) (.slr 1 5 0 A.length) .nils)],.live 1 true w1 (G.map iv),.live 1 true w2 (L.map iv),.live 1 true w4 (W.map iv),.live 1 true w6 (A.map iv),.live 1 true false ((Ym A x).map iv)]:=by
 have g1:=cY (l:=A) (nn:=true) hl hne
 rw[Bg]at g1
 have g2:=Yl (l:=A.map Cm) (nn:=true) (by simp[maxLen];omega)
 have g3:=Yl (l:=A.map Dt) (nn:=true) (by simp[maxLen];omega)
 rw[Bg]at g2 g3
 have m1:∀l:List Int,l.map (fun x=>x)=l:=fun l=>by simp
 have g4:=Oe (amount:=Ih A x) (l:=A.map Cm) (nn:=true) (g:=134) (w:=fun x=>x) (fun x _=>Ob x) (by simpa using hl)
 have g5:=Oe (amount:=Jo A x) (l:=A.map Dt) (nn:=true) (g:=134) (w:=fun x=>x) (fun x _=>Ob x) (by simpa using hl)
 rw[m1,Bg,aaE,adA]at g4 g5
 have k2:(Bq (Ih A x) (A.map Cm)).length=A.length:=by unfold Bq;rw[Dy];simp
 have k3:(Bq (Jo A x) (A.map Dt)).length=A.length:=by unfold Bq;rw[Dy];simp
 have k1:Bq (Ih A x) (A.map Cm)≠[]:=fun e=>hne (adK.1 (by rw[←k2,e];rfl))
 have g6:=Oj (Bq (Ih A x) (A.map Cm)) (Bq (Jo A x) (A.map Dt)) true true (by omega) (by omega) _ _ (fun e=>(k1 e).elim) (fun _=>rfl)
 rw[Bg,Bg,k2]at g6
 have htk:∀l:List Int,l.length=A.length→(l.map iv).take A.length=l.map iv:=fun l h=>acT (by simp[h])
 have t1:=htk A rfl
 have t2:=htk (A.map Cm) (by simp)
 have t3:=htk (A.map Dt) (by simp)
 have t4:=htk _ k2
 have t5:=htk _ k3
 unfold Bq at t4 t5 g6 k2 k3
 have h39:(A.length≤549755813888)=True:=eq_true (by omega)
 have hh:∀tl:Aa,Bo.call (.sh 133) [.ptr 0 0 0] (.live 19 false false [(rc s d hr (.slr 1 1 0 G.length) own fuel (.slr 1 2 0 L.length) .nils (.slr 1 3 0 W.length) (.slr 1 4 0 A.length) .nils .nils)]::tl)=some (.ret (.agg x.cells),.live 19 false false [(rc s d hr (.slr 1 1 0 G.length) own fuel (.slr 1 2 0 L.length) .nils (.slr 1 3 0 W.length) (.slr 1 4 0 A.length) .nils .nils)]::tl++[.live 4 true true [x.cells]]):=fun tl=>Xm (b:=0) rfl h0 hx
 have q1:(if Ax (A.map Cm) 0<x.flowIn then Ax (A.map Cm) 0 else x.flowIn)=Ih A x:=by unfold Ih min2;split<;>(first|rfl|(split<;>omega)|omega)
 have q2:(if Ax (A.map Dt) 0<x.flowOut then Ax (A.map Dt) 0 else x.flowOut)=Jo A x:=by unfold Jo min2;split<;>(first|rfl|(split<;>omega)|omega)
 refine Nk rfl Tryz.func108 rfl rfl ?_
 simp only[Tryz.f108]
 (have hb:=trivial;with_reducible repeat' (first|simp only[hb,Vb.down,seval,uS.down,aaE,hh,Aw.cells,g1,g2,g3,q1,q2,g4,g5,g6,k2,k3,t1,t2,t3,t4,t5,h39]|refine Aj ?_ ?_<;>intro hb|refine fd ?_|fail))
 rfl
theorem aeA{s:Ac}{d:Ao}{w w1 w2 w3 w4 w5 w6:Bool}{hr own fuel:Int}{G L W A R:List Int}{O:List Ab}{x:Aw}(hl:A.length≤1000)(hne:A≠[])(h0:0≤hr)(hx:d.hours[hr.toNat]?=some x):
 Vo Bo 108 [.ptr 0 0 0] [.live 19 false w [(rc s d hr (.slr 1 1 0 G.length) own fuel (.slr 1 2 0 L.length) (.slr 5 3 0 O.length) (.slr 1 4 0 W.length) (.slr 1 5 0 A.length) .nils .nils)],.live 1 true w1 (G.map iv),.live 1 true w2 (L.map iv),.live 5 true w3 (O.map Ab.cells),.live 1 true w4 (W.map iv),.live 1 true w6 (A.map iv)]
  fun o h'=>o=.ret (.tup [])∧h'=[.live 19 false true [(rc s d hr (.slr 1 1 0 G.length) ((cD A x own)) fuel (.slr 1 2 0 L.length) (.slr 5 3 0 O.length) (.slr 1 4 0 W.length) (.slr 1 5 0 A.length) (.slr 1 6 0 A.length) .nils)],.live 1 true w1 (G.map iv),.live 1 true w2 (L.map iv),.live 5 true w3 (O.map Ab.cells),.live 1 true w4 (W.map iv),.live 1 true w6 (A.map iv),.live 1 true false ((Ym A x).map iv)]:=by
 have g1:=cY (l:=A) (nn:=true) hl hne
 rw[Bg]at g1
 have g2:=Yl (l:=A.map Cm) (nn:=true) (by simp[maxLen];omega)
 have g3:=Yl (l:=A.map Dt) (nn:=true) (by simp[maxLen];omega)
 rw[Bg]at g2 g3
 have m1:∀l:List Int,l.map (fun x=>x)=l:=fun l=>by simp
 have g4:=Oe (amount:=Ih A x) (l:=A.map Cm) (nn:=true) (g:=134) (w:=fun x=>x) (fun x _=>Ob x) (by simpa using hl)
 have g5:=Oe (amount:=Jo A x) (l:=A.map Dt) (nn:=true) (g:=134) (w:=fun x=>x) (fun x _=>Ob x) (by simpa using hl)
 rw[m1,Bg,aaE,adA]at g4 g5
 have k2:(Bq (Ih A x) (A.map Cm)).length=A.length:=by unfold Bq;rw[Dy];simp
 have k3:(Bq (Jo A x) (A.map Dt)).length=A.length:=by unfold Bq;rw[Dy];simp
 have k1:Bq (Ih A x) (A.map Cm)≠[]:=fun e=>hne (adK.1 (by rw[←k2,e];rfl))
 have g6:=Oj (Bq (Ih A x) (A.map Cm)) (Bq (Jo A x) (A.map Dt)) true true (by omega) (by omega) _ _ (fun e=>(k1 e).elim) (fun _=>rfl)
 rw[Bg,Bg,k2]at g6
 have htk:∀l:List Int,l.length=A.length→(l.map iv).take A.length=l.map iv:=fun l h=>acT (by simp[h])
 have t1:=htk A rfl
 have t2:=htk (A.map Cm) (by simp)
 have t3:=htk (A.map Dt) (by simp)
 have t4:=htk _ k2
 have t5:=htk _ k3
 unfold Bq at t4 t5 g6 k2 k3
 have h39:(A.length≤549755813888)=True:=eq_true (by omega)
 have hh:∀tl:Aa,Bo.call (.sh 133) [.ptr 0 0 0] (.live 19 false false [(rc s d hr (.slr 1 1 0 G.length) own fuel (.slr 1 2 0 L.length) (.slr 5 3 0 O.length) (.slr 1 4 0 W.length) (.slr 1 5 0 A.length) .nils .nils)]::tl)=some (.ret (.agg x.cells),.live 19 false false [(rc s d hr (.slr 1 1 0 G.length) own fuel (.slr 1 2 0 L.length) (.slr 5 3 0 O.length) (.slr 1 4 0 W.length) (.slr 1 5 0 A.length) .nils .nils)]::tl++[.live 4 true true [x.cells]]):=fun tl=>Xm (b:=0) rfl h0 hx
 have q1:(if Ax (A.map Cm) 0<x.flowIn then Ax (A.map Cm) 0 else x.flowIn)=Ih A x:=by unfold Ih min2;split<;>(first|rfl|(split<;>omega)|omega)
 have q2:(if Ax (A.map Dt) 0<x.flowOut then Ax (A.map Dt) 0 else x.flowOut)=Jo A x:=by unfold Jo min2;split<;>(first|rfl|(split<;>omega)|omega)
 refine Nk rfl Tryz.func108 rfl rfl ?_
 simp only[Tryz.f108]
 (have hb:=trivial;with_reducible repeat' (first|simp only[hb,Vb.down,seval,uS.down,aaE,hh,Aw.cells,g1,g2,g3,q1,q2,g4,g5,g6,k2,k3,t1,t2,t3,t4,t5,h39]|refine Aj ?_ ?_<;>intro hb|refine fd ?_|fail))
 rfl
theorem agE{s:Ac}{d:Ao}{w w1 w2 w3 w4 w5 w6:Bool}{hr own fuel:Int}{G L W A R:List Int}{O:List Ab}{x:Aw}(hl:A.length≤1000)(hne:A≠[])(h0:0≤hr)(hx:d.hours[hr.toNat]?=some x):
 Vo Bo 108 [.ptr 0 0 0] [.live 19 false w [(rc s d hr (.slr 1 1 0 G.length) own fuel (.slr 1 2 0 L.length) .nils (.slr 1 3 0 W.length) (.slr 1 4 0 A.length) .nils (.slr 1 5 0 R.length))],.live 1 true w1 (G.map iv),.live 1 true w2 (L.map iv),.live 1 true w4 (W.map iv),.live 1 true w6 (A.map iv),.live 1 true w5 (R.map iv)]
  fun o h'=>o=.ret (.tup [])∧h'=[.live 19 false true [(rc s d hr (.slr 1 1 0 G.length) ((cD A x own)) fuel (.slr 1 2 0 L.length) .nils (.slr 1 3 0 W.length) (.slr 1 4 0 A.length) (.slr 1 6 0 A.length) (.slr 1 5 0 R.length))],.live 1 true w1 (G.map iv),.live 1 true w2 (L.map iv),.live 1 true w4 (W.map iv),.live 1 true w6 (A.map iv),.live 1 true w5 (R.map iv),.live 1 true false ((Ym A x).map iv)]:=by
 have g1:=cY (l:=A) (nn:=true) hl hne
 rw[Bg]at g1
 have g2:=Yl (l:=A.map Cm) (nn:=true) (by simp[maxLen];omega)
 have g3:=Yl (l:=A.map Dt) (nn:=true) (by simp[maxLen];omega)
 rw[Bg]at g2 g3
 have m1:∀l:List Int,l.map (fun x=>x)=l:=fun l=>by simp
 have g4:=Oe (amount:=Ih A x) (l:=A.map Cm) (nn:=true) (g:=134) (w:=fun x=>x) (fun x _=>Ob x) (by simpa using hl)
 have g5:=Oe (amount:=Jo A x) (l:=A.map Dt) (nn:=true) (g:=134) (w:=fun x=>x) (fun x _=>Ob x) (by simpa using hl)
 rw[m1,Bg,aaE,adA]at g4 g5
 have k2:(Bq (Ih A x) (A.map Cm)).length=A.length:=by unfold Bq;rw[Dy];simp
 have k3:(Bq (Jo A x) (A.map Dt)).length=A.length:=by unfold Bq;rw[Dy];simp
 have k1:Bq (Ih A x) (A.map Cm)≠[]:=fun e=>hne (adK.1 (by rw[←k2,e];rfl))
 have g6:=Oj (Bq (Ih A x) (A.map Cm)) (Bq (Jo A x) (A.map Dt)) true true (by omega) (by omega) _ _ (fun e=>(k1 e).elim) (fun _=>rfl)
 rw[Bg,Bg,k2]at g6
 have htk:∀l:List Int,l.length=A.length→(l.map iv).take A.length=l.map iv:=fun l h=>acT (by simp[h])
 have t1:=htk A rfl
 have t2:=htk (A.map Cm) (by simp)
 have t3:=htk (A.map Dt) (by simp)
 have t4:=htk _ k2
 have t5:=htk _ k3
 unfold Bq at t4 t5 g6 k2 k3
 have h39:(A.length≤549755813888)=True:=eq_true (by omega)
 have hh:∀tl:Aa,Bo.call (.sh 133) [.ptr 0 0 0] (.live 19 false false [(rc s d hr (.slr 1 1 0 G.length) own fuel (.slr 1 2 0 L.length) .nils (.slr 1 3 0 W.length) (.slr 1 4 0 A.length) .nils (.slr 1 5 0 R.length))]::tl)=some (.ret (.agg x.cells),.live 19 false false [(rc s d hr (.slr 1 1 0 G.length) own fuel (.slr 1 2 0 L.length) .nils (.slr 1 3 0 W.length) (.slr 1 4 0 A.length) .nils (.slr 1 5 0 R.length))]::tl++[.live 4 true true [x.cells]]):=fun tl=>Xm (b:=0) rfl h0 hx
 have q1:(if Ax (A.map Cm) 0<x.flowIn then Ax (A.map Cm) 0 else x.flowIn)=Ih A x:=by unfold Ih min2;split<;>(first|rfl|(split<;>omega)|omega)
 have q2:(if Ax (A.map Dt) 0<x.flowOut then Ax (A.map Dt) 0 else x.flowOut)=Jo A x:=by unfold Jo min2;split<;>(first|rfl|(split<;>omega)|omega)
 refine Nk rfl Tryz.func108 rfl rfl ?_
 simp only[Tryz.f108]
 (have hb:=trivial;with_reducible repeat' (first|simp only[hb,Vb.down,seval,uS.down,aaE,hh,Aw.cells,g1,g2,g3,q1,q2,g4,g5,g6,k2,k3,t1,t2,t3,t4,t5,h39]|refine Aj ?_ ?_<;>intro hb|refine fd ?_|fail))
 rfl
theorem aiF{s:Ac}{d:Ao}{w w1 w2 w3 w4 w5 w6:Bool}{hr own fuel:Int}{G L W A R:List Int}{O:List Ab}{x:Aw}(hl:A.length≤1000)(hne:A≠[])(h0:0≤hr)(hx:d.hours[hr.toNat]?=some x):
 Vo Bo 108 [.ptr 0 0 0] [.live 19 false w [(rc s d hr (.slr 1 1 0 G.length) own fuel (.slr 1 2 0 L.length) (.slr 5 3 0 O.length) (.slr 1 4 0 W.length) (.slr 1 5 0 A.length) .nils (.slr 1 6 0 R.length))],.live 1 true w1 (G.map iv),.live 1 true w2 (L.map iv),.live 5 true w3 (O.map Ab.cells),.live 1 true w4 (W.map iv),.live 1 true w6 (A.map iv),.live 1 true w5 (R.map iv)]
  fun o h'=>o=.ret (.tup [])∧h'=[.live 19 false true [(rc s d hr (.slr 1 1 0 G.length) ((cD A x own)) fuel (.slr 1 2 0 L.length) (.slr 5 3 0 O.length) (.slr 1 4 0 W.length) (.slr 1 5 0 A.length) (.slr 1 7 0 A.length) (.slr 1 6 0 R.length))],.live 1 true w1 (G.map iv),.live 1 true w2 (L.map iv),.live 5 true w3 (O.map Ab.cells),.live 1 true w4 (W.map iv),.live 1 true w6 (A.map iv),.live 1 true w5 (R.map iv),.live 1 true false ((Ym A x).map iv)]:=by
 have g1:=cY (l:=A) (nn:=true) hl hne
 rw[Bg]at g1
 have g2:=Yl (l:=A.map Cm) (nn:=true) (by simp[maxLen];omega)
 have g3:=Yl (l:=A.map Dt) (nn:=true) (by simp[maxLen];omega)
 rw[Bg]at g2 g3
 have m1:∀l:List Int,l.map (fun x=>x)=l:=fun l=>by simp
 have g4:=Oe (amount:=Ih A x) (l:=A.map Cm) (nn:=true) (g:=134) (w:=fun x=>x) (fun x _=>Ob x) (by simpa using hl)
 have g5:=Oe (amount:=Jo A x) (l:=A.map Dt) (nn:=true) (g:=134) (w:=fun x=>x) (fun x _=>Ob x) (by simpa using hl)
 rw[m1,Bg,aaE,adA]at g4 g5
 have k2:(Bq (Ih A x) (A.map Cm)).length=A.length:=by unfold Bq;rw[Dy];simp
 have k3:(Bq (Jo A x) (A.map Dt)).length=A.length:=by unfold Bq;rw[Dy];simp
 have k1:Bq (Ih A x) (A.map Cm)≠[]:=fun e=>hne (adK.1 (by rw[←k2,e];rfl))
 have g6:=Oj (Bq (Ih A x) (A.map Cm)) (Bq (Jo A x) (A.map Dt)) true true (by omega) (by omega) _ _ (fun e=>(k1 e).elim) (fun _=>rfl)
 rw[Bg,Bg,k2]at g6
 have htk:∀l:List Int,l.length=A.length→(l.map iv).take A.length=l.map iv:=fun l h=>acT (by simp[h])
 have t1:=htk A rfl
 have t2:=htk (A.map Cm) (by simp)
 have t3:=htk (A.map Dt) (by simp)
 have t4:=htk _ k2
 have t5:=htk _ k3
 unfold Bq at t4 t5 g6 k2 k3
 have h39:(A.length≤549755813888)=True:=eq_true (by omega)
 have hh:∀tl:Aa,Bo.call (.sh 133) [.ptr 0 0 0] (.live 19 false false [(rc s d hr (.slr 1 1 0 G.length) own fuel (.slr 1 2 0 L.length) (.slr 5 3 0 O.length) (.slr 1 4 0 W.length) (.slr 1 5 0 A.length) .nils (.slr 1 6 0 R.length))]::tl)=some (.ret (.agg x.cells),.live 19 false false [(rc s d hr (.slr 1 1 0 G.length) own fuel (.slr 1 2 0 L.length) (.slr 5 3 0 O.length) (.slr 1 4 0 W.length) (.slr 1 5 0 A.length) .nils (.slr 1 6 0 R.length))]::tl++[.live 4 true true [x.cells]]):=fun tl=>Xm (b:=0) rfl h0 hx
 have q1:(if Ax (A.map Cm) 0<x.flowIn then Ax (A.map Cm) 0 else x.flowIn)=Ih A x:=by unfold Ih min2;split<;>(first|rfl|(split<;>omega)|omega)
 have q2:(if Ax (A.map Dt) 0<x.flowOut then Ax (A.map Dt) 0 else x.flowOut)=Jo A x:=by unfold Jo min2;split<;>(first|rfl|(split<;>omega)|omega)
 refine Nk rfl Tryz.func108 rfl rfl ?_
 simp only[Tryz.f108]
 (have hb:=trivial;with_reducible repeat' (first|simp only[hb,Vb.down,seval,uS.down,aaE,hh,Aw.cells,g1,g2,g3,q1,q2,g4,g5,g6,k2,k3,t1,t2,t3,t4,t5,h39]|refine Aj ?_ ?_<;>intro hb|refine fd ?_|fail))
 rfl
def pN(n:Int):Int:=if 0<n then n else 0
def Kt(f n:Int):Int:=IntKind.i64.wrap ((IntKind.i64.wrap (pN n*f)).tdiv 1000)
def Gs(f:Int):List Int→Nat→List Int × Int→List Int × Int
 | [],_,a=>a
 |n::rest,i,(G,fu)=>Gs f rest (i+1) (sI G i (IntKind.i64.wrap (gI G i+IntKind.i64.wrap (n-Kt f n))),IntKind.i64.wrap (fu+Kt f n))
theorem ap2{s:Ac}{d:Ao}{w w1 w2 w3 w4 w5 w6 w7:Bool}{hr own fuel:Int}{G L W A F R:List Int}{O:List Ab}(hFG:F.length=G.length)(hl:F.length≤1000):
 Vo Bo 109 [.ptr 0 0 0] [.live 19 false w [(rc s d hr (.slr 1 1 0 G.length) own fuel (.slr 1 2 0 L.length) .nils (.slr 1 3 0 W.length) (.slr 1 4 0 A.length) (.slr 1 5 0 F.length) .nils)],.live 1 true w1 (G.map iv),.live 1 true w2 (L.map iv),.live 1 true w4 (W.map iv),.live 1 true w6 (A.map iv),.live 1 true w7 (F.map iv)]
  fun o h'=>o=.ret (.tup [])∧∃wr wG,(wG=false→(Gs s.fuel F 0 (G,fuel)).1=G)∧(wr=false→(Gs s.fuel F 0 (G,fuel)).2=fuel)∧h'=[.live 19 false wr [(rc s d hr (.slr 1 1 0 G.length) own ((Gs s.fuel F 0 (G,fuel)).2) (.slr 1 2 0 L.length) .nils (.slr 1 3 0 W.length) (.slr 1 4 0 A.length) (.slr 1 5 0 F.length) .nils)],.live 1 true wG ((Gs s.fuel F 0 (G,fuel)).1.map iv),.live 1 true w2 (L.map iv),.live 1 true w4 (W.map iv),.live 1 true w6 (A.map iv),.live 1 true w7 (F.map iv)]:=by
 have hl':F.length≤maxLen:=by unfold maxLen;omega
 refine Nk rfl Tryz.func109 rfl rfl ?_
 simp only[Tryz.f109]
 (have hb:=trivial;with_reducible repeat' (first|simp only[hb,Vb.down,seval,Qb.down,aaE]|refine Aj ?_ ?_<;>intro hb|refine fd ?_|fail))
 refine Dk (Sr 49 F (fun i (zz:List Int × Int × Nat) t h=>t 0=.ptr 0 0 0∧t 9=.slr 1 5 0 F.length∧t 10=.int .i64 F.length∧t 11=.int .i64 i∧(∃wr wG,h=[.live 19 false wr [(rc s d hr (.slr 1 1 0 G.length) own zz.2.1 (.slr 1 2 0 L.length) .nils (.slr 1 3 0 W.length) (.slr 1 4 0 A.length) (.slr 1 5 0 F.length) .nils)],.live 1 true wG (zz.1.map iv),.live 1 true w2 (L.map iv),.live 1 true w4 (W.map iv),.live 1 true w6 (A.map iv),.live 1 true w7 (F.map iv)]∧(wG=false→zz.1=G)∧(wr=false→zz.2.1=fuel)∧zz.1.length=G.length∧i=zz.2.2)) (fun rest zz=>Gs s.fuel rest zz.2.2 (zz.1,zz.2.1)) (fun r e t h=>e=.exit 0∧∃wr wG,h=[.live 19 false wr [(rc s d hr (.slr 1 1 0 G.length) own r.2 (.slr 1 2 0 L.length) .nils (.slr 1 3 0 W.length) (.slr 1 4 0 A.length) (.slr 1 5 0 F.length) .nils)],.live 1 true wG (r.1.map iv),.live 1 true w2 (L.map iv),.live 1 true w4 (W.map iv),.live 1 true w6 (A.map iv),.live 1 true w7 (F.map iv)]∧(wG=false→r.1=G)∧(wr=false→r.2=fuel)) ?_ ?_ (G,fuel,0) _ _ ?_) (fun e t h hk=>?_)
 ·rintro⟨G',fu,k⟩ t h Q' kQ ⟨h0,h9,h10,h11,⟨wr,wG,rfl,hwG,hwr,hG',rfl⟩⟩
  try dsimp only at *
  (have hb:=trivial;with_reducible repeat' (first|simp only[hb,Vb.down,seval,Qb.down,h0,h9,h10,h11,acZ,decide_false]|refine Aj ?_ ?_<;>intro hb|refine fd ?_|fail))
  exact kQ _ _ _ ⟨rfl,wr,wG,rfl,hwG,hwr⟩
 ·rintro x rest i ⟨G',fu,k⟩ t h J Q' kJ kQ hx hi ⟨h0,h9,h10,h11,⟨wr,wG,rfl,hwG,hwr,hG',rfl⟩⟩
  have hd:decide ((i:Int)<(F.length:Int))=true:=decide_eq_true (by omega)
  have hw:=Ak hi hl'
  try dsimp only at *
  have hii:((i:Int)<(F.length:Int))=True:=eq_true (by omega)
  have hig:((i:Int)<(G.length:Int))=True:=eq_true (by omega)
  have a1:G'[i]?=some (gI G' i):=by have:=Ht (l:=G') (i:=(i:Int)) (by simp;omega);simpa using this
  have a2:∀v,(G'.map iv).set i [.int .i64 v]=(sI G' i v).map iv:=fun v=>by have:=Fo G' (i:Int) v;simpa using this
  have a3:(if 0<x then x else 0)=pN x:=rfl
  have a4:IntKind.i64.wrap ((IntKind.i64.wrap (pN x*s.fuel)).tdiv 1000)=Kt s.fuel x:=rfl
  (have hb:=trivial;with_reducible repeat' (first|simp only[hb,Vb.down,seval,Qb.down,h0,h9,h10,h11,hd,hx,hw,hii,hig,iv,aaE,a1,a2,a3,a4,adL,adM]|refine Aj ?_ ?_<;>intro hb|refine fd ?_|fail))
  (refine Aq (kJ _ _ (sI G' i (IntKind.i64.wrap (gI G' i+IntKind.i64.wrap (x-Kt s.fuel x))),IntKind.i64.wrap (fu+Kt s.fuel x),i+1) ⟨?_,?_,?_,?_,⟨true,true,rfl,(fun h=>by cases h),(fun h=>by cases h),by rw[Bi];exact hG',rfl⟩⟩ ?_);(simp[up,h0]);(simp[up,h9]);(simp[up,h10]);(simp[up]);(simp[Gs]))
 ·exact⟨by simp[up,Dn],by simp[up,Dn],by simp[up,Dn],by simp[up],⟨_,_,rfl,fun _=>rfl,fun _=>rfl,rfl,rfl⟩⟩
 ·obtain⟨rfl,wr,wG,rfl,hwG,hwr⟩:=hk
  (have hb:=trivial;with_reducible repeat' (first|simp only[hb,Vb.down,seval,Qb.down]|refine Aj ?_ ?_<;>intro hb|refine fd ?_|fail))
  exact⟨wr,wG,hwG,hwr,rfl⟩
theorem aqS{s:Ac}{d:Ao}{w w1 w2 w3 w4 w5 w6 w7:Bool}{hr own fuel:Int}{G L W A F R:List Int}{O:List Ab}(hFG:F.length=G.length)(hl:F.length≤1000):
 Vo Bo 109 [.ptr 0 0 0] [.live 19 false w [(rc s d hr (.slr 1 1 0 G.length) own fuel (.slr 1 2 0 L.length) (.slr 5 3 0 O.length) (.slr 1 4 0 W.length) (.slr 1 5 0 A.length) (.slr 1 6 0 F.length) .nils)],.live 1 true w1 (G.map iv),.live 1 true w2 (L.map iv),.live 5 true w3 (O.map Ab.cells),.live 1 true w4 (W.map iv),.live 1 true w6 (A.map iv),.live 1 true w7 (F.map iv)]
  fun o h'=>o=.ret (.tup [])∧∃wr wG,(wG=false→(Gs s.fuel F 0 (G,fuel)).1=G)∧(wr=false→(Gs s.fuel F 0 (G,fuel)).2=fuel)∧h'=[.live 19 false wr [(rc s d hr (.slr 1 1 0 G.length) own ((Gs s.fuel F 0 (G,fuel)).2) (.slr 1 2 0 L.length) (.slr 5 3 0 O.length) (.slr 1 4 0 W.length) (.slr 1 5 0 A.length) (.slr 1 6 0 F.length) .nils)],.live 1 true wG ((Gs s.fuel F 0 (G,fuel)).1.map iv),.live 1 true w2 (L.map iv),.live 5 true w3 (O.map Ab.cells),.live 1 true w4 (W.map iv),.live 1 true w6 (A.map iv),.live 1 true w7 (F.map iv)]:=by
 have hl':F.length≤maxLen:=by unfold maxLen;omega
 refine Nk rfl Tryz.func109 rfl rfl ?_
 simp only[Tryz.f109]
 (have hb:=trivial;with_reducible repeat' (first|simp only[hb,Vb.down,seval,Qb.down,aaE]|refine Aj ?_ ?_<;>intro hb|refine fd ?_|fail))
 refine Dk (Sr 49 F (fun i (zz:List Int × Int × Nat) t h=>t 0=.ptr 0 0 0∧t 9=.slr 1 6 0 F.length∧t 10=.int .i64 F.length∧t 11=.int .i64 i∧(∃wr wG,h=[.live 19 false wr [(rc s d hr (.slr 1 1 0 G.length) own zz.2.1 (.slr 1 2 0 L.length) (.slr 5 3 0 O.length) (.slr 1 4 0 W.length) (.slr 1 5 0 A.length) (.slr 1 6 0 F.length) .nils)],.live 1 true wG (zz.1.map iv),.live 1 true w2 (L.map iv),.live 5 true w3 (O.map Ab.cells),.live 1 true w4 (W.map iv),.live 1 true w6 (A.map iv),.live 1 true w7 (F.map iv)]∧(wG=false→zz.1=G)∧(wr=false→zz.2.1=fuel)∧zz.1.length=G.length∧i=zz.2.2)) (fun rest zz=>Gs s.fuel rest zz.2.2 (zz.1,zz.2.1)) (fun r e t h=>e=.exit 0∧∃wr wG,h=[.live 19 false wr [(rc s d hr (.slr 1 1 0 G.length) own r.2 (.slr 1 2 0 L.length) (.slr 5 3 0 O.length) (.slr 1 4 0 W.length) (.slr 1 5 0 A.length) (.slr 1 6 0 F.length) .nils)],.live 1 true wG (r.1.map iv),.live 1 true w2 (L.map iv),.live 5 true w3 (O.map Ab.cells),.live 1 true w4 (W.map iv),.live 1 true w6 (A.map iv),.live 1 true w7 (F.map iv)]∧(wG=false→r.1=G)∧(wr=false→r.2=fuel)) ?_ ?_ (G,fuel,0) _ _ ?_) (fun e t h hk=>?_)
 ·rintro⟨G',fu,k⟩ t h Q' kQ ⟨h0,h9,h10,h11,⟨wr,wG,rfl,hwG,hwr,hG',rfl⟩⟩
  try dsimp only at *
  (have hb:=trivial;with_reducible repeat' (first|simp only[hb,Vb.down,seval,Qb.down,h0,h9,h10,h11,acZ,decide_false]|refine Aj ?_ ?_<;>intro hb|refine fd ?_|fail))
  exact kQ _ _ _ ⟨rfl,wr,wG,rfl,hwG,hwr⟩
 ·rintro x rest i ⟨G',fu,k⟩ t h J Q' kJ kQ hx hi ⟨h0,h9,h10,h11,⟨wr,wG,rfl,hwG,hwr,hG',rfl⟩⟩
  have hd:decide ((i:Int)<(F.length:Int))=true:=decide_eq_true (by omega)
  have hw:=Ak hi hl'
  try dsimp only at *
  have hii:((i:Int)<(F.length:Int))=True:=eq_true (by omega)
  have hig:((i:Int)<(G.length:Int))=True:=eq_true (by omega)
  have a1:G'[i]?=some (gI G' i):=by have:=Ht (l:=G') (i:=(i:Int)) (by simp;omega);simpa using this
  have a2:∀v,(G'.map iv).set i [.int .i64 v]=(sI G' i v).map iv:=fun v=>by have:=Fo G' (i:Int) v;simpa using this
  have a3:(if 0<x then x else 0)=pN x:=rfl
  have a4:IntKind.i64.wrap ((IntKind.i64.wrap (pN x*s.fuel)).tdiv 1000)=Kt s.fuel x:=rfl
  (have hb:=trivial;with_reducible repeat' (first|simp only[hb,Vb.down,seval,Qb.down,h0,h9,h10,h11,hd,hx,hw,hii,hig,iv,aaE,a1,a2,a3,a4,adL,adM]|refine Aj ?_ ?_<;>intro hb|refine fd ?_|fail))
  (refine Aq (kJ _ _ (sI G' i (IntKind.i64.wrap (gI G' i+IntKind.i64.wrap (x-Kt s.fuel x))),IntKind.i64.wrap (fu+Kt s.fuel x),i+1) ⟨?_,?_,?_,?_,⟨true,true,rfl,(fun h=>by cases h),(fun h=>by cases h),by rw[Bi];exact hG',rfl⟩⟩ ?_);(simp[up,h0]);(simp[up,h9]);(simp[up,h10]);(simp[up]);(simp[Gs]))
 ·exact⟨by simp[up,Dn],by simp[up,Dn],by simp[up,Dn],by simp[up],⟨_,_,rfl,fun _=>rfl,fun _=>rfl,rfl,rfl⟩⟩
 ·obtain⟨rfl,wr,wG,rfl,hwG,hwr⟩:=hk
  (have hb:=trivial;with_reducible repeat' (first|simp only[hb,Vb.down,seval,Qb.down]|refine Aj ?_ ?_<;>intro hb|refine fd ?_|fail))
  exact⟨wr,wG,hwG,hwr,rfl⟩
theorem ao7{s:Ac}{d:Ao}{w w1 w2 w3 w4 w5 w6 w7:Bool}{hr own fuel:Int}{G L W A F R:List Int}{O:List Ab}(hFG:F.length=G.length)(hl:F.length≤1000):
 Vo Bo 109 [.ptr 0 0 0] [.live 19 false w [(rc s d hr (.slr 1 1 0 G.length) own fuel (.slr 1 2 0 L.length) .nils (.slr 1 3 0 W.length) (.slr 1 4 0 A.length) (.slr 1 5 0 F.length) (.slr 1 6 0 R.length))],.live 1 true w1 (G.map iv),.live 1 true w2 (L.map iv),.live 1 true w4 (W.map iv),.live 1 true w6 (A.map iv),.live 1 true w7 (F.map iv),.live 1 true w5 (R.map iv)]
  fun o h'=>o=.ret (.tup [])∧∃wr wG,(wG=false→(Gs s.fuel F 0 (G,fuel)).1=G)∧(wr=false→(Gs s.fuel F 0 (G,fuel)).2=fuel)∧h'=[.live 19 false wr [(rc s d hr (.slr 1 1 0 G.length) own ((Gs s.fuel F 0 (G,fuel)).2) (.slr 1 2 0 L.length) .nils (.slr 1 3 0 W.length) (.slr 1 4 0 A.length) (.slr 1 5 0 F.length) (.slr 1 6 0 R.length))],.live 1 true wG ((Gs s.fuel F 0 (G,fuel)).1.map iv),.live 1 true w2 (L.map iv),.live 1 true w4 (W.map iv),.live 1 true w6 (A.map iv),.live 1 true w7 (F.map iv),.live 1 true w5 (R.map iv)]:=by
 have hl':F.length≤maxLen:=by unfold maxLen;omega
 refine Nk rfl Tryz.func109 rfl rfl ?_
 simp only[Tryz.f109]
 (have hb:=trivial;with_reducible repeat' (first|simp only[hb,Vb.down,seval,Qb.down,aaE]|refine Aj ?_ ?_<;>intro hb|refine fd ?_|fail))
 refine Dk (Sr 49 F (fun i (zz:List Int × Int × Nat) t h=>t 0=.ptr 0 0 0∧t 9=.slr 1 5 0 F.length∧t 10=.int .i64 F.length∧t 11=.int .i64 i∧(∃wr wG,h=[.live 19 false wr [(rc s d hr (.slr 1 1 0 G.length) own zz.2.1 (.slr 1 2 0 L.length) .nils (.slr 1 3 0 W.length) (.slr 1 4 0 A.length) (.slr 1 5 0 F.length) (.slr 1 6 0 R.length))],.live 1 true wG (zz.1.map iv),.live 1 true w2 (L.map iv),.live 1 true w4 (W.map iv),.live 1 true w6 (A.map iv),.live 1 true w7 (F.map iv),.live 1 true w5 (R.map iv)]∧(wG=false→zz.1=G)∧(wr=false→zz.2.1=fuel)∧zz.1.length=G.length∧i=zz.2.2)) (fun rest zz=>Gs s.fuel rest zz.2.2 (zz.1,zz.2.1)) (fun r e t h=>e=.exit 0∧∃wr wG,h=[.live 19 false wr [(rc s d hr (.slr 1 1 0 G.length) own r.2 (.slr 1 2 0 L.length) .nils (.slr 1 3 0 W.length) (.slr 1 4 0 A.length) (.slr 1 5 0 F.length) (.slr 1 6 0 R.length))],.live 1 true wG (r.1.map iv),.live 1 true w2 (L.map iv),.live 1 true w4 (W.map iv),.live 1 true w6 (A.map iv),.live 1 true w7 (F.map iv),.live 1 true w5 (R.map iv)]∧(wG=false→r.1=G)∧(wr=false→r.2=fuel)) ?_ ?_ (G,fuel,0) _ _ ?_) (fun e t h hk=>?_)
 ·rintro⟨G',fu,k⟩ t h Q' kQ ⟨h0,h9,h10,h11,⟨wr,wG,rfl,hwG,hwr,hG',rfl⟩⟩
  try dsimp only at *
  (have hb:=trivial;with_reducible repeat' (first|simp only[hb,Vb.down,seval,Qb.down,h0,h9,h10,h11,acZ,decide_false]|refine Aj ?_ ?_<;>intro hb|refine fd ?_|fail))
  exact kQ _ _ _ ⟨rfl,wr,wG,rfl,hwG,hwr⟩
 ·rintro x rest i ⟨G',fu,k⟩ t h J Q' kJ kQ hx hi ⟨h0,h9,h10,h11,⟨wr,wG,rfl,hwG,hwr,hG',rfl⟩⟩
  have hd:decide ((i:Int)<(F.length:Int))=true:=decide_eq_true (by omega)
  have hw:=Ak hi hl'
  try dsimp only at *
  have hii:((i:Int)<(F.length:Int))=True:=eq_true (by omega)
  have hig:((i:Int)<(G.length:Int))=True:=eq_true (by omega)
  have a1:G'[i]?=some (gI G' i):=by have:=Ht (l:=G') (i:=(i:Int)) (by simp;omega);simpa using this
  have a2:∀v,(G'.map iv).set i [.int .i64 v]=(sI G' i v).map iv:=fun v=>by have:=Fo G' (i:Int) v;simpa using this
  have a3:(if 0<x then x else 0)=pN x:=rfl
  have a4:IntKind.i64.wrap ((IntKind.i64.wrap (pN x*s.fuel)).tdiv 1000)=Kt s.fuel x:=rfl
  (have hb:=trivial;with_reducible repeat' (first|simp only[hb,Vb.down,seval,Qb.down,h0,h9,h10,h11,hd,hx,hw,hii,hig,iv,aaE,a1,a2,a3,a4,adL,adM]|refine Aj ?_ ?_<;>intro hb|refine fd ?_|fail))
  (refine Aq (kJ _ _ (sI G' i (IntKind.i64.wrap (gI G' i+IntKind.i64.wrap (x-Kt s.fuel x))),IntKind.i64.wrap (fu+Kt s.fuel x),i+1) ⟨?_,?_,?_,?_,⟨true,true,rfl,(fun h=>by cases h),(fun h=>by cases h),by rw[Bi];exact hG',rfl⟩⟩ ?_);(simp[up,h0]);(simp[up,h9]);(simp[up,h10]);(simp[up]);(simp[Gs]))
 ·exact⟨by simp[up,Dn],by simp[up,Dn],by simp[up,Dn],by simp[up],⟨_,_,rfl,fun _=>rfl,fun _=>rfl,rfl,rfl⟩⟩
 ·obtain⟨rfl,wr,wG,rfl,hwG,hwr⟩:=hk
  (have hb:=trivial;with_reducible repeat' (first|simp only[hb,Vb.down,seval,Qb.down]|refine Aj ?_ ?_<;>intro hb|refine fd ?_|fail))
  exact⟨wr,wG,hwG,hwr,rfl⟩
theorem aqC{s:Ac}{d:Ao}{w w1 w2 w3 w4 w5 w6 w7:Bool}{hr own fuel:Int}{G L W A F R:List Int}{O:List Ab}(hFG:F.length=G.length)(hl:F.length≤1000):
 Vo Bo 109 [.ptr 0 0 0] [.live 19 false w [(rc s d hr (.slr 1 1 0 G.length) own fuel (.slr 1 2 0 L.length) (.slr 5 3 0 O.length) (.slr 1 4 0 W.length) (.slr 1 5 0 A.length) (.slr 1 6 0 F.length) (.slr 1 7 0 R.length))],.live 1 true w1 (G.map iv),.live 1 true w2 (L.map iv),.live 5 true w3 (O.map Ab.cells),.live 1 true w4 (W.map iv),.live 1 true w6 (A.map iv),.live 1 true w7 (F.map iv),.live 1 true w5 (R.map iv)]
  fun o h'=>o=.ret (.tup [])∧∃wr wG,(wG=false→(Gs s.fuel F 0 (G,fuel)).1=G)∧(wr=false→(Gs s.fuel F 0 (G,fuel)).2=fuel)∧h'=[.live 19 false wr [(rc s d hr (.slr 1 1 0 G.length) own ((Gs s.fuel F 0 (G,fuel)).2) (.slr 1 2 0 L.length) (.slr 5 3 0 O.length) (.slr 1 4 0 W.length) (.slr 1 5 0 A.length) (.slr 1 6 0 F.length) (.slr 1 7 0 R.length))],.live 1 true wG ((Gs s.fuel F 0 (G,fuel)).1.map iv),.live 1 true w2 (L.map iv),.live 5 true w3 (O.map Ab.cells),.live 1 true w4 (W.map iv),.live 1 true w6 (A.map iv),.live 1 true w7 (F.map iv),.live 1 true w5 (R.map iv)]:=by
 have hl':F.length≤maxLen:=by unfold maxLen;omega
 refine Nk rfl Tryz.func109 rfl rfl ?_
 simp only[Tryz.f109]
 (have hb:=trivial;with_reducible repeat' (first|simp only[hb,Vb.down,seval,Qb.down,aaE]|refine Aj ?_ ?_<;>intro hb|refine fd ?_|fail))
 refine Dk (Sr 49 F (fun i (zz:List Int × Int × Nat) t h=>t 0=.ptr 0 0 0∧t 9=.slr 1 6 0 F.length∧t 10=.int .i64 F.length∧t 11=.int .i64 i∧(∃wr wG,h=[.live 19 false wr [(rc s d hr (.slr 1 1 0 G.length) own zz.2.1 (.slr 1 2 0 L.length) (.slr 5 3 0 O.length) (.slr 1 4 0 W.length) (.slr 1 5 0 A.length) (.slr 1 6 0 F.length) (.slr 1 7 0 R.length))],.live 1 true wG (zz.1.map iv),.live 1 true w2 (L.map iv),.live 5 true w3 (O.map Ab.cells),.live 1 true w4 (W.map iv),.live 1 true w6 (A.map iv),.live 1 true w7 (F.map iv),.live 1 true w5 (R.map iv)]∧(wG=false→zz.1=G)∧(wr=false→zz.2.1=fuel)∧zz.1.length=G.length∧i=zz.2.2)) (fun rest zz=>Gs s.fuel rest zz.2.2 (zz.1,zz.2.1)) (fun r e t h=>e=.exit 0∧∃wr wG,h=[.live 19 false wr [(rc s d hr (.slr 1 1 0 G.length) own r.2 (.slr 1 2 0 L.length) (.slr 5 3 0 O.length) (.slr 1 4 0 W.length) (.slr 1 5 0 A.length) (.slr 1 6 0 F.length) (.slr 1 7 0 R.length))],.live 1 true wG (r.1.map iv),.live 1 true w2 (L.map iv),.live 5 true w3 (O.map Ab.cells),.live 1 true w4 (W.map iv),.live 1 true w6 (A.map iv),.live 1 true w7 (F.map iv),.live 1 true w5 (R.map iv)]∧(wG=false→r.1=G)∧(wr=false→r.2=fuel)) ?_ ?_ (G,fuel,0) _ _ ?_) (fun e t h hk=>?_)
 ·rintro⟨G',fu,k⟩ t h Q' kQ ⟨h0,h9,h10,h11,⟨wr,wG,rfl,hwG,hwr,hG',rfl⟩⟩
  try dsimp only at *
  (have hb:=trivial;with_reducible repeat' (first|simp only[hb,Vb.down,seval,Qb.down,h0,h9,h10,h11,acZ,decide_false]|refine Aj ?_ ?_<;>intro hb|refine fd ?_|fail))
  exact kQ _ _ _ ⟨rfl,wr,wG,rfl,hwG,hwr⟩
 ·rintro x rest i ⟨G',fu,k⟩ t h J Q' kJ kQ hx hi ⟨h0,h9,h10,h11,⟨wr,wG,rfl,hwG,hwr,hG',rfl⟩⟩
  have hd:decide ((i:Int)<(F.length:Int))=true:=decide_eq_true (by omega)
  have hw:=Ak hi hl'
  try dsimp only at *
  have hii:((i:Int)<(F.length:Int))=True:=eq_true (by omega)
  have hig:((i:Int)<(G.length:Int))=True:=eq_true (by omega)
  have a1:G'[i]?=some (gI G' i):=by have:=Ht (l:=G') (i:=(i:Int)) (by simp;omega);simpa using this
  have a2:∀v,(G'.map iv).set i [.int .i64 v]=(sI G' i v).map iv:=fun v=>by have:=Fo G' (i:Int) v;simpa using this
  have a3:(if 0<x then x else 0)=pN x:=rfl
  have a4:IntKind.i64.wrap ((IntKind.i64.wrap (pN x*s.fuel)).tdiv 1000)=Kt s.fuel x:=rfl
  (have hb:=trivial;with_reducible repeat' (first|simp only[hb,Vb.down,seval,Qb.down,h0,h9,h10,h11,hd,hx,hw,hii,hig,iv,aaE,a1,a2,a3,a4,adL,adM]|refine Aj ?_ ?_<;>intro hb|refine fd ?_|fail))
  (refine Aq (kJ _ _ (sI G' i (IntKind.i64.wrap (gI G' i+IntKind.i64.wrap (x-Kt s.fuel x))),IntKind.i64.wrap (fu+Kt s.fuel x),i+1) ⟨?_,?_,?_,?_,⟨true,true,rfl,(fun h=>by cases h),(fun h=>by cases h),by rw[Bi];exact hG',rfl⟩⟩ ?_);(simp[up,h0]);(simp[up,h9]);(simp[up,h10]);(simp[up]);(simp[Gs]))
 ·exact⟨by simp[up,Dn],by simp[up,Dn],by simp[up,Dn],by simp[up],⟨_,_,rfl,fun _=>rfl,fun _=>rfl,rfl,rfl⟩⟩
 ·obtain⟨rfl,wr,wG,rfl,hwG,hwr⟩:=hk
  (have hb:=trivial;with_reducible repeat' (first|simp only[hb,Vb.down,seval,Qb.down]|refine Aj ?_ ?_<;>intro hb|refine fd ?_|fail))
  exact⟨wr,wG,hwG,hwr,rfl⟩
def afR(c:Ag)(gas:Int):Int:=IntKind.i64.wrap ((IntKind.i64.wrap (1000*gas)).tdiv c.space)
def bT(q:Int):List Bh→Bh→Bh
 | [],o=>o
 |r::rest,o=>bT q rest (if r.fill≤q then r else o)
theorem pI(c:Ag)(gas:Int)(r0:Bh)(hr0:c.rates[0]?=some r0)(hl:c.rates.length≤maxLen)(hs:c.space≠0):Bo.call (.fn 132) [.agg [.bool c.firm,.int .i64 c.space,.int .i64 c.lo,.int .i64 c.hi,Bj 3 true c.nn (c.rates.map Bh.cells),.int .i64 c.gas,.int .i64 c.fixed,.int .i64 c.inn,.int .i64 c.out,.int .i64 c.cut,.int .i64 c.lack],.int .i64 gas] []=some (.ret (.agg (bT (afR c gas) c.rates r0).cells),[]):=by
 have hz:(c.space=0)=False:=eq_false hs
 (refine ce Tryz.func132 ?_;simp only[Tryz.f132];(have hb:=trivial;with_reducible repeat' (first|simp only[hb,Va.down,seval,yT.down,aaE,hr0,Bh.cells,Int.le_refl,Int.toNat_zero]|refine Aj ?_ ?_<;>intro hb|refine fd ?_|fail)))
 refine Dk (Sr 30 c.rates (fun i (o:Bool × Bh) t h=>(∃K,h=[.live 11 false false [[.bool c.firm,.int .i64 c.space,.int .i64 c.lo,.int .i64 c.hi,Bj 3 true c.nn (c.rates.map Bh.cells),.int .i64 c.gas,.int .i64 c.fixed,.int .i64 c.inn,.int .i64 c.out,.int .i64 c.cut,.int .i64 c.lack]],.live 3 true false [[.int .i64 0,.int .i64 0,.int .i64 0]],.live 3 true o.1 [[.int .i64 o.2.fill,.int .i64 o.2.inn,.int .i64 o.2.out]]]++K)∧t 1=.int .i64 gas∧t 2=.ptr 0 0 0∧t 4=.ptr 1 0 0∧t 5=.ptr 2 0 0∧t 13=Bj 3 true c.nn (c.rates.map Bh.cells)∧t 14=.int .i64 c.rates.length∧t 15=.int .i64 i)
  (fun rest o=>bT (afR c gas) rest o.2) (fun r e t h=>e=.exit 0∧(∃w K,h=[.live 11 false false [[.bool c.firm,.int .i64 c.space,.int .i64 c.lo,.int .i64 c.hi,Bj 3 true c.nn (c.rates.map Bh.cells),.int .i64 c.gas,.int .i64 c.fixed,.int .i64 c.inn,.int .i64 c.out,.int .i64 c.cut,.int .i64 c.lack]],.live 3 true false [[.int .i64 0,.int .i64 0,.int .i64 0]],.live 3 true w [[.int .i64 r.fill,.int .i64 r.inn,.int .i64 r.out]]]++K)∧t 4=.ptr 1 0 0∧t 5=.ptr 2 0 0) ?_ ?_ (true,r0) _ _ ?_) (fun e t h hk=>?_)
 ·rintro⟨w,o⟩ t h Q' kQ ⟨⟨K,rfl⟩,h1,h2,h4,h5,h13,h14,h15⟩
  (have hb:=trivial;with_reducible repeat' (first|simp only[hb,Va.down,seval,yT.down,h14,h15,acZ,decide_false]|refine Aj ?_ ?_<;>intro hb|refine fd ?_|fail))
  exact kQ _ _ _ ⟨rfl,⟨w,K,rfl⟩,by simp[up,h4],by simp[up,h5]⟩
 ·rintro x rest i ⟨w,o⟩ t h J Q' kJ kQ hx hi ⟨⟨K,rfl⟩,h1,h2,h4,h5,h13,h14,h15⟩
  have hd:decide ((i:Int)<(c.rates.length:Int))=true:=by simpa using hi
  have hw:=Ak hi hl
  (have hb:=trivial;with_reducible repeat' (first|simp only[hb,Va.down,seval,yT.down,h1,h2,h4,h5,h13,h14,h15,hd,hw,hx,hz,Bh.cells]|refine Aj ?_ ?_<;>intro hb|refine fd ?_|fail))
  ·exact Aq (kJ _ _ (true,x) ⟨⟨_,rfl⟩,by simp[up,h1],by simp[up,h2],by simp[up,h4],by simp[up,h5],by simp[up,h13],by simp[up,h14],by simp[up]⟩ (by rw[decide_eq_true_eq]at hb;simp only[bT];rw[if_pos (by exact hb)]))
  ·exact Aq (kJ _ _ (w,o) ⟨⟨_,rfl⟩,by simp[up,h1],by simp[up,h2],by simp[up,h4],by simp[up,h5],by simp[up,h13],by simp[up,h14],by simp[up]⟩ (by rw[decide_eq_false_iff_not]at hb;simp only[bT];rw[if_neg (by exact hb)]))
 ·exact⟨⟨[],rfl⟩,by simp[up,Dn],by simp[up],by simp[up],by simp[up],by simp[up],by simp[up],by simp[up]⟩
 ·obtain⟨rfl,⟨w,K,rfl⟩,h4,h5⟩:=hk
  (have hb:=trivial;with_reducible repeat' (first|simp only[hb,Va.down,seval,yT.down,h4,h5]|refine Aj ?_ ?_<;>intro hb|refine fd ?_|fail))
  all_goals rfl
end Go.Proofs.YtdbiogihimdpcaaGreatDoor
