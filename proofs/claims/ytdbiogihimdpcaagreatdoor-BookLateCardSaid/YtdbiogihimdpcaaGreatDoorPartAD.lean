/- The functions of the layer, walked. -/
import Derived.Test.YtdbiogihimdpcaaGreatDoorPartAC
import Derived.Test.YtdbiogihimdpcaaGreatDoorPartAB
open List renaming length_map→aa9,map_eq_nil_iff→acQ,take_of_length_le→acR,nil_append→adG,length_nil→adJ,length_eq_zero_iff→adM,getElem?_set_ne→adQ,mem_of_getElem?→aeY,getElem?_eq_getElem→ae4,cons_append→ajX,append_assoc→ajY,length_cons→ajZ,length_append→aj0,getElem?_eq_some_iff→alO,length_set→an1
open Bool renaming not_false→abQ,not_true→acI,or_eq_false_iff→aj1
open Nat renaming add_zero→acL,add_sub_cancel→adP
open Int renaming lt_irrefl→acV,natCast_nonneg→adN,reduceEq→adO,natCast_zero→ak9
open Option renaming map_some→adK,getD_some→adL
set_option linter.unusedSimpArgs false
set_option linter.unusedVariables false
namespace Go.Proofs.YtdbiogihimdpcaaGreatDoor
open Go.Ev Go
set_option maxRecDepth 100000
set_option maxHeartbeats 16000000
def Kv(t:Ab)(G:List Int):List Int:=
 sI (sI G t.frm (IntKind.i64.wrap (gI G t.frm-t.amount))) t.to (IntKind.i64.wrap (gI (sI G t.frm (IntKind.i64.wrap (gI G t.frm-t.amount))) t.to+t.amount))
def Lh(cs:List Ah)(t:Ab)(G:List Int)(n:Nat):Bool:=
 decide (gI G t.frm<t.amount)||decide (IntKind.i64.wrap (Ie cs t.to-gI G t.to)<t.amount)||(!(t.back== -1)&&decide ((50:Int)≤(n:Int)))
def Bd(cs:List Ah)(hr:Int):List Ab→Nat→List Int × List Ab × List Int→List Int × List Ab × List Int
 | [],_,a=>a
 |t::rest,i,(G,O,R)=>
  if(t.hour==hr)=true then
   if Lh cs t G O.length=true then Bd cs hr rest (i+1) (G,O,R++[(i:Int)])
   else Bd cs hr rest (i+1) (Kv t G,if(t.back== -1)=true then O else O++[t],R)
  else Bd cs hr rest (i+1) (G,O,R)
theorem Hy(t:Ab)(G:List Int):(Kv t G).length=G.length:=by simp[Kv,Bj]
def P3(O0:List Ab)(ov:AV)(O':List Ab)(g:Aa):Prop:=g[0]?=some .dead∨∃w,g[0]?=some (.live 5 true w (O'.map Ab.cells))∧ov=.slr 5 3 0 O'.length∧O'=O0
theorem P3.app{O0:List Ab}{ov:AV}{O':List Ab}{g:Aa}(h:P3 O0 ov O' g)(l:Aa):P3 O0 ov O' (g++l):=by
 rcases h with h|⟨w,h,e⟩
 ·exact .inl (Bv h l)
 ·exact .inr ⟨w,Bv h l,e⟩
theorem P3.kl{O0:List Ab}{ov rv:AV}{O':List Ab}{g:Aa}{rows:List (List AV)}(h:P3 O0 ov O' g)(hr:Ep 3 1 true rows rv g):P3 O0 ov O' (kl 3 rv g):=by
 rcases hr with⟨_,rfl⟩|⟨b,w,rfl,hb⟩
 ·exact h
 ·have hne:b≠0:=fun e=>by
   subst e
   rcases h with h|⟨w',h,_⟩<;>rw[h]at hb<;>simp at hb
  simp only[Ev.kl,adP]
  unfold P3
  rw[adQ hne]
  exact h
theorem P3.dead{O0 O' O'':List Ab}{ov:AV}{b n:Nat}{g:Aa}(h:P3 O0 (.slr 5 (b+3) 0 n) O' g)(hb:b<g.length):P3 O0 ov O'' (g.set b .dead):=by
 refine .inl ?_
 by_cases e:b=0
 ·subst e;simp[hb]
 ·rw[adQ e]
  rcases h with h|⟨w,_,h,_⟩
  ·exact h
  ·simp only[AV.slr.injEq]at h;omega
theorem adF{s:Ac}{d:An}{w w1 w2 w3:Bool}{hr own fuel:Int}{G L:List Int}{O:List Ab}(hG:G.length=s.cons.length)(hO:O=[])(hd50:d.trades.length≤1000)(ho:∀t∈d.trades,t.ok s.cons.length):
 Vg Bl 105 [.ptr 0 0 0] [.live 19 false w [(rc s d hr (.slr 1 1 0 G.length) own fuel (.slr 1 2 0 L.length) .nils .nils .nils .nils .nils)],.live 1 true w1 (G.map iv),.live 1 true w2 (L.map iv)]
  fun o h'=>o=.ret (.tup [])∧∃(wr wG wo wR:Bool) (ov rv:AV) (T:Aa),∀G' O' R,Bd s.cons hr d.trades 0 (G,O,[])=(G',O',R)→(wG=false→G'=G)∧(wr=false→ov=.nils∧rv=.nils)∧h'=[.live 19 false wr [(rc s d hr (.slr 1 1 0 G.length) own fuel (.slr 1 2 0 L.length) ov .nils .nils .nils rv)],.live 1 true wG (G'.map iv),.live 1 true w2 (L.map iv)]++T∧((O'=[]∧R=[]∧ov=.nils∧rv=.nils∧T=[])∨(O'≠[]∧R=[]∧ov=.slr 5 3 0 O'.length∧rv=.nils∧T=[.live 5 true wo (O'.map Ab.cells)])∨(O'=[]∧R≠[]∧ov=.nils∧rv=.slr 1 3 0 R.length∧T=[.live 1 true wR (R.map iv)])∨(O'≠[]∧R≠[]∧ov=.slr 5 3 0 O'.length∧rv=.slr 1 4 0 R.length∧T=[.live 5 true wo (O'.map Ab.cells),.live 1 true wR (R.map iv)])):=by
 have hl':d.trades.length≤maxLen:=by unfold maxLen;omega
 have hO1:O.length≤1000:=by first|exact hO|(rw[hO];simp)
 refine Nj rfl Tryz.func105 rfl rfl ?_
 simp only[Tryz.f105]
 (have hb:=trivial;with_reducible repeat' (first|simp only[hb,Vb.down,seval,Ih.down,aa9]|refine Ai ?_ ?_<;>intro hb|refine fd ?_|fail))
 refine Dm (Sj 112 d.trades (fun i (zz:List Int × List Ab × List Int × Nat) t h=>t 0=.ptr 0 0 0∧t 9=Az 5 true d.nt (d.trades.map Ab.cells)∧t 10=.int .i64 d.trades.length∧t 11=.int .i64 i∧(∃wr wG g ov rv,h=.live 19 false wr [(rc s d hr (.slr 1 1 0 G.length) own fuel (.slr 1 2 0 L.length) ov .nils .nils .nils rv)]::.live 1 true wG (zz.1.map iv)::.live 1 true w2 (L.map iv)::g∧Be g=true∧(wG=false→zz.1=G)∧(wr=false→ov=.nils∧rv=.nils)∧zz.1.length=G.length∧zz.2.1.length≤O.length+i∧zz.2.2.1.length≤i∧i=zz.2.2.2∧Ep 3 5 true (zz.2.1.map Ab.cells) ov g∧Ep 3 1 true (zz.2.2.1.map iv) rv g∧Sep ov rv∧(zz.2.1=[]→ov=.nils)∧(zz.2.2.1=[]→rv=.nils))) (fun rest zz=>Bd s.cons hr rest zz.2.2.2 (zz.1,zz.2.1,zz.2.2.1)) (fun r e t h=>e=.exit 0∧∃wr wG g ov rv,h=.live 19 false wr [(rc s d hr (.slr 1 1 0 G.length) own fuel (.slr 1 2 0 L.length) ov .nils .nils .nils rv)]::.live 1 true wG (r.1.map iv)::.live 1 true w2 (L.map iv)::g∧Be g=true∧(wG=false→r.1=G)∧(wr=false→ov=.nils∧rv=.nils)∧Ep 3 5 true (r.2.1.map Ab.cells) ov g∧Ep 3 1 true (r.2.2.map iv) rv g∧Sep ov rv∧(r.2.1=[]→ov=.nils)∧(r.2.2=[]→rv=.nils)) ?_ ?_ (G,O,[],0) _ _ ?_) (fun e t h hk=>?_)
 ·rintro⟨G',O',R,k⟩ t h Q' kQ ⟨h0,h9,h10,h11,⟨wr,wG,g,ov,rv,rfl,hqg,hwG,hwr,hG',hOl,hRl,rfl,hown,hrow,hsp,⟨hx1,hx2⟩⟩⟩
  try dsimp only at *
  (have hb:=trivial;with_reducible repeat' (first|simp only[hb,Vb.down,seval,Ih.down,h0,h9,h10,h11,acV,decide_false]|refine Ai ?_ ?_<;>intro hb|refine fd ?_|fail))
  exact kQ _ _ _ ⟨rfl,wr,wG,g,ov,rv,rfl,hqg,hwG,hwr,hown,hrow,hsp,⟨hx1,hx2⟩⟩
 ·rintro x rest i ⟨G',O',R,k⟩ t h J Q' kJ kQ hx hi ⟨h0,h9,h10,h11,⟨wr,wG,g,ov,rv,rfl,hqg,hwG,hwr,hG',hOl,hRl,rfl,hown,hrow,hsp,⟨hx1,hx2⟩⟩⟩
  have hd:decide ((i:Int)<(d.trades.length:Int))=true:=decide_eq_true (by omega)
  have hw:=Ak hi hl'
  try dsimp only at *
  obtain⟨⟨f0,f1⟩,k0,k1⟩:=ho x (aeY hx)
  have e1:(0≤x.to)=True:=eq_true k0
  have e2:(x.to<(G.length:Int))=True:=eq_true (by omega)
  have e4:(0≤x.frm)=True:=eq_true f0
  have e5:(x.frm<(G.length:Int))=True:=eq_true (by omega)
  have hii:((i:Int)<(d.trades.length:Int))=True:=eq_true (by omega)
  obtain⟨ct,hct⟩:∃c,s.cons[x.to.toNat]?=some c:=⟨_,ae4 (by omega)⟩
  have a1:G'[x.to.toNat]?=some (gI G' x.to):=Hn (by omega)
  have a3:G'[x.frm.toNat]?=some (gI G' x.frm):=Hn (by omega)
  have a5:∀v,(sI G' x.frm v)[x.to.toNat]?=some (gI (sI G' x.frm v) x.to):=fun v=>Hn (by rw[Bj];omega)
  have hroom:∀(tl:Aa),Bl.call (.sh 130) [.ptr 0 0 0,.int .i64 x.to] (.live 19 false false [(rc s d hr (.slr 1 1 0 G.length) own fuel (.slr 1 2 0 L.length) ov .nils .nils .nils rv)]::.live 1 true false (G'.map iv)::tl)=
   some (.ret (.int .i64 (IntKind.i64.wrap (ct.space-gI G' x.to))),.live 19 false false [(rc s d hr (.slr 1 1 0 G.length) own fuel (.slr 1 2 0 L.length) ov .nils .nils .nils rv)]::.live 1 true false (G'.map iv)::tl):=fun tl=>
   aT (b:=0) (bg:=1) (n:=G.length) hG' rfl rfl ⟨k0,by omega⟩ hct
  have hse:=fun i l l'=>Yh hqg i l l'
  have hln:=hown.ln Tryz.underlying46
  have hc1:=Ep.cell hown
  have hc2:=Ep.cell hrow
  have hc3:=Ep.acells hown
  have hc4:=Ep.acells hrow
  cases hbk:(x.hour==hr)with
  |false=>
   (have hb:=trivial;with_reducible repeat' (first|simp only[hb,Vb.down,seval,Ih.down,h0,h9,h10,h11,hd,hx,hw,hii,hbk,Ab.cells,aa9,abQ]|refine Ai ?_ ?_<;>intro hb|refine fd ?_|fail))
   (refine Aq (kJ _ _ (G',O',R,i+1) ⟨?_,?_,?_,?_,⟨wr,wG,_,ov,rv,rfl,by rw[Dq,hqg];rfl,hwG,hwr,hG',by dsimp only;omega,by dsimp only;omega,rfl,hown.app _,hrow.app _,hsp,⟨hx1,hx2⟩⟩⟩ ?_);(simp[up,h0]);(simp[up,h9]);(simp[up,h10]);(simp[up]);(simp[Bd,hbk]))
  |true=>
   cases hno:Lh s.cons x G' O'.length with
   |true=>
    have hap1:=fun(q:Aa) (r:List AV)=>qA hrow (pre:=[.live 19 false wr [(rc s d hr (.slr 1 1 0 G.length) own fuel (.slr 1 2 0 L.length) ov .nils .nils .nils rv)],.live 1 true wG (G'.map iv),.live 1 true w2 (L.map iv)]) rfl q r [] (by simp;omega)
    have hhp1:=fun(q:Aa) (r:List (List AV)) (ba:Nat)=>iW hrow (pre:=[.live 19 false wr [(rc s d hr (.slr 1 1 0 G.length) own fuel (.slr 1 2 0 L.length) ov .nils .nils .nils rv)],.live 1 true wG (G'.map iv),.live 1 true w2 (L.map iv)]) rfl q 1 true r ba
    simp only[ajX,ajY,adG,aa9,ajZ,aj0,adJ,Ek,Nat.reduceAdd]at hap1 hhp1
    have hno':=hno
    simp only[Lh,Ie,hct,adK,adL]at hno'
    cases d1:decide (gI G' x.frm<x.amount)with
    |true=>
     (have hb:=trivial;with_reducible repeat' (first|simp only[hb,Vb.down,seval,Ih.down,d1,h0,h9,h10,h11,hd,hx,hw,hii,hbk,Ab.cells,Ah.cells,e1,e2,e4,e5,a1,a3,a5,hct,hroom,hse,iv,Fo,aa9,abQ,acI,hln,hc1,hc2,hap1,hhp1,Jc,Ek,acL]|refine Ai ?_ ?_<;>intro hb|refine fd ?_|fail))
     (refine Aq (kJ _ _ (G',O',R++[(i:Int)],i+1) ⟨?_,?_,?_,?_,⟨true,wG,_,ov,_,rfl,by rw[Dq,Qq hqg];rfl,hwG,(fun h=>by cases h),hG',by dsimp only;omega,by simp;omega,rfl,(hown.kl hrow hsp.symm).app _,Ep.blk (b:=g.length+2) (w:=false) (by simp[Jc,iv]) (by omega) (by simp),(hown.sep (by omega)),⟨hx1,fun h=>absurd h (by simp)⟩⟩⟩ ?_);(simp[up,h0]);(simp[up,h9]);(simp[up,h10]);(simp[up]);(simp[Bd,hbk,hno]))
    |false=>
     cases d2:decide (IntKind.i64.wrap (ct.space-gI G' x.to)<x.amount)with
     |true=>
      (have hb:=trivial;with_reducible repeat' (first|simp only[hb,Vb.down,seval,Ih.down,d1,d2,h0,h9,h10,h11,hd,hx,hw,hii,hbk,Ab.cells,Ah.cells,e1,e2,e4,e5,a1,a3,a5,hct,hroom,hse,iv,Fo,aa9,abQ,acI,hln,hc1,hc2,hap1,hhp1,Jc,Ek,acL]|refine Ai ?_ ?_<;>intro hb|refine fd ?_|fail))
      (refine Aq (kJ _ _ (G',O',R++[(i:Int)],i+1) ⟨?_,?_,?_,?_,⟨true,wG,_,ov,_,rfl,by rw[Dq,Qq hqg];rfl,hwG,(fun h=>by cases h),hG',by dsimp only;omega,by simp;omega,rfl,(hown.kl hrow hsp.symm).app _,Ep.blk (b:=g.length+2) (w:=false) (by simp[Jc,iv]) (by omega) (by simp),(hown.sep (by omega)),⟨hx1,fun h=>absurd h (by simp)⟩⟩⟩ ?_);(simp[up,h0]);(simp[up,h9]);(simp[up,h10]);(simp[up]);(simp[Bd,hbk,hno]))
     |false=>
      rw[d1,d2]at hno'
      have d3:(x.back== -1)=false:=by simpa using (by simpa using hno':_∧_).1
      have d4:decide ((50:Int)≤(O'.length:Int))=true:=by simpa using (by simpa using hno':_∧_).2
      (have hb:=trivial;with_reducible repeat' (first|simp only[hb,Vb.down,seval,Ih.down,d1,d2,d3,d4,h0,h9,h10,h11,hd,hx,hw,hii,hbk,Ab.cells,Ah.cells,e1,e2,e4,e5,a1,a3,a5,hct,hroom,hse,iv,Fo,aa9,abQ,acI,hln,hc1,hc2,hap1,hhp1,Jc,Ek,acL]|refine Ai ?_ ?_<;>intro hb|refine fd ?_|fail))
      (refine Aq (kJ _ _ (G',O',R++[(i:Int)],i+1) ⟨?_,?_,?_,?_,⟨true,wG,_,ov,_,rfl,by rw[Dq,Qq hqg];rfl,hwG,(fun h=>by cases h),hG',by dsimp only;omega,by simp;omega,rfl,(hown.kl hrow hsp.symm).app _,Ep.blk (b:=g.length+2) (w:=false) (by simp[Jc,iv]) (by omega) (by simp),(hown.sep (by omega)),⟨hx1,fun h=>absurd h (by simp)⟩⟩⟩ ?_);(simp[up,h0]);(simp[up,h9]);(simp[up,h10]);(simp[up]);(simp[Bd,hbk,hno]))
   |false=>
    have hno':=hno
    simp only[Lh,Ie,hct,adK,adL,aj1]at hno'
    obtain⟨⟨d1,d2⟩,d3⟩:=hno'
    cases c1:(x.back== -1)with
    |true=>
     (have hb:=trivial;with_reducible repeat' (first|simp only[hb,Vb.down,seval,Ih.down,d1,d2,c1,h0,h9,h10,h11,hd,hx,hw,hii,hbk,Ab.cells,Ah.cells,e1,e2,e4,e5,a1,a3,a5,hct,hroom,hse,iv,Fo,aa9,abQ,acI,hln,hc1,hc2,Jc,Ek,acL,Ph]|refine Ai ?_ ?_<;>intro hb|refine fd ?_|fail))
     (refine Aq (kJ _ _ (Kv x G',O',R,i+1) ⟨?_,?_,?_,?_,⟨wr,true,g++[.live 5 true true [x.cells]],ov,rv,by simp[Kv,Ab.cells],by rw[Dq,hqg];rfl,(fun h=>by cases h),hwr,by rw[Hy];exact hG',by dsimp only;omega,by dsimp only;omega,rfl,hown.app _,hrow.app _,hsp,⟨hx1,hx2⟩⟩⟩ ?_);(simp[up,h0]);(simp[up,h9]);(simp[up,h10]);(simp[up]);(simp[Bd,hbk,hno,c1]))
    |false=>
     have d4:decide ((50:Int)≤(O'.length:Int))=false:=by rw[c1]at d3;simpa using d3
     have hown':=hown
     rcases hown with⟨hO0,rfl⟩|⟨b,wo,rfl,hgb⟩
     ·obtain rfl:O'=[]:=acQ.1 hO0
      have d5:decide ((50:Int)≤0)=false:=rfl
      have hno0:Lh s.cons x G' 0=false:=hno
      (have hb:=trivial;with_reducible repeat' (first|simp only[hb,Vb.down,seval,Ih.down,d1,d2,c1,d4,d5,adJ,ak9,h0,h9,h10,h11,hd,hx,hw,hii,hbk,Ab.cells,Ah.cells,e1,e2,e4,e5,a1,a3,a5,hct,hroom,hse,iv,Fo,aa9,abQ,acI,hln,hc2,Jc,Ek,acL,Ph]|refine Ai ?_ ?_<;>intro hb|refine fd ?_|fail))
      (refine Aq (kJ _ _ (Kv x G',[]++[x],R,i+1) ⟨?_,?_,?_,?_,⟨true,true,_,_,rv,rfl,by rw[Dq,hqg];rfl,(fun h=>by cases h),(fun h=>by cases h),by rw[Hy];exact hG',by simp;omega,by dsimp only;omega,rfl,Ep.blk (b:=g.length+2) (w:=false) (by simp[Ab.cells]) (by omega) (by simp),hrow.app _,(hrow.sep (by omega)).symm,⟨by simp,hx2⟩⟩⟩ ?_);(simp[up,h0]);(simp[up,h9]);(simp[up,h10]);(simp[up]);(simp[Bd,hbk,hno0,c1]))
     ·have hbl:b<g.length:=(alO.1 hgb).1
      have hA:=Bv hgb
      have hS:=Nu hbl
      have hi39:(O'.length+1≤549755813888)=True:=eq_true (by omega)
      have hrk:=hrow.kl hown' hsp
      simp only[kl,adP]at hrk
      simp only[aa9]at hroom
      (have hb:=trivial;with_reducible repeat' (first|simp only[hb,Vb.down,seval,Ih.down,d1,d2,c1,d4,hA,hS,cM,Sz,an1,hi39,h0,h9,h10,h11,hd,hx,hw,hii,hbk,Ab.cells,Ah.cells,e1,e2,e4,e5,a1,a3,a5,hct,hroom,hse,iv,Fo,aa9,abQ,acI,hln,hc2,Jc,Ek,acL,Ph]|refine Ai ?_ ?_<;>intro hb|refine fd ?_|fail))
      (refine Aq (kJ _ _ (Kv x G',O'++[x],R,i+1) ⟨?_,?_,?_,?_,⟨true,true,_,_,rv,rfl,by rw[Dq,bK hqg b];rfl,(fun h=>by cases h),(fun h=>by cases h),by rw[Hy];exact hG',by simp;omega,by dsimp only;omega,rfl,Ep.blk (b:=g.length+2) (w:=false) (by rw[Sz];simp[Ab.cells]) (by omega) (by simp),hrk.app _,(hrow.sep (by omega)).symm,⟨by simp,hx2⟩⟩⟩ ?_);(simp[up,h0]);(simp[up,h9]);(simp[up,h10]);(simp[up]);(simp[Bd,hbk,hno,c1]))
 ·exact⟨by simp[up,Dj],by simp[up,Dj],by simp[up,Dj],by simp[up],⟨_,_,_,_,_,rfl,rfl,fun _=>rfl,fun _=>⟨rfl,rfl⟩,rfl,by simp,by simp,rfl,.inl ⟨by rw[hO];rfl,rfl⟩,.inl ⟨rfl,rfl⟩,Sep.nils _,⟨fun _=>rfl,fun _=>rfl⟩⟩⟩
 ·obtain⟨rfl,wr,wG,g,ov,rv,rfl,hqg,hwG,hwr,hown,hrow,hsp,⟨hx1,hx2⟩⟩:=hk
  generalize hr0:Bd s.cons hr d.trades 0 (G,O,[])=r at *
  obtain⟨G',O',R⟩:=r
  dsimp only at *
  rcases hown with⟨hO0,rfl⟩|⟨b,wo,rfl,hgb⟩<;>rcases hrow with⟨hR0,rfl⟩|⟨b2,wR,rfl,hgr⟩
  ·(have hb:=trivial;with_reducible repeat' (first|simp only[hb,Vb.down,seval,Ih.down,aa9]|refine Ai ?_ ?_<;>intro hb|refine fd ?_|fail))
   exact⟨wr,wG,false,false,.nils,.nils,[],fun _ _ _ e=>by cases e;exact⟨hwG,(fun h=>by have q:=hwr h;first|(simp;done)|(simp at q ⊢ <;>first|exact q|omega)),rfl,.inl ⟨acQ.1 hO0,acQ.1 hR0,rfl,rfl,rfl⟩⟩⟩
  ·(have hb:=trivial;with_reducible repeat' (first|simp only[hb,Vb.down,seval,Ih.down,aa9,hgr]|refine Ai ?_ ?_<;>intro hb|refine fd ?_|fail))
   exact⟨wr,wG,false,wR,.nils,.slr 1 3 0 R.length,_,fun _ _ _ e=>by cases e;exact⟨hwG,(fun h=>by have q:=hwr h;first|(simp;done)|(simp at q ⊢ <;>first|exact q|omega)),rfl,.inr (.inr (.inl ⟨acQ.1 hO0,fun h=>(by cases hx2 h),rfl,rfl,rfl⟩))⟩⟩
  ·(have hb:=trivial;with_reducible repeat' (first|simp only[hb,Vb.down,seval,Ih.down,aa9,hgb]|refine Ai ?_ ?_<;>intro hb|refine fd ?_|fail))
   exact⟨wr,wG,wo,false,.slr 5 3 0 O'.length,.nils,_,fun _ _ _ e=>by cases e;exact⟨hwG,(fun h=>by have q:=hwr h;first|(simp;done)|(simp at q ⊢ <;>first|exact q|omega)),rfl,.inr (.inl ⟨fun h=>(by cases hx1 h),acQ.1 hR0,rfl,rfl,rfl⟩)⟩⟩
  ·have hne:(b=b2)=False:=eq_false fun e=>hsp _ _ _ _ _ _ _ _ rfl rfl (by omega)
   have hne':(b2=b)=False:=eq_false fun e=>hsp _ _ _ _ _ _ _ _ rfl rfl (by omega)
   (have hb:=trivial;with_reducible repeat' (first|simp only[hb,Vb.down,seval,Ih.down,aa9,hgb,hgr,hne,hne']|refine Ai ?_ ?_<;>intro hb|refine fd ?_|fail))
   exact⟨wr,wG,wo,wR,.slr 5 3 0 O'.length,.slr 1 4 0 R.length,_,fun _ _ _ e=>by cases e;exact⟨hwG,(fun h=>by have q:=hwr h;first|(simp;done)|(simp at q ⊢ <;>first|exact q|omega)),rfl,.inr (.inr (.inr ⟨fun h=>(by cases hx1 h),fun h=>(by cases hx2 h),rfl,rfl,rfl⟩))⟩⟩
theorem aaC{s:Ac}{d:An}{w w1 w2 w3:Bool}{hr own fuel:Int}{G L:List Int}{O:List Ab}(hG:G.length=s.cons.length)(hO:O.length≤1000)(hd50:d.trades.length≤1000)(ho:∀t∈d.trades,t.ok s.cons.length):
 Vg Bl 105 [.ptr 0 0 0] [.live 19 false w [(rc s d hr (.slr 1 1 0 G.length) own fuel (.slr 1 2 0 L.length) (.slr 5 3 0 O.length) .nils .nils .nils .nils)],.live 1 true w1 (G.map iv),.live 1 true w2 (L.map iv),.live 5 true w3 (O.map Ab.cells)]
  fun o h'=>o=.ret (.tup [])∧∃(wr wG wo wR:Bool) (ov rv:AV) (T:Aa),∀G' O' R,Bd s.cons hr d.trades 0 (G,O,[])=(G',O',R)→(wG=false→G'=G)∧(wr=false→ov=.slr 5 3 0 O.length∧rv=.nils)∧h'=[.live 19 false wr [(rc s d hr (.slr 1 1 0 G.length) own fuel (.slr 1 2 0 L.length) ov .nils .nils .nils rv)],.live 1 true wG (G'.map iv),.live 1 true w2 (L.map iv)]++T∧((R=[]∧O'=O∧ov=.slr 5 3 0 O'.length∧rv=.nils∧T=[.live 5 true wo (O'.map Ab.cells)])∨(R≠[]∧O'=O∧ov=.slr 5 3 0 O'.length∧rv=.slr 1 4 0 R.length∧T=[.live 5 true wo (O'.map Ab.cells),.live 1 true wR (R.map iv)])∨(R=[]∧ov=.slr 5 4 0 O'.length∧rv=.nils∧T=[.dead,.live 5 true wo (O'.map Ab.cells)])∨(R≠[]∧ov=.slr 5 4 0 O'.length∧rv=.slr 1 5 0 R.length∧T=[.dead,.live 5 true wo (O'.map Ab.cells),.live 1 true wR (R.map iv)])):=by
 have hl':d.trades.length≤maxLen:=by unfold maxLen;omega
 have hO1:O.length≤1000:=by first|exact hO|(rw[hO];simp)
 refine Nj rfl Tryz.func105 rfl rfl ?_
 simp only[Tryz.f105]
 (have hb:=trivial;with_reducible repeat' (first|simp only[hb,Vb.down,seval,Ih.down,aa9]|refine Ai ?_ ?_<;>intro hb|refine fd ?_|fail))
 refine Dm (Sj 112 d.trades (fun i (zz:List Int × List Ab × List Int × Nat) t h=>t 0=.ptr 0 0 0∧t 9=Az 5 true d.nt (d.trades.map Ab.cells)∧t 10=.int .i64 d.trades.length∧t 11=.int .i64 i∧(∃wr wG g ov rv,h=.live 19 false wr [(rc s d hr (.slr 1 1 0 G.length) own fuel (.slr 1 2 0 L.length) ov .nils .nils .nils rv)]::.live 1 true wG (zz.1.map iv)::.live 1 true w2 (L.map iv)::g∧Be g=true∧(wG=false→zz.1=G)∧(wr=false→ov=.slr 5 3 0 O.length∧rv=.nils)∧zz.1.length=G.length∧zz.2.1.length≤O.length+i∧zz.2.2.1.length≤i∧i=zz.2.2.2∧Ep 3 5 true (zz.2.1.map Ab.cells) ov g∧Ep 3 1 true (zz.2.2.1.map iv) rv g∧Sep ov rv∧ov≠.nils∧(zz.2.2.1=[]→rv=.nils)∧P3 O ov zz.2.1 g)) (fun rest zz=>Bd s.cons hr rest zz.2.2.2 (zz.1,zz.2.1,zz.2.2.1)) (fun r e t h=>e=.exit 0∧∃wr wG g ov rv,h=.live 19 false wr [(rc s d hr (.slr 1 1 0 G.length) own fuel (.slr 1 2 0 L.length) ov .nils .nils .nils rv)]::.live 1 true wG (r.1.map iv)::.live 1 true w2 (L.map iv)::g∧Be g=true∧(wG=false→r.1=G)∧(wr=false→ov=.slr 5 3 0 O.length∧rv=.nils)∧Ep 3 5 true (r.2.1.map Ab.cells) ov g∧Ep 3 1 true (r.2.2.map iv) rv g∧Sep ov rv∧ov≠.nils∧(r.2.2=[]→rv=.nils)∧P3 O ov r.2.1 g) ?_ ?_ (G,O,[],0) _ _ ?_) (fun e t h hk=>?_)
 ·rintro⟨G',O',R,k⟩ t h Q' kQ ⟨h0,h9,h10,h11,⟨wr,wG,g,ov,rv,rfl,hqg,hwG,hwr,hG',hOl,hRl,rfl,hown,hrow,hsp,⟨hx1,hx2,hx3⟩⟩⟩
  try dsimp only at *
  (have hb:=trivial;with_reducible repeat' (first|simp only[hb,Vb.down,seval,Ih.down,h0,h9,h10,h11,acV,decide_false]|refine Ai ?_ ?_<;>intro hb|refine fd ?_|fail))
  exact kQ _ _ _ ⟨rfl,wr,wG,g,ov,rv,rfl,hqg,hwG,hwr,hown,hrow,hsp,⟨hx1,hx2,hx3⟩⟩
 ·rintro x rest i ⟨G',O',R,k⟩ t h J Q' kJ kQ hx hi ⟨h0,h9,h10,h11,⟨wr,wG,g,ov,rv,rfl,hqg,hwG,hwr,hG',hOl,hRl,rfl,hown,hrow,hsp,⟨hx1,hx2,hx3⟩⟩⟩
  have hd:decide ((i:Int)<(d.trades.length:Int))=true:=decide_eq_true (by omega)
  have hw:=Ak hi hl'
  try dsimp only at *
  obtain⟨⟨f0,f1⟩,k0,k1⟩:=ho x (aeY hx)
  have e1:(0≤x.to)=True:=eq_true k0
  have e2:(x.to<(G.length:Int))=True:=eq_true (by omega)
  have e4:(0≤x.frm)=True:=eq_true f0
  have e5:(x.frm<(G.length:Int))=True:=eq_true (by omega)
  have hii:((i:Int)<(d.trades.length:Int))=True:=eq_true (by omega)
  obtain⟨ct,hct⟩:∃c,s.cons[x.to.toNat]?=some c:=⟨_,ae4 (by omega)⟩
  have a1:G'[x.to.toNat]?=some (gI G' x.to):=Hn (by omega)
  have a3:G'[x.frm.toNat]?=some (gI G' x.frm):=Hn (by omega)
  have a5:∀v,(sI G' x.frm v)[x.to.toNat]?=some (gI (sI G' x.frm v) x.to):=fun v=>Hn (by rw[Bj];omega)
  have hroom:∀(tl:Aa),Bl.call (.sh 130) [.ptr 0 0 0,.int .i64 x.to] (.live 19 false false [(rc s d hr (.slr 1 1 0 G.length) own fuel (.slr 1 2 0 L.length) ov .nils .nils .nils rv)]::.live 1 true false (G'.map iv)::tl)=
   some (.ret (.int .i64 (IntKind.i64.wrap (ct.space-gI G' x.to))),.live 19 false false [(rc s d hr (.slr 1 1 0 G.length) own fuel (.slr 1 2 0 L.length) ov .nils .nils .nils rv)]::.live 1 true false (G'.map iv)::tl):=fun tl=>
   aT (b:=0) (bg:=1) (n:=G.length) hG' rfl rfl ⟨k0,by omega⟩ hct
  have hse:=fun i l l'=>Yh hqg i l l'
  have hln:=hown.ln Tryz.underlying46
  have hc1:=Ep.cell hown
  have hc2:=Ep.cell hrow
  have hc3:=Ep.acells hown
  have hc4:=Ep.acells hrow
  cases hbk:(x.hour==hr)with
  |false=>
   (have hb:=trivial;with_reducible repeat' (first|simp only[hb,Vb.down,seval,Ih.down,h0,h9,h10,h11,hd,hx,hw,hii,hbk,Ab.cells,aa9,abQ]|refine Ai ?_ ?_<;>intro hb|refine fd ?_|fail))
   (refine Aq (kJ _ _ (G',O',R,i+1) ⟨?_,?_,?_,?_,⟨wr,wG,_,ov,rv,rfl,by rw[Dq,hqg];rfl,hwG,hwr,hG',by dsimp only;omega,by dsimp only;omega,rfl,hown.app _,hrow.app _,hsp,⟨hx1,hx2,hx3.app _⟩⟩⟩ ?_);(simp[up,h0]);(simp[up,h9]);(simp[up,h10]);(simp[up]);(simp[Bd,hbk]))
  |true=>
   cases hno:Lh s.cons x G' O'.length with
   |true=>
    have hap1:=fun(q:Aa) (r:List AV)=>qA hrow (pre:=[.live 19 false wr [(rc s d hr (.slr 1 1 0 G.length) own fuel (.slr 1 2 0 L.length) ov .nils .nils .nils rv)],.live 1 true wG (G'.map iv),.live 1 true w2 (L.map iv)]) rfl q r [] (by simp;omega)
    have hhp1:=fun(q:Aa) (r:List (List AV)) (ba:Nat)=>iW hrow (pre:=[.live 19 false wr [(rc s d hr (.slr 1 1 0 G.length) own fuel (.slr 1 2 0 L.length) ov .nils .nils .nils rv)],.live 1 true wG (G'.map iv),.live 1 true w2 (L.map iv)]) rfl q 1 true r ba
    simp only[ajX,ajY,adG,aa9,ajZ,aj0,adJ,Ek,Nat.reduceAdd]at hap1 hhp1
    have hno':=hno
    simp only[Lh,Ie,hct,adK,adL]at hno'
    cases d1:decide (gI G' x.frm<x.amount)with
    |true=>
     (have hb:=trivial;with_reducible repeat' (first|simp only[hb,Vb.down,seval,Ih.down,d1,h0,h9,h10,h11,hd,hx,hw,hii,hbk,Ab.cells,Ah.cells,e1,e2,e4,e5,a1,a3,a5,hct,hroom,hse,iv,Fo,aa9,abQ,acI,hln,hc1,hc2,hap1,hhp1,Jc,Ek,acL]|refine Ai ?_ ?_<;>intro hb|refine fd ?_|fail))
     (refine Aq (kJ _ _ (G',O',R++[(i:Int)],i+1) ⟨?_,?_,?_,?_,⟨true,wG,_,ov,_,rfl,by rw[Dq,Qq hqg];rfl,hwG,(fun h=>by cases h),hG',by dsimp only;omega,by simp;omega,rfl,(hown.kl hrow hsp.symm).app _,Ep.blk (b:=g.length+2) (w:=false) (by simp[Jc,iv]) (by omega) (by simp),(hown.sep (by omega)),⟨hx1,fun h=>absurd h (by simp),(hx3.kl hrow).app _⟩⟩⟩ ?_);(simp[up,h0]);(simp[up,h9]);(simp[up,h10]);(simp[up]);(simp[Bd,hbk,hno]))
    |false=>
     cases d2:decide (IntKind.i64.wrap (ct.space-gI G' x.to)<x.amount)with
     |true=>
      (have hb:=trivial;with_reducible repeat' (first|simp only[hb,Vb.down,seval,Ih.down,d1,d2,h0,h9,h10,h11,hd,hx,hw,hii,hbk,Ab.cells,Ah.cells,e1,e2,e4,e5,a1,a3,a5,hct,hroom,hse,iv,Fo,aa9,abQ,acI,hln,hc1,hc2,hap1,hhp1,Jc,Ek,acL]|refine Ai ?_ ?_<;>intro hb|refine fd ?_|fail))
      (refine Aq (kJ _ _ (G',O',R++[(i:Int)],i+1) ⟨?_,?_,?_,?_,⟨true,wG,_,ov,_,rfl,by rw[Dq,Qq hqg];rfl,hwG,(fun h=>by cases h),hG',by dsimp only;omega,by simp;omega,rfl,(hown.kl hrow hsp.symm).app _,Ep.blk (b:=g.length+2) (w:=false) (by simp[Jc,iv]) (by omega) (by simp),(hown.sep (by omega)),⟨hx1,fun h=>absurd h (by simp),(hx3.kl hrow).app _⟩⟩⟩ ?_);(simp[up,h0]);(simp[up,h9]);(simp[up,h10]);(simp[up]);(simp[Bd,hbk,hno]))
     |false=>
      rw[d1,d2]at hno'
      have d3:(x.back== -1)=false:=by simpa using (by simpa using hno':_∧_).1
      have d4:decide ((50:Int)≤(O'.length:Int))=true:=by simpa using (by simpa using hno':_∧_).2
      (have hb:=trivial;with_reducible repeat' (first|simp only[hb,Vb.down,seval,Ih.down,d1,d2,d3,d4,h0,h9,h10,h11,hd,hx,hw,hii,hbk,Ab.cells,Ah.cells,e1,e2,e4,e5,a1,a3,a5,hct,hroom,hse,iv,Fo,aa9,abQ,acI,hln,hc1,hc2,hap1,hhp1,Jc,Ek,acL]|refine Ai ?_ ?_<;>intro hb|refine fd ?_|fail))
      (refine Aq (kJ _ _ (G',O',R++[(i:Int)],i+1) ⟨?_,?_,?_,?_,⟨true,wG,_,ov,_,rfl,by rw[Dq,Qq hqg];rfl,hwG,(fun h=>by cases h),hG',by dsimp only;omega,by simp;omega,rfl,(hown.kl hrow hsp.symm).app _,Ep.blk (b:=g.length+2) (w:=false) (by simp[Jc,iv]) (by omega) (by simp),(hown.sep (by omega)),⟨hx1,fun h=>absurd h (by simp),(hx3.kl hrow).app _⟩⟩⟩ ?_);(simp[up,h0]);(simp[up,h9]);(simp[up,h10]);(simp[up]);(simp[Bd,hbk,hno]))
   |false=>
    have hno':=hno
    simp only[Lh,Ie,hct,adK,adL,aj1]at hno'
    obtain⟨⟨d1,d2⟩,d3⟩:=hno'
    cases c1:(x.back== -1)with
    |true=>
     (have hb:=trivial;with_reducible repeat' (first|simp only[hb,Vb.down,seval,Ih.down,d1,d2,c1,h0,h9,h10,h11,hd,hx,hw,hii,hbk,Ab.cells,Ah.cells,e1,e2,e4,e5,a1,a3,a5,hct,hroom,hse,iv,Fo,aa9,abQ,acI,hln,hc1,hc2,Jc,Ek,acL,Ph]|refine Ai ?_ ?_<;>intro hb|refine fd ?_|fail))
     (refine Aq (kJ _ _ (Kv x G',O',R,i+1) ⟨?_,?_,?_,?_,⟨wr,true,g++[.live 5 true true [x.cells]],ov,rv,by simp[Kv,Ab.cells],by rw[Dq,hqg];rfl,(fun h=>by cases h),hwr,by rw[Hy];exact hG',by dsimp only;omega,by dsimp only;omega,rfl,hown.app _,hrow.app _,hsp,⟨hx1,hx2,hx3.app _⟩⟩⟩ ?_);(simp[up,h0]);(simp[up,h9]);(simp[up,h10]);(simp[up]);(simp[Bd,hbk,hno,c1]))
    |false=>
     have d4:decide ((50:Int)≤(O'.length:Int))=false:=by rw[c1]at d3;simpa using d3
     have hown':=hown
     rcases hown with⟨hO0,rfl⟩|⟨b,wo,rfl,hgb⟩
     ·obtain rfl:O'=[]:=acQ.1 hO0
      have d5:decide ((50:Int)≤0)=false:=rfl
      have hno0:Lh s.cons x G' 0=false:=hno
      (have hb:=trivial;with_reducible repeat' (first|simp only[hb,Vb.down,seval,Ih.down,d1,d2,c1,d4,d5,adJ,ak9,h0,h9,h10,h11,hd,hx,hw,hii,hbk,Ab.cells,Ah.cells,e1,e2,e4,e5,a1,a3,a5,hct,hroom,hse,iv,Fo,aa9,abQ,acI,hln,hc2,Jc,Ek,acL,Ph]|refine Ai ?_ ?_<;>intro hb|refine fd ?_|fail))
      (refine Aq (kJ _ _ (Kv x G',[]++[x],R,i+1) ⟨?_,?_,?_,?_,⟨true,true,_,_,rv,rfl,by rw[Dq,hqg];rfl,(fun h=>by cases h),(fun h=>by cases h),by rw[Hy];exact hG',by simp;omega,by dsimp only;omega,rfl,Ep.blk (b:=g.length+2) (w:=false) (by simp[Ab.cells]) (by omega) (by simp),hrow.app _,(hrow.sep (by omega)).symm,absurd rfl hx1⟩⟩ ?_);(simp[up,h0]);(simp[up,h9]);(simp[up,h10]);(simp[up]);(simp[Bd,hbk,hno0,c1]))
     ·have hbl:b<g.length:=(alO.1 hgb).1
      have hA:=Bv hgb
      have hS:=Nu hbl
      have hi39:(O'.length+1≤549755813888)=True:=eq_true (by omega)
      have hrk:=hrow.kl hown' hsp
      simp only[kl,adP]at hrk
      simp only[aa9]at hroom
      (have hb:=trivial;with_reducible repeat' (first|simp only[hb,Vb.down,seval,Ih.down,d1,d2,c1,d4,hA,hS,cM,Sz,an1,hi39,h0,h9,h10,h11,hd,hx,hw,hii,hbk,Ab.cells,Ah.cells,e1,e2,e4,e5,a1,a3,a5,hct,hroom,hse,iv,Fo,aa9,abQ,acI,hln,hc2,Jc,Ek,acL,Ph]|refine Ai ?_ ?_<;>intro hb|refine fd ?_|fail))
      (refine Aq (kJ _ _ (Kv x G',O'++[x],R,i+1) ⟨?_,?_,?_,?_,⟨true,true,_,_,rv,rfl,by rw[Dq,bK hqg b];rfl,(fun h=>by cases h),(fun h=>by cases h),by rw[Hy];exact hG',by simp;omega,by dsimp only;omega,rfl,Ep.blk (b:=g.length+2) (w:=false) (by rw[Sz];simp[Ab.cells]) (by omega) (by simp),hrk.app _,(hrow.sep (by omega)).symm,⟨by simp,hx2,(hx3.dead hbl).app _⟩⟩⟩ ?_);(simp[up,h0]);(simp[up,h9]);(simp[up,h10]);(simp[up]);(simp[Bd,hbk,hno,c1]))
 ·exact⟨by simp[up,Dj],by simp[up,Dj],by simp[up,Dj],by simp[up],⟨_,_,_,_,_,rfl,rfl,fun _=>rfl,fun _=>⟨rfl,rfl⟩,rfl,by simp,by simp,rfl,Ep.blk (b:=0) rfl rfl (by simp),.inl ⟨rfl,rfl⟩,Sep.nils _,⟨by simp,fun _=>rfl,.inr ⟨_,rfl,rfl,rfl⟩⟩⟩⟩
 ·obtain⟨rfl,wr,wG,g,ov,rv,rfl,hqg,hwG,hwr,hown,hrow,hsp,⟨hx1,hx2,hx3⟩⟩:=hk
  generalize hr0:Bd s.cons hr d.trades 0 (G,O,[])=r at *
  obtain⟨G',O',R⟩:=r
  dsimp only at *
  rcases hown with⟨hO0,rfl⟩|⟨b,wo,rfl,hgb⟩
  ·exact absurd rfl hx1
  by_cases hb0:b=0
  ·subst hb0
   have hOO:O'=O:=by
    rcases hx3 with h|⟨w',_,_,h⟩
    ·rw[hgb]at h;cases h
    ·exact h
   rcases hrow with⟨hR0,rfl⟩|⟨b2,wR,rfl,hgr⟩
   ·(have hb:=trivial;with_reducible repeat' (first|simp only[hb,Vb.down,seval,Ih.down,aa9,hgb,Nat.zero_add]|refine Ai ?_ ?_<;>intro hb|refine fd ?_|fail))
    exact⟨wr,wG,wo,false,.slr 5 3 0 O'.length,.nils,_,fun _ _ _ e=>by cases e;exact⟨hwG,(fun h=>by have q:=hwr h;first|(simp;done)|(simp at q ⊢ <;>first|exact q|omega)),rfl,.inl ⟨acQ.1 hR0,hOO,rfl,rfl,rfl⟩⟩⟩
   ·have hne:(b2=0)=False:=eq_false fun e=>hsp _ _ _ _ _ _ _ _ rfl rfl (by omega)
    (have hb:=trivial;with_reducible repeat' (first|simp only[hb,Vb.down,seval,Ih.down,aa9,hgb,hgr,hne,Nat.zero_add]|refine Ai ?_ ?_<;>intro hb|refine fd ?_|fail))
    exact⟨wr,wG,wo,wR,.slr 5 3 0 O'.length,.slr 1 4 0 R.length,_,fun _ _ _ e=>by cases e;exact⟨hwG,(fun h=>by have q:=hwr h;first|(simp;done)|(simp at q ⊢ <;>first|exact q|omega)),rfl,.inr (.inl ⟨fun h=>(by cases hx2 h),hOO,rfl,rfl,rfl⟩)⟩⟩
  ·have hgd:g[0]?=some .dead:=by
    rcases hx3 with h|⟨w',_,h,_⟩
    ·exact h
    ·simp only[AV.slr.injEq]at h;omega
   have hbf:(b=0)=False:=eq_false hb0
   rcases hrow with⟨hR0,rfl⟩|⟨b2,wR,rfl,hgr⟩
   ·(have hb:=trivial;with_reducible repeat' (first|simp only[hb,Vb.down,seval,Ih.down,aa9,hgb,hgd,hbf]|refine Ai ?_ ?_<;>intro hb|refine fd ?_|fail))
    exact⟨wr,wG,wo,false,.slr 5 4 0 O'.length,.nils,_,fun _ _ _ e=>by cases e;exact⟨hwG,(fun h=>by have q:=hwr h;first|(simp;done)|(simp at q ⊢ <;>first|exact q|omega)),rfl,.inr (.inr (.inl ⟨acQ.1 hR0,rfl,rfl,rfl⟩))⟩⟩
   ·have hne:(b=b2)=False:=eq_false fun e=>hsp _ _ _ _ _ _ _ _ rfl rfl (by omega)
    have hne':(b2=b)=False:=eq_false fun e=>hsp _ _ _ _ _ _ _ _ rfl rfl (by omega)
    have hne2:(b2=0)=False:=eq_false fun e=>by subst e;rw[hgd]at hgr;cases hgr
    (have hb:=trivial;with_reducible repeat' (first|simp only[hb,Vb.down,seval,Ih.down,aa9,hgb,hgr,hgd,hbf,hne,hne',hne2]|refine Ai ?_ ?_<;>intro hb|refine fd ?_|fail))
    exact⟨wr,wG,wo,wR,.slr 5 4 0 O'.length,.slr 1 5 0 R.length,_,fun _ _ _ e=>by cases e;exact⟨hwG,(fun h=>by have q:=hwr h;first|(simp;done)|(simp at q ⊢ <;>first|exact q|omega)),rfl,.inr (.inr (.inr ⟨fun h=>(by cases hx2 h),rfl,rfl,rfl⟩))⟩⟩
theorem abP{s:Ac}{d:An}{w w1 w2 w3 w4 w5:Bool}{hr own fuel:Int}{G L W R:List Int}{O:List Ab}{x:Au}(hW:W.length=s.cons.length)(hl:W.length≤1000)(hne:W≠[])(h0:0≤hr)(hx:d.hours[hr.toNat]?=some x):
 Vg Bl 107 [.ptr 0 0 0] [.live 19 false w [(rc s d hr (.slr 1 1 0 G.length) own fuel (.slr 1 2 0 L.length) .nils (.slr 1 3 0 W.length) .nils .nils .nils)],.live 1 true w1 (G.map iv),.live 1 true w2 (L.map iv),.live 1 true w4 (W.map iv)]
  fun o h'=>o=.ret (.tup [])∧h'=[.live 19 false true [(rc s d hr (.slr 1 1 0 G.length) own fuel (.slr 1 2 0 L.length) .nils (.slr 1 3 0 W.length) (.slr 1 4 0 W.length) .nils .nils)],.live 1 true w1 (G.map iv),.live 1 true w2 (L.map iv),.live 1 true w4 (W.map iv),.live 1 true false ((Gk Ft s.cons W x.inn x.out).map iv)]:=by
 have g1:=iP (nn:=true) (most:=x.inn) (least:=x.out) hW hl hne
 rw[Bh]at g1
 have htk:(W.map iv).take W.length=W.map iv:=acR (by simp)
 have h39:(W.length≤549755813888)=True:=eq_true (by omega)
 have hh:∀tl:Aa,Bl.call (.sh 133) [.ptr 0 0 0] (.live 19 false false [(rc s d hr (.slr 1 1 0 G.length) own fuel (.slr 1 2 0 L.length) .nils (.slr 1 3 0 W.length) .nils .nils .nils)]::tl)=some (.ret (.agg x.cells),.live 19 false false [(rc s d hr (.slr 1 1 0 G.length) own fuel (.slr 1 2 0 L.length) .nils (.slr 1 3 0 W.length) .nils .nils .nils)]::tl++[.live 4 true true [x.cells]]):=fun tl=>Wc (b:=0) rfl h0 hx
 refine Nj rfl Tryz.func107 rfl rfl ?_
 simp only[Tryz.f107]
 (have hb:=trivial;with_reducible repeat' (first|simp only[hb,Vb.down,seval,uY.down,aa9,hh,Au.cells,g1,htk,h39]|refine Ai ?_ ?_<;>intro hb|refine fd ?_|fail))
theorem aa8{s:Ac}{d:An}{w w1 w2 w3 w4 w5:Bool}{hr own fuel:Int}{G L W R:List Int}{O:List Ab}{x:Au}(hW:W.length=s.cons.length)(hl:W.length≤1000)(hne:W≠[])(h0:0≤hr)(hx:d.hours[hr.toNat]?=some x):
 Vg Bl 107 [.ptr 0 0 0] [.live 19 false w [(rc s d hr (.slr 1 1 0 G.length) own fuel (.slr 1 2 0 L.length) (.slr 5 3 0 O.length) (.slr 1 4 0 W.length) .nils .nils .nils)],.live 1 true w1 (G.map iv),.live 1 true w2 (L.map iv),.live 5 true w3 (O.map Ab.cells),.live 1 true w4 (W.map iv)]
  fun o h'=>o=.ret (.tup [])∧h'=[.live 19 false true [(rc s d hr (.slr 1 1 0 G.length) own fuel (.slr 1 2 0 L.length) (.slr 5 3 0 O.length) (.slr 1 4 0 W.length) (.slr 1 5 0 W.length) .nils .nils)],.live 1 true w1 (G.map iv),.live 1 true w2 (L.map iv),.live 5 true w3 (O.map Ab.cells),.live 1 true w4 (W.map iv),.live 1 true false ((Gk Ft s.cons W x.inn x.out).map iv)]:=by
 have g1:=iP (nn:=true) (most:=x.inn) (least:=x.out) hW hl hne
 rw[Bh]at g1
 have htk:(W.map iv).take W.length=W.map iv:=acR (by simp)
 have h39:(W.length≤549755813888)=True:=eq_true (by omega)
 have hh:∀tl:Aa,Bl.call (.sh 133) [.ptr 0 0 0] (.live 19 false false [(rc s d hr (.slr 1 1 0 G.length) own fuel (.slr 1 2 0 L.length) (.slr 5 3 0 O.length) (.slr 1 4 0 W.length) .nils .nils .nils)]::tl)=some (.ret (.agg x.cells),.live 19 false false [(rc s d hr (.slr 1 1 0 G.length) own fuel (.slr 1 2 0 L.length) (.slr 5 3 0 O.length) (.slr 1 4 0 W.length) .nils .nils .nils)]::tl++[.live 4 true true [x.cells]]):=fun tl=>Wc (b:=0) rfl h0 hx
 refine Nj rfl Tryz.func107 rfl rfl ?_
 simp only[Tryz.f107]
 (have hb:=trivial;with_reducible repeat' (first|simp only[hb,Vb.down,seval,uY.down,aa9,hh,Au.cells,g1,htk,h39]|refine Ai ?_ ?_<;>intro hb|refine fd ?_|fail))
theorem aa7{s:Ac}{d:An}{w w1 w2 w3 w4 w5:Bool}{hr own fuel:Int}{G L W R:List Int}{O:List Ab}{x:Au}(hW:W.length=s.cons.length)(hl:W.length≤1000)(hne:W≠[])(h0:0≤hr)(hx:d.hours[hr.toNat]?=some x):
 Vg Bl 107 [.ptr 0 0 0] [.live 19 false w [(rc s d hr (.slr 1 1 0 G.length) own fuel (.slr 1 2 0 L.length) .nils (.slr 1 3 0 W.length) .nils .nils (.slr 1 4 0 R.length))],.live 1 true w1 (G.map iv),.live 1 true w2 (L.map iv),.live 1 true w4 (W.map iv),.live 1 true w5 (R.map iv)]
  fun o h'=>o=.ret (.tup [])∧h'=[.live 19 false true [(rc s d hr (.slr 1 1 0 G.length) own fuel (.slr 1 2 0 L.length) .nils (.slr 1 3 0 W.length) (.slr 1 5 0 W.length) .nils (.slr 1 4 0 R.length))],.live 1 true w1 (G.map iv),.live 1 true w2 (L.map iv),.live 1 true w4 (W.map iv),.live 1 true w5 (R.map iv),.live 1 true false ((Gk Ft s.cons W x.inn x.out).map iv)]:=by
 have g1:=iP (nn:=true) (most:=x.inn) (least:=x.out) hW hl hne
 rw[Bh]at g1
 have htk:(W.map iv).take W.length=W.map iv:=acR (by simp)
 have h39:(W.length≤549755813888)=True:=eq_true (by omega)
 have hh:∀tl:Aa,Bl.call (.sh 133) [.ptr 0 0 0] (.live 19 false false [(rc s d hr (.slr 1 1 0 G.length) own fuel (.slr 1 2 0 L.length) .nils (.slr 1 3 0 W.length) .nils .nils (.slr 1 4 0 R.length))]::tl)=some (.ret (.agg x.cells),.live 19 false false [(rc s d hr (.slr 1 1 0 G.length) own fuel (.slr 1 2 0 L.length) .nils (.slr 1 3 0 W.length) .nils .nils (.slr 1 4 0 R.length))]::tl++[.live 4 true true [x.cells]]):=fun tl=>Wc (b:=0) rfl h0 hx
 refine Nj rfl Tryz.func107 rfl rfl ?_
 simp only[Tryz.f107]
 (have hb:=trivial;with_reducible repeat' (first|simp only[hb,Vb.down,seval,uY.down,aa9,hh,Au.cells,g1,htk,h39]|refine Ai ?_ ?_<;>intro hb|refine fd ?_|fail))
theorem abX{s:Ac}{d:An}{w w1 w2 w3 w4 w5:Bool}{hr own fuel:Int}{G L W R:List Int}{O:List Ab}{x:Au}(hW:W.length=s.cons.length)(hl:W.length≤1000)(hne:W≠[])(h0:0≤hr)(hx:d.hours[hr.toNat]?=some x):
 Vg Bl 107 [.ptr 0 0 0] [.live 19 false w [(rc s d hr (.slr 1 1 0 G.length) own fuel (.slr 1 2 0 L.length) (.slr 5 3 0 O.length) (.slr 1 4 0 W.length) .nils .nils (.slr 1 5 0 R.length))],.live 1 true w1 (G.map iv),.live 1 true w2 (L.map iv),.live 5 true w3 (O.map Ab.cells),.live 1 true w4 (W.map iv),.live 1 true w5 (R.map iv)]
  fun o h'=>o=.ret (.tup [])∧h'=[.live 19 false true [(rc s d hr (.slr 1 1 0 G.length) own fuel (.slr 1 2 0 L.length) (.slr 5 3 0 O.length) (.slr 1 4 0 W.length) (.slr 1 6 0 W.length) .nils (.slr 1 5 0 R.length))],.live 1 true w1 (G.map iv),.live 1 true w2 (L.map iv),.live 5 true w3 (O.map Ab.cells),.live 1 true w4 (W.map iv),.live 1 true w5 (R.map iv),.live 1 true false ((Gk Ft s.cons W x.inn x.out).map iv)]:=by
 have g1:=iP (nn:=true) (most:=x.inn) (least:=x.out) hW hl hne
 rw[Bh]at g1
 have htk:(W.map iv).take W.length=W.map iv:=acR (by simp)
 have h39:(W.length≤549755813888)=True:=eq_true (by omega)
 have hh:∀tl:Aa,Bl.call (.sh 133) [.ptr 0 0 0] (.live 19 false false [(rc s d hr (.slr 1 1 0 G.length) own fuel (.slr 1 2 0 L.length) (.slr 5 3 0 O.length) (.slr 1 4 0 W.length) .nils .nils (.slr 1 5 0 R.length))]::tl)=some (.ret (.agg x.cells),.live 19 false false [(rc s d hr (.slr 1 1 0 G.length) own fuel (.slr 1 2 0 L.length) (.slr 5 3 0 O.length) (.slr 1 4 0 W.length) .nils .nils (.slr 1 5 0 R.length))]::tl++[.live 4 true true [x.cells]]):=fun tl=>Wc (b:=0) rfl h0 hx
 refine Nj rfl Tryz.func107 rfl rfl ?_
 simp only[Tryz.f107]
 (have hb:=trivial;with_reducible repeat' (first|simp only[hb,Vb.down,seval,uY.down,aa9,hh,Au.cells,g1,htk,h39]|refine Ai ?_ ?_<;>intro hb|refine fd ?_|fail))
theorem Nx(x:Int):Bl.call (.fn 134) [.int .i64 x] []=some (.ret (.int .i64 x),[]):=by
 (refine ce Tryz.func134 ?_;simp only[Tryz.f134];(have hb:=trivial;with_reducible repeat' (first|simp only[hb,Vb.down,seval]|refine Ai ?_ ?_<;>intro hb|refine fd ?_|fail)))
def Ik(A:List Int)(x:Au):Int:=min2 x.flowIn (Ax (A.map Db) 0)
def Jr(A:List Int)(x:Au):Int:=min2 x.flowOut (Ax (A.map Do) 0)
def Br(a:Int)(l:List Int):List Int:=Dn a (Ax l 0) l 0 0
def Zc(A:List Int)(x:Au):List Int:=List.zipWith Xr (Br (Ik A x) (A.map Db)) (Br (Jr A x) (A.map Do))
def cX(A:List Int)(x:Au)(own:Int):Int:=IntKind.i64.wrap (own+IntKind.i64.wrap (IntKind.i64.wrap (x.flowIn-Ik A x)-IntKind.i64.wrap (x.flowOut-Jr A x)))
theorem Dz(a w:Int):∀(l:List Int) (so got:Int),(Dn a w l so got).length=l.length
 | [],_,_=>rfl
 |x::l,so,got=>by unfold Dn;simp[Dz a w l]
theorem aeM{s:Ac}{d:An}{w w1 w2 w3 w4 w5 w6:Bool}{hr own fuel:Int}{G L W A R:List Int}{O:List Ab}{x:Au}(hl:A.length≤1000)(hne:A≠[])(h0:0≤hr)(hx:d.hours[hr.toNat]?=some x):
 Vg Bl 108 [.ptr 0 0 0] [.live 19 false w [(rc s d hr (.slr 1 1 0 G.length) own fuel (.slr 1 2 0 L.length) .nils (.slr 1 3 0 W.length) (.slr 1 4 0 A.length) .nils .nils)],.live 1 true w1 (G.map iv),.live 1 true w2 (L.map iv),.live 1 true w4 (W.map iv),.live 1 true w6 (A.map iv)]
  fun o h'=>o=.ret (.tup [])∧h'=[.live 19 false true [(rc s d hr (.slr 1 1 0 G.length) ((cX A x own)) fuel (.slr 1 2 0 L.length) .nils (.slr 1 3 0 W.length) (.slr 1 4 0 A.length) (.slr 1 5 0 A.length) .nils)],.live 1 true w1 (G.map iv),.live 1 true w2 (L.map iv),.live 1 true w4 (W.map iv),.live 1 true w6 (A.map iv),.live 1 true false ((Zc A x).map iv)]:=by
 have g1:=cG (l:=A) (nn:=true) hl hne
 rw[Bh]at g1
 have g2:=Zb (l:=A.map Db) (nn:=true) (by simp[maxLen];omega)
 have g3:=Zb (l:=A.map Do) (nn:=true) (by simp[maxLen];omega)
 rw[Bh]at g2 g3
 have m1:∀l:List Int,l.map (fun x=>x)=l:=fun l=>by simp
 have g4:=Oa (amount:=Ik A x) (l:=A.map Db) (nn:=true) (g:=134) (w:=fun x=>x) (fun x _=>Nx x) (by simpa using hl)
 have g5:=Oa (amount:=Jr A x) (l:=A.map Do) (nn:=true) (g:=134) (w:=fun x=>x) (fun x _=>Nx x) (by simpa using hl)
 rw[m1,Bh,aa9,adG]at g4 g5
 have k2:(Br (Ik A x) (A.map Db)).length=A.length:=by unfold Br;rw[Dz];simp
 have k3:(Br (Jr A x) (A.map Do)).length=A.length:=by unfold Br;rw[Dz];simp
 have k1:Br (Ik A x) (A.map Db)≠[]:=fun e=>hne (adM.1 (by rw[←k2,e];rfl))
 have g6:=Ou (Br (Ik A x) (A.map Db)) (Br (Jr A x) (A.map Do)) true true (by omega) (by omega) _ _ (fun e=>(k1 e).elim) (fun _=>rfl)
 rw[Bh,Bh,k2]at g6
 have htk:∀l:List Int,l.length=A.length→(l.map iv).take A.length=l.map iv:=fun l h=>acR (by simp[h])
 have t1:=htk A rfl
 have t2:=htk (A.map Db) (by simp)
 have t3:=htk (A.map Do) (by simp)
 have t4:=htk _ k2
 have t5:=htk _ k3
 unfold Br at t4 t5 g6 k2 k3
 have h39:(A.length≤549755813888)=True:=eq_true (by omega)
 have hh:∀tl:Aa,Bl.call (.sh 133) [.ptr 0 0 0] (.live 19 false false [(rc s d hr (.slr 1 1 0 G.length) own fuel (.slr 1 2 0 L.length) .nils (.slr 1 3 0 W.length) (.slr 1 4 0 A.length) .nils .nils)]::tl)=some (.ret (.agg x.cells),.live 19 false false [(rc s d hr (.slr 1 1 0 G.length) own fuel (.slr 1 2 0 L.length) .nils (.slr 1 3 0 W.length) (.slr 1 4 0 A.length) .nils .nils)]::tl++[.live 4 true true [x.cells]]):=fun tl=>Wc (b:=0) rfl h0 hx
 have q1:(if Ax (A.map Db) 0<x.flowIn then Ax (A.map Db) 0 else x.flowIn)=Ik A x:=by unfold Ik min2;split<;>(first|rfl|(split<;>omega)|omega)
 have q2:(if Ax (A.map Do) 0<x.flowOut then Ax (A.map Do) 0 else x.flowOut)=Jr A x:=by unfold Jr min2;split<;>(first|rfl|(split<;>omega)|omega)
 refine Nj rfl Tryz.func108 rfl rfl ?_
 simp only[Tryz.f108]
 (have hb:=trivial;with_reducible repeat' (first|simp only[hb,Vb.down,seval,sT.down,aa9,hh,Au.cells,g1,g2,g3,q1,q2,g4,g5,g6,k2,k3,t1,t2,t3,t4,t5,h39]|refine Ai ?_ ?_<;>intro hb|refine fd ?_|fail))
 rfl
theorem ahK{s:Ac}{d:An}{w w1 w2 w3 w4 w5 w6:Bool}{hr own fuel:Int}{G L W A R:List Int}{O:List Ab}{x:Au}(hl:A.length≤1000)(hne:A≠[])(h0:0≤hr)(hx:d.hours[hr.toNat]?=some x):
 Vg Bl 108 [.ptr 0 0 0] [.live 19 false w [(rc s d hr (.slr 1 1 0 G.length) own fuel (.slr 1 2 0 L.length) (.slr 5 3 0 O.length) (.slr 1 4 0 W.length) (.slr 1 5 0 A.length) .nils .nils)],.live 1 true w1 (G.map iv),.live 1 true w2 (L.map iv),.live 5 true w3 (O.map Ab.cells),.live 1 true w4 (W.map iv),.live 1 true w6 (A.map iv)]
  fun o h'=>o=.ret (.tup [])∧h'=[.live 19 false true [(rc s d hr (.slr 1 1 0 G.length) ((cX A x own)) fuel (.slr 1 2 0 L.length) (.slr 5 3 0 O.length) (.slr 1 4 0 W.length) (.slr 1 5 0 A.length) (.slr 1 6 0 A.length) .nils)],.live 1 true w1 (G.map iv),.live 1 true w2 (L.map iv),.live 5 true w3 (O.map Ab.cells),.live 1 true w4 (W.map iv),.live 1 true w6 (A.map iv),.live 1 true false ((Zc A x).map iv)]:=by
 have g1:=cG (l:=A) (nn:=true) hl hne
 rw[Bh]at g1
 have g2:=Zb (l:=A.map Db) (nn:=true) (by simp[maxLen];omega)
 have g3:=Zb (l:=A.map Do) (nn:=true) (by simp[maxLen];omega)
 rw[Bh]at g2 g3
 have m1:∀l:List Int,l.map (fun x=>x)=l:=fun l=>by simp
 have g4:=Oa (amount:=Ik A x) (l:=A.map Db) (nn:=true) (g:=134) (w:=fun x=>x) (fun x _=>Nx x) (by simpa using hl)
 have g5:=Oa (amount:=Jr A x) (l:=A.map Do) (nn:=true) (g:=134) (w:=fun x=>x) (fun x _=>Nx x) (by simpa using hl)
 rw[m1,Bh,aa9,adG]at g4 g5
 have k2:(Br (Ik A x) (A.map Db)).length=A.length:=by unfold Br;rw[Dz];simp
 have k3:(Br (Jr A x) (A.map Do)).length=A.length:=by unfold Br;rw[Dz];simp
 have k1:Br (Ik A x) (A.map Db)≠[]:=fun e=>hne (adM.1 (by rw[←k2,e];rfl))
 have g6:=Ou (Br (Ik A x) (A.map Db)) (Br (Jr A x) (A.map Do)) true true (by omega) (by omega) _ _ (fun e=>(k1 e).elim) (fun _=>rfl)
 rw[Bh,Bh,k2]at g6
 have htk:∀l:List Int,l.length=A.length→(l.map iv).take A.length=l.map iv:=fun l h=>acR (by simp[h])
 have t1:=htk A rfl
 have t2:=htk (A.map Db) (by simp)
 have t3:=htk (A.map Do) (by simp)
 have t4:=htk _ k2
 have t5:=htk _ k3
 unfold Br at t4 t5 g6 k2 k3
 have h39:(A.length≤549755813888)=True:=eq_true (by omega)
 have hh:∀tl:Aa,Bl.call (.sh 133) [.ptr 0 0 0] (.live 19 false false [(rc s d hr (.slr 1 1 0 G.length) own fuel (.slr 1 2 0 L.length) (.slr 5 3 0 O.length) (.slr 1 4 0 W.length) (.slr 1 5 0 A.length) .nils .nils)]::tl)=some (.ret (.agg x.cells),.live 19 false false [(rc s d hr (.slr 1 1 0 G.length) own fuel (.slr 1 2 0 L.length) (.slr 5 3 0 O.length) (.slr 1 4 0 W.length) (.slr 1 5 0 A.length) .nils .nils)]::tl++[.live 4 true true [x.cells]]):=fun tl=>Wc (b:=0) rfl h0 hx
 have q1:(if Ax (A.map Db) 0<x.flowIn then Ax (A.map Db) 0 else x.flowIn)=Ik A x:=by unfold Ik min2;split<;>(first|rfl|(split<;>omega)|omega)
 have q2:(if Ax (A.map Do) 0<x.flowOut then Ax (A.map Do) 0 else x.flowOut)=Jr A x:=by unfold Jr min2;split<;>(first|rfl|(split<;>omega)|omega)
 refine Nj rfl Tryz.func108 rfl rfl ?_
 simp only[Tryz.f108]
 (have hb:=trivial;with_reducible repeat' (first|simp only[hb,Vb.down,seval,sT.down,aa9,hh,Au.cells,g1,g2,g3,q1,q2,g4,g5,g6,k2,k3,t1,t2,t3,t4,t5,h39]|refine Ai ?_ ?_<;>intro hb|refine fd ?_|fail))
 rfl
theorem ahT{s:Ac}{d:An}{w w1 w2 w3 w4 w5 w6:Bool}{hr own fuel:Int}{G L W A R:List Int}{O:List Ab}{x:Au}(hl:A.length≤1000)(hne:A≠[])(h0:0≤hr)(hx:d.hours[hr.toNat]?=some x):
 Vg Bl 108 [.ptr 0 0 0] [.live 19 false w [(rc s d hr (.slr 1 1 0 G.length) own fuel (.slr 1 2 0 L.length) .nils (.slr 1 3 0 W.length) (.slr 1 4 0 A.length) .nils (.slr 1 5 0 R.length))],.live 1 true w1 (G.map iv),.live 1 true w2 (L.map iv),.live 1 true w4 (W.map iv),.live 1 true w6 (A.map iv),.live 1 true w5 (R.map iv)]
  fun o h'=>o=.ret (.tup [])∧h'=[.live 19 false true [(rc s d hr (.slr 1 1 0 G.length) ((cX A x own)) fuel (.slr 1 2 0 L.length) .nils (.slr 1 3 0 W.length) (.slr 1 4 0 A.length) (.slr 1 6 0 A.length) (.slr 1 5 0 R.length))],.live 1 true w1 (G.map iv),.live 1 true w2 (L.map iv),.live 1 true w4 (W.map iv),.live 1 true w6 (A.map iv),.live 1 true w5 (R.map iv),.live 1 true false ((Zc A x).map iv)]:=by
 have g1:=cG (l:=A) (nn:=true) hl hne
 rw[Bh]at g1
 have g2:=Zb (l:=A.map Db) (nn:=true) (by simp[maxLen];omega)
 have g3:=Zb (l:=A.map Do) (nn:=true) (by simp[maxLen];omega)
 rw[Bh]at g2 g3
 have m1:∀l:List Int,l.map (fun x=>x)=l:=fun l=>by simp
 have g4:=Oa (amount:=Ik A x) (l:=A.map Db) (nn:=true) (g:=134) (w:=fun x=>x) (fun x _=>Nx x) (by simpa using hl)
 have g5:=Oa (amount:=Jr A x) (l:=A.map Do) (nn:=true) (g:=134) (w:=fun x=>x) (fun x _=>Nx x) (by simpa using hl)
 rw[m1,Bh,aa9,adG]at g4 g5
 have k2:(Br (Ik A x) (A.map Db)).length=A.length:=by unfold Br;rw[Dz];simp
 have k3:(Br (Jr A x) (A.map Do)).length=A.length:=by unfold Br;rw[Dz];simp
 have k1:Br (Ik A x) (A.map Db)≠[]:=fun e=>hne (adM.1 (by rw[←k2,e];rfl))
 have g6:=Ou (Br (Ik A x) (A.map Db)) (Br (Jr A x) (A.map Do)) true true (by omega) (by omega) _ _ (fun e=>(k1 e).elim) (fun _=>rfl)
 rw[Bh,Bh,k2]at g6
 have htk:∀l:List Int,l.length=A.length→(l.map iv).take A.length=l.map iv:=fun l h=>acR (by simp[h])
 have t1:=htk A rfl
 have t2:=htk (A.map Db) (by simp)
 have t3:=htk (A.map Do) (by simp)
 have t4:=htk _ k2
 have t5:=htk _ k3
 unfold Br at t4 t5 g6 k2 k3
 have h39:(A.length≤549755813888)=True:=eq_true (by omega)
 have hh:∀tl:Aa,Bl.call (.sh 133) [.ptr 0 0 0] (.live 19 false false [(rc s d hr (.slr 1 1 0 G.length) own fuel (.slr 1 2 0 L.length) .nils (.slr 1 3 0 W.length) (.slr 1 4 0 A.length) .nils (.slr 1 5 0 R.length))]::tl)=some (.ret (.agg x.cells),.live 19 false false [(rc s d hr (.slr 1 1 0 G.length) own fuel (.slr 1 2 0 L.length) .nils (.slr 1 3 0 W.length) (.slr 1 4 0 A.length) .nils (.slr 1 5 0 R.length))]::tl++[.live 4 true true [x.cells]]):=fun tl=>Wc (b:=0) rfl h0 hx
 have q1:(if Ax (A.map Db) 0<x.flowIn then Ax (A.map Db) 0 else x.flowIn)=Ik A x:=by unfold Ik min2;split<;>(first|rfl|(split<;>omega)|omega)
 have q2:(if Ax (A.map Do) 0<x.flowOut then Ax (A.map Do) 0 else x.flowOut)=Jr A x:=by unfold Jr min2;split<;>(first|rfl|(split<;>omega)|omega)
 refine Nj rfl Tryz.func108 rfl rfl ?_
 simp only[Tryz.f108]
 (have hb:=trivial;with_reducible repeat' (first|simp only[hb,Vb.down,seval,sT.down,aa9,hh,Au.cells,g1,g2,g3,q1,q2,g4,g5,g6,k2,k3,t1,t2,t3,t4,t5,h39]|refine Ai ?_ ?_<;>intro hb|refine fd ?_|fail))
 rfl
theorem aiA{s:Ac}{d:An}{w w1 w2 w3 w4 w5 w6:Bool}{hr own fuel:Int}{G L W A R:List Int}{O:List Ab}{x:Au}(hl:A.length≤1000)(hne:A≠[])(h0:0≤hr)(hx:d.hours[hr.toNat]?=some x):
 Vg Bl 108 [.ptr 0 0 0] [.live 19 false w [(rc s d hr (.slr 1 1 0 G.length) own fuel (.slr 1 2 0 L.length) (.slr 5 3 0 O.length) (.slr 1 4 0 W.length) (.slr 1 5 0 A.length) .nils (.slr 1 6 0 R.length))],.live 1 true w1 (G.map iv),.live 1 true w2 (L.map iv),.live 5 true w3 (O.map Ab.cells),.live 1 true w4 (W.map iv),.live 1 true w6 (A.map iv),.live 1 true w5 (R.map iv)]
  fun o h'=>o=.ret (.tup [])∧h'=[.live 19 false true [(rc s d hr (.slr 1 1 0 G.length) ((cX A x own)) fuel (.slr 1 2 0 L.length) (.slr 5 3 0 O.length) (.slr 1 4 0 W.length) (.slr 1 5 0 A.length) (.slr 1 7 0 A.length) (.slr 1 6 0 R.length))],.live 1 true w1 (G.map iv),.live 1 true w2 (L.map iv),.live 5 true w3 (O.map Ab.cells),.live 1 true w4 (W.map iv),.live 1 true w6 (A.map iv),.live 1 true w5 (R.map iv),.live 1 true false ((Zc A x).map iv)]:=by
 have g1:=cG (l:=A) (nn:=true) hl hne
 rw[Bh]at g1
 have g2:=Zb (l:=A.map Db) (nn:=true) (by simp[maxLen];omega)
 have g3:=Zb (l:=A.map Do) (nn:=true) (by simp[maxLen];omega)
 rw[Bh]at g2 g3
 have m1:∀l:List Int,l.map (fun x=>x)=l:=fun l=>by simp
 have g4:=Oa (amount:=Ik A x) (l:=A.map Db) (nn:=true) (g:=134) (w:=fun x=>x) (fun x _=>Nx x) (by simpa using hl)
 have g5:=Oa (amount:=Jr A x) (l:=A.map Do) (nn:=true) (g:=134) (w:=fun x=>x) (fun x _=>Nx x) (by simpa using hl)
 rw[m1,Bh,aa9,adG]at g4 g5
 have k2:(Br (Ik A x) (A.map Db)).length=A.length:=by unfold Br;rw[Dz];simp
 have k3:(Br (Jr A x) (A.map Do)).length=A.length:=by unfold Br;rw[Dz];simp
 have k1:Br (Ik A x) (A.map Db)≠[]:=fun e=>hne (adM.1 (by rw[←k2,e];rfl))
 have g6:=Ou (Br (Ik A x) (A.map Db)) (Br (Jr A x) (A.map Do)) true true (by omega) (by omega) _ _ (fun e=>(k1 e).elim) (fun _=>rfl)
 rw[Bh,Bh,k2]at g6
 have htk:∀l:List Int,l.length=A.length→(l.map iv).take A.length=l.map iv:=fun l h=>acR (by simp[h])
 have t1:=htk A rfl
 have t2:=htk (A.map Db) (by simp)
 have t3:=htk (A.map Do) (by simp)
 have t4:=htk _ k2
 have t5:=htk _ k3
 unfold Br at t4 t5 g6 k2 k3
 have h39:(A.length≤549755813888)=True:=eq_true (by omega)
 have hh:∀tl:Aa,Bl.call (.sh 133) [.ptr 0 0 0] (.live 19 false false [(rc s d hr (.slr 1 1 0 G.length) own fuel (.slr 1 2 0 L.length) (.slr 5 3 0 O.length) (.slr 1 4 0 W.length) (.slr 1 5 0 A.length) .nils (.slr 1 6 0 R.length))]::tl)=some (.ret (.agg x.cells),.live 19 false false [(rc s d hr (.slr 1 1 0 G.length) own fuel (.slr 1 2 0 L.length) (.slr 5 3 0 O.length) (.slr 1 4 0 W.length) (.slr 1 5 0 A.length) .nils (.slr 1 6 0 R.length))]::tl++[.live 4 true true [x.cells]]):=fun tl=>Wc (b:=0) rfl h0 hx
 have q1:(if Ax (A.map Db) 0<x.flowIn then Ax (A.map Db) 0 else x.flowIn)=Ik A x:=by unfold Ik min2;split<;>(first|rfl|(split<;>omega)|omega)
 have q2:(if Ax (A.map Do) 0<x.flowOut then Ax (A.map Do) 0 else x.flowOut)=Jr A x:=by unfold Jr min2;split<;>(first|rfl|(split<;>omega)|omega)
 refine Nj rfl Tryz.func108 rfl rfl ?_
 simp only[Tryz.f108]
 (have hb:=trivial;with_reducible repeat' (first|simp only[hb,Vb.down,seval,sT.down,aa9,hh,Au.cells,g1,g2,g3,q1,q2,g4,g5,g6,k2,k3,t1,t2,t3,t4,t5,h39]|refine Ai ?_ ?_<;>intro hb|refine fd ?_|fail))
 rfl
def pW(n:Int):Int:=if 0<n then n else 0
def Ky(f n:Int):Int:=IntKind.i64.wrap ((IntKind.i64.wrap (pW n*f)).tdiv 1000)
def Gt(f:Int):List Int→Nat→List Int × Int→List Int × Int
 | [],_,a=>a
 |n::rest,i,(G,fu)=>Gt f rest (i+1) (sI G i (IntKind.i64.wrap (gI G i+IntKind.i64.wrap (n-Ky f n))),IntKind.i64.wrap (fu+Ky f n))
theorem aq2{s:Ac}{d:An}{w w1 w2 w3 w4 w5 w6 w7:Bool}{hr own fuel:Int}{G L W A F R:List Int}{O:List Ab}(hFG:F.length=G.length)(hl:F.length≤1000):
 Vg Bl 109 [.ptr 0 0 0] [.live 19 false w [(rc s d hr (.slr 1 1 0 G.length) own fuel (.slr 1 2 0 L.length) .nils (.slr 1 3 0 W.length) (.slr 1 4 0 A.length) (.slr 1 5 0 F.length) .nils)],.live 1 true w1 (G.map iv),.live 1 true w2 (L.map iv),.live 1 true w4 (W.map iv),.live 1 true w6 (A.map iv),.live 1 true w7 (F.map iv)]
  fun o h'=>o=.ret (.tup [])∧∃wr wG,(wG=false→(Gt s.fuel F 0 (G,fuel)).1=G)∧(wr=false→(Gt s.fuel F 0 (G,fuel)).2=fuel)∧h'=[.live 19 false wr [(rc s d hr (.slr 1 1 0 G.length) own ((Gt s.fuel F 0 (G,fuel)).2) (.slr 1 2 0 L.length) .nils (.slr 1 3 0 W.length) (.slr 1 4 0 A.length) (.slr 1 5 0 F.length) .nils)],.live 1 true wG ((Gt s.fuel F 0 (G,fuel)).1.map iv),.live 1 true w2 (L.map iv),.live 1 true w4 (W.map iv),.live 1 true w6 (A.map iv),.live 1 true w7 (F.map iv)]:=by
 have hl':F.length≤maxLen:=by unfold maxLen;omega
 refine Nj rfl Tryz.func109 rfl rfl ?_
 simp only[Tryz.f109]
 (have hb:=trivial;with_reducible repeat' (first|simp only[hb,Vb.down,seval,Po.down,aa9]|refine Ai ?_ ?_<;>intro hb|refine fd ?_|fail))
 refine Dm (Sj 49 F (fun i (zz:List Int × Int × Nat) t h=>t 0=.ptr 0 0 0∧t 9=.slr 1 5 0 F.length∧t 10=.int .i64 F.length∧t 11=.int .i64 i∧(∃wr wG,h=[.live 19 false wr [(rc s d hr (.slr 1 1 0 G.length) own zz.2.1 (.slr 1 2 0 L.length) .nils (.slr 1 3 0 W.length) (.slr 1 4 0 A.length) (.slr 1 5 0 F.length) .nils)],.live 1 true wG (zz.1.map iv),.live 1 true w2 (L.map iv),.live 1 true w4 (W.map iv),.live 1 true w6 (A.map iv),.live 1 true w7 (F.map iv)]∧(wG=false→zz.1=G)∧(wr=false→zz.2.1=fuel)∧zz.1.length=G.length∧i=zz.2.2)) (fun rest zz=>Gt s.fuel rest zz.2.2 (zz.1,zz.2.1)) (fun r e t h=>e=.exit 0∧∃wr wG,h=[.live 19 false wr [(rc s d hr (.slr 1 1 0 G.length) own r.2 (.slr 1 2 0 L.length) .nils (.slr 1 3 0 W.length) (.slr 1 4 0 A.length) (.slr 1 5 0 F.length) .nils)],.live 1 true wG (r.1.map iv),.live 1 true w2 (L.map iv),.live 1 true w4 (W.map iv),.live 1 true w6 (A.map iv),.live 1 true w7 (F.map iv)]∧(wG=false→r.1=G)∧(wr=false→r.2=fuel)) ?_ ?_ (G,fuel,0) _ _ ?_) (fun e t h hk=>?_)
 ·rintro⟨G',fu,k⟩ t h Q' kQ ⟨h0,h9,h10,h11,⟨wr,wG,rfl,hwG,hwr,hG',rfl⟩⟩
  try dsimp only at *
  (have hb:=trivial;with_reducible repeat' (first|simp only[hb,Vb.down,seval,Po.down,h0,h9,h10,h11,acV,decide_false]|refine Ai ?_ ?_<;>intro hb|refine fd ?_|fail))
  exact kQ _ _ _ ⟨rfl,wr,wG,rfl,hwG,hwr⟩
 ·rintro x rest i ⟨G',fu,k⟩ t h J Q' kJ kQ hx hi ⟨h0,h9,h10,h11,⟨wr,wG,rfl,hwG,hwr,hG',rfl⟩⟩
  have hd:decide ((i:Int)<(F.length:Int))=true:=decide_eq_true (by omega)
  have hw:=Ak hi hl'
  try dsimp only at *
  have hii:((i:Int)<(F.length:Int))=True:=eq_true (by omega)
  have hig:((i:Int)<(G.length:Int))=True:=eq_true (by omega)
  have a1:G'[i]?=some (gI G' i):=by have:=Hn (l:=G') (i:=(i:Int)) (by simp;omega);simpa using this
  have a2:∀v,(G'.map iv).set i [.int .i64 v]=(sI G' i v).map iv:=fun v=>by have:=Fo G' (i:Int) v;simpa using this
  have a3:(if 0<x then x else 0)=pW x:=rfl
  have a4:IntKind.i64.wrap ((IntKind.i64.wrap (pW x*s.fuel)).tdiv 1000)=Ky s.fuel x:=rfl
  (have hb:=trivial;with_reducible repeat' (first|simp only[hb,Vb.down,seval,Po.down,h0,h9,h10,h11,hd,hx,hw,hii,hig,iv,aa9,a1,a2,a3,a4,adN,adO]|refine Ai ?_ ?_<;>intro hb|refine fd ?_|fail))
  (refine Aq (kJ _ _ (sI G' i (IntKind.i64.wrap (gI G' i+IntKind.i64.wrap (x-Ky s.fuel x))),IntKind.i64.wrap (fu+Ky s.fuel x),i+1) ⟨?_,?_,?_,?_,⟨true,true,rfl,(fun h=>by cases h),(fun h=>by cases h),by rw[Bj];exact hG',rfl⟩⟩ ?_);(simp[up,h0]);(simp[up,h9]);(simp[up,h10]);(simp[up]);(simp[Gt]))
 ·exact⟨by simp[up,Dj],by simp[up,Dj],by simp[up,Dj],by simp[up],⟨_,_,rfl,fun _=>rfl,fun _=>rfl,rfl,rfl⟩⟩
 ·obtain⟨rfl,wr,wG,rfl,hwG,hwr⟩:=hk
  (have hb:=trivial;with_reducible repeat' (first|simp only[hb,Vb.down,seval,Po.down]|refine Ai ?_ ?_<;>intro hb|refine fd ?_|fail))
  exact⟨wr,wG,hwG,hwr,rfl⟩
theorem aqY{s:Ac}{d:An}{w w1 w2 w3 w4 w5 w6 w7:Bool}{hr own fuel:Int}{G L W A F R:List Int}{O:List Ab}(hFG:F.length=G.length)(hl:F.length≤1000):
 Vg Bl 109 [.ptr 0 0 0] [.live 19 false w [(rc s d hr (.slr 1 1 0 G.length) own fuel (.slr 1 2 0 L.length) (.slr 5 3 0 O.length) (.slr 1 4 0 W.length) (.slr 1 5 0 A.length) (.slr 1 6 0 F.length) .nils)],.live 1 true w1 (G.map iv),.live 1 true w2 (L.map iv),.live 5 true w3 (O.map Ab.cells),.live 1 true w4 (W.map iv),.live 1 true w6 (A.map iv),.live 1 true w7 (F.map iv)]
  fun o h'=>o=.ret (.tup [])∧∃wr wG,(wG=false→(Gt s.fuel F 0 (G,fuel)).1=G)∧(wr=false→(Gt s.fuel F 0 (G,fuel)).2=fuel)∧h'=[.live 19 false wr [(rc s d hr (.slr 1 1 0 G.length) own ((Gt s.fuel F 0 (G,fuel)).2) (.slr 1 2 0 L.length) (.slr 5 3 0 O.length) (.slr 1 4 0 W.length) (.slr 1 5 0 A.length) (.slr 1 6 0 F.length) .nils)],.live 1 true wG ((Gt s.fuel F 0 (G,fuel)).1.map iv),.live 1 true w2 (L.map iv),.live 5 true w3 (O.map Ab.cells),.live 1 true w4 (W.map iv),.live 1 true w6 (A.map iv),.live 1 true w7 (F.map iv)]:=by
 have hl':F.length≤maxLen:=by unfold maxLen;omega
 refine Nj rfl Tryz.func109 rfl rfl ?_
 simp only[Tryz.f109]
 (have hb:=trivial;with_reducible repeat' (first|simp only[hb,Vb.down,seval,Po.down,aa9]|refine Ai ?_ ?_<;>intro hb|refine fd ?_|fail))
 refine Dm (Sj 49 F (fun i (zz:List Int × Int × Nat) t h=>t 0=.ptr 0 0 0∧t 9=.slr 1 6 0 F.length∧t 10=.int .i64 F.length∧t 11=.int .i64 i∧(∃wr wG,h=[.live 19 false wr [(rc s d hr (.slr 1 1 0 G.length) own zz.2.1 (.slr 1 2 0 L.length) (.slr 5 3 0 O.length) (.slr 1 4 0 W.length) (.slr 1 5 0 A.length) (.slr 1 6 0 F.length) .nils)],.live 1 true wG (zz.1.map iv),.live 1 true w2 (L.map iv),.live 5 true w3 (O.map Ab.cells),.live 1 true w4 (W.map iv),.live 1 true w6 (A.map iv),.live 1 true w7 (F.map iv)]∧(wG=false→zz.1=G)∧(wr=false→zz.2.1=fuel)∧zz.1.length=G.length∧i=zz.2.2)) (fun rest zz=>Gt s.fuel rest zz.2.2 (zz.1,zz.2.1)) (fun r e t h=>e=.exit 0∧∃wr wG,h=[.live 19 false wr [(rc s d hr (.slr 1 1 0 G.length) own r.2 (.slr 1 2 0 L.length) (.slr 5 3 0 O.length) (.slr 1 4 0 W.length) (.slr 1 5 0 A.length) (.slr 1 6 0 F.length) .nils)],.live 1 true wG (r.1.map iv),.live 1 true w2 (L.map iv),.live 5 true w3 (O.map Ab.cells),.live 1 true w4 (W.map iv),.live 1 true w6 (A.map iv),.live 1 true w7 (F.map iv)]∧(wG=false→r.1=G)∧(wr=false→r.2=fuel)) ?_ ?_ (G,fuel,0) _ _ ?_) (fun e t h hk=>?_)
 ·rintro⟨G',fu,k⟩ t h Q' kQ ⟨h0,h9,h10,h11,⟨wr,wG,rfl,hwG,hwr,hG',rfl⟩⟩
  try dsimp only at *
  (have hb:=trivial;with_reducible repeat' (first|simp only[hb,Vb.down,seval,Po.down,h0,h9,h10,h11,acV,decide_false]|refine Ai ?_ ?_<;>intro hb|refine fd ?_|fail))
  exact kQ _ _ _ ⟨rfl,wr,wG,rfl,hwG,hwr⟩
 ·rintro x rest i ⟨G',fu,k⟩ t h J Q' kJ kQ hx hi ⟨h0,h9,h10,h11,⟨wr,wG,rfl,hwG,hwr,hG',rfl⟩⟩
  have hd:decide ((i:Int)<(F.length:Int))=true:=decide_eq_true (by omega)
  have hw:=Ak hi hl'
  try dsimp only at *
  have hii:((i:Int)<(F.length:Int))=True:=eq_true (by omega)
  have hig:((i:Int)<(G.length:Int))=True:=eq_true (by omega)
  have a1:G'[i]?=some (gI G' i):=by have:=Hn (l:=G') (i:=(i:Int)) (by simp;omega);simpa using this
  have a2:∀v,(G'.map iv).set i [.int .i64 v]=(sI G' i v).map iv:=fun v=>by have:=Fo G' (i:Int) v;simpa using this
  have a3:(if 0<x then x else 0)=pW x:=rfl
  have a4:IntKind.i64.wrap ((IntKind.i64.wrap (pW x*s.fuel)).tdiv 1000)=Ky s.fuel x:=rfl
  (have hb:=trivial;with_reducible repeat' (first|simp only[hb,Vb.down,seval,Po.down,h0,h9,h10,h11,hd,hx,hw,hii,hig,iv,aa9,a1,a2,a3,a4,adN,adO]|refine Ai ?_ ?_<;>intro hb|refine fd ?_|fail))
  (refine Aq (kJ _ _ (sI G' i (IntKind.i64.wrap (gI G' i+IntKind.i64.wrap (x-Ky s.fuel x))),IntKind.i64.wrap (fu+Ky s.fuel x),i+1) ⟨?_,?_,?_,?_,⟨true,true,rfl,(fun h=>by cases h),(fun h=>by cases h),by rw[Bj];exact hG',rfl⟩⟩ ?_);(simp[up,h0]);(simp[up,h9]);(simp[up,h10]);(simp[up]);(simp[Gt]))
 ·exact⟨by simp[up,Dj],by simp[up,Dj],by simp[up,Dj],by simp[up],⟨_,_,rfl,fun _=>rfl,fun _=>rfl,rfl,rfl⟩⟩
 ·obtain⟨rfl,wr,wG,rfl,hwG,hwr⟩:=hk
  (have hb:=trivial;with_reducible repeat' (first|simp only[hb,Vb.down,seval,Po.down]|refine Ai ?_ ?_<;>intro hb|refine fd ?_|fail))
  exact⟨wr,wG,hwG,hwr,rfl⟩
theorem apL{s:Ac}{d:An}{w w1 w2 w3 w4 w5 w6 w7:Bool}{hr own fuel:Int}{G L W A F R:List Int}{O:List Ab}(hFG:F.length=G.length)(hl:F.length≤1000):
 Vg Bl 109 [.ptr 0 0 0] [.live 19 false w [(rc s d hr (.slr 1 1 0 G.length) own fuel (.slr 1 2 0 L.length) .nils (.slr 1 3 0 W.length) (.slr 1 4 0 A.length) (.slr 1 5 0 F.length) (.slr 1 6 0 R.length))],.live 1 true w1 (G.map iv),.live 1 true w2 (L.map iv),.live 1 true w4 (W.map iv),.live 1 true w6 (A.map iv),.live 1 true w7 (F.map iv),.live 1 true w5 (R.map iv)]
  fun o h'=>o=.ret (.tup [])∧∃wr wG,(wG=false→(Gt s.fuel F 0 (G,fuel)).1=G)∧(wr=false→(Gt s.fuel F 0 (G,fuel)).2=fuel)∧h'=[.live 19 false wr [(rc s d hr (.slr 1 1 0 G.length) own ((Gt s.fuel F 0 (G,fuel)).2) (.slr 1 2 0 L.length) .nils (.slr 1 3 0 W.length) (.slr 1 4 0 A.length) (.slr 1 5 0 F.length) (.slr 1 6 0 R.length))],.live 1 true wG ((Gt s.fuel F 0 (G,fuel)).1.map iv),.live 1 true w2 (L.map iv),.live 1 true w4 (W.map iv),.live 1 true w6 (A.map iv),.live 1 true w7 (F.map iv),.live 1 true w5 (R.map iv)]:=by
 have hl':F.length≤maxLen:=by unfold maxLen;omega
 refine Nj rfl Tryz.func109 rfl rfl ?_
 simp only[Tryz.f109]
 (have hb:=trivial;with_reducible repeat' (first|simp only[hb,Vb.down,seval,Po.down,aa9]|refine Ai ?_ ?_<;>intro hb|refine fd ?_|fail))
 refine Dm (Sj 49 F (fun i (zz:List Int × Int × Nat) t h=>t 0=.ptr 0 0 0∧t 9=.slr 1 5 0 F.length∧t 10=.int .i64 F.length∧t 11=.int .i64 i∧(∃wr wG,h=[.live 19 false wr [(rc s d hr (.slr 1 1 0 G.length) own zz.2.1 (.slr 1 2 0 L.length) .nils (.slr 1 3 0 W.length) (.slr 1 4 0 A.length) (.slr 1 5 0 F.length) (.slr 1 6 0 R.length))],.live 1 true wG (zz.1.map iv),.live 1 true w2 (L.map iv),.live 1 true w4 (W.map iv),.live 1 true w6 (A.map iv),.live 1 true w7 (F.map iv),.live 1 true w5 (R.map iv)]∧(wG=false→zz.1=G)∧(wr=false→zz.2.1=fuel)∧zz.1.length=G.length∧i=zz.2.2)) (fun rest zz=>Gt s.fuel rest zz.2.2 (zz.1,zz.2.1)) (fun r e t h=>e=.exit 0∧∃wr wG,h=[.live 19 false wr [(rc s d hr (.slr 1 1 0 G.length) own r.2 (.slr 1 2 0 L.length) .nils (.slr 1 3 0 W.length) (.slr 1 4 0 A.length) (.slr 1 5 0 F.length) (.slr 1 6 0 R.length))],.live 1 true wG (r.1.map iv),.live 1 true w2 (L.map iv),.live 1 true w4 (W.map iv),.live 1 true w6 (A.map iv),.live 1 true w7 (F.map iv),.live 1 true w5 (R.map iv)]∧(wG=false→r.1=G)∧(wr=false→r.2=fuel)) ?_ ?_ (G,fuel,0) _ _ ?_) (fun e t h hk=>?_)
 ·rintro⟨G',fu,k⟩ t h Q' kQ ⟨h0,h9,h10,h11,⟨wr,wG,rfl,hwG,hwr,hG',rfl⟩⟩
  try dsimp only at *
  (have hb:=trivial;with_reducible repeat' (first|simp only[hb,Vb.down,seval,Po.down,h0,h9,h10,h11,acV,decide_false]|refine Ai ?_ ?_<;>intro hb|refine fd ?_|fail))
  exact kQ _ _ _ ⟨rfl,wr,wG,rfl,hwG,hwr⟩
 ·rintro x rest i ⟨G',fu,k⟩ t h J Q' kJ kQ hx hi ⟨h0,h9,h10,h11,⟨wr,wG,rfl,hwG,hwr,hG',rfl⟩⟩
  have hd:decide ((i:Int)<(F.length:Int))=true:=decide_eq_true (by omega)
  have hw:=Ak hi hl'
  try dsimp only at *
  have hii:((i:Int)<(F.length:Int))=True:=eq_true (by omega)
  have hig:((i:Int)<(G.length:Int))=True:=eq_true (by omega)
  have a1:G'[i]?=some (gI G' i):=by have:=Hn (l:=G') (i:=(i:Int)) (by simp;omega);simpa using this
  have a2:∀v,(G'.map iv).set i [.int .i64 v]=(sI G' i v).map iv:=fun v=>by have:=Fo G' (i:Int) v;simpa using this
  have a3:(if 0<x then x else 0)=pW x:=rfl
  have a4:IntKind.i64.wrap ((IntKind.i64.wrap (pW x*s.fuel)).tdiv 1000)=Ky s.fuel x:=rfl
  (have hb:=trivial;with_reducible repeat' (first|simp only[hb,Vb.down,seval,Po.down,h0,h9,h10,h11,hd,hx,hw,hii,hig,iv,aa9,a1,a2,a3,a4,adN,adO]|refine Ai ?_ ?_<;>intro hb|refine fd ?_|fail))
  (refine Aq (kJ _ _ (sI G' i (IntKind.i64.wrap (gI G' i+IntKind.i64.wrap (x-Ky s.fuel x))),IntKind.i64.wrap (fu+Ky s.fuel x),i+1) ⟨?_,?_,?_,?_,⟨true,true,rfl,(fun h=>by cases h),(fun h=>by cases h),by rw[Bj];exact hG',rfl⟩⟩ ?_);(simp[up,h0]);(simp[up,h9]);(simp[up,h10]);(simp[up]);(simp[Gt]))
 ·exact⟨by simp[up,Dj],by simp[up,Dj],by simp[up,Dj],by simp[up],⟨_,_,rfl,fun _=>rfl,fun _=>rfl,rfl,rfl⟩⟩
 ·obtain⟨rfl,wr,wG,rfl,hwG,hwr⟩:=hk
  (have hb:=trivial;with_reducible repeat' (first|simp only[hb,Vb.down,seval,Po.down]|refine Ai ?_ ?_<;>intro hb|refine fd ?_|fail))
  exact⟨wr,wG,hwG,hwr,rfl⟩
theorem aoT{s:Ac}{d:An}{w w1 w2 w3 w4 w5 w6 w7:Bool}{hr own fuel:Int}{G L W A F R:List Int}{O:List Ab}(hFG:F.length=G.length)(hl:F.length≤1000):
 Vg Bl 109 [.ptr 0 0 0] [.live 19 false w [(rc s d hr (.slr 1 1 0 G.length) own fuel (.slr 1 2 0 L.length) (.slr 5 3 0 O.length) (.slr 1 4 0 W.length) (.slr 1 5 0 A.length) (.slr 1 6 0 F.length) (.slr 1 7 0 R.length))],.live 1 true w1 (G.map iv),.live 1 true w2 (L.map iv),.live 5 true w3 (O.map Ab.cells),.live 1 true w4 (W.map iv),.live 1 true w6 (A.map iv),.live 1 true w7 (F.map iv),.live 1 true w5 (R.map iv)]
  fun o h'=>o=.ret (.tup [])∧∃wr wG,(wG=false→(Gt s.fuel F 0 (G,fuel)).1=G)∧(wr=false→(Gt s.fuel F 0 (G,fuel)).2=fuel)∧h'=[.live 19 false wr [(rc s d hr (.slr 1 1 0 G.length) own ((Gt s.fuel F 0 (G,fuel)).2) (.slr 1 2 0 L.length) (.slr 5 3 0 O.length) (.slr 1 4 0 W.length) (.slr 1 5 0 A.length) (.slr 1 6 0 F.length) (.slr 1 7 0 R.length))],.live 1 true wG ((Gt s.fuel F 0 (G,fuel)).1.map iv),.live 1 true w2 (L.map iv),.live 5 true w3 (O.map Ab.cells),.live 1 true w4 (W.map iv),.live 1 true w6 (A.map iv),.live 1 true w7 (F.map iv),.live 1 true w5 (R.map iv)]:=by
 have hl':F.length≤maxLen:=by unfold maxLen;omega
 refine Nj rfl Tryz.func109 rfl rfl ?_
 simp only[Tryz.f109]
 (have hb:=trivial;with_reducible repeat' (first|simp only[hb,Vb.down,seval,Po.down,aa9]|refine Ai ?_ ?_<;>intro hb|refine fd ?_|fail))
 refine Dm (Sj 49 F (fun i (zz:List Int × Int × Nat) t h=>t 0=.ptr 0 0 0∧t 9=.slr 1 6 0 F.length∧t 10=.int .i64 F.length∧t 11=.int .i64 i∧(∃wr wG,h=[.live 19 false wr [(rc s d hr (.slr 1 1 0 G.length) own zz.2.1 (.slr 1 2 0 L.length) (.slr 5 3 0 O.length) (.slr 1 4 0 W.length) (.slr 1 5 0 A.length) (.slr 1 6 0 F.length) (.slr 1 7 0 R.length))],.live 1 true wG (zz.1.map iv),.live 1 true w2 (L.map iv),.live 5 true w3 (O.map Ab.cells),.live 1 true w4 (W.map iv),.live 1 true w6 (A.map iv),.live 1 true w7 (F.map iv),.live 1 true w5 (R.map iv)]∧(wG=false→zz.1=G)∧(wr=false→zz.2.1=fuel)∧zz.1.length=G.length∧i=zz.2.2)) (fun rest zz=>Gt s.fuel rest zz.2.2 (zz.1,zz.2.1)) (fun r e t h=>e=.exit 0∧∃wr wG,h=[.live 19 false wr [(rc s d hr (.slr 1 1 0 G.length) own r.2 (.slr 1 2 0 L.length) (.slr 5 3 0 O.length) (.slr 1 4 0 W.length) (.slr 1 5 0 A.length) (.slr 1 6 0 F.length) (.slr 1 7 0 R.length))],.live 1 true wG (r.1.map iv),.live 1 true w2 (L.map iv),.live 5 true w3 (O.map Ab.cells),.live 1 true w4 (W.map iv),.live 1 true w6 (A.map iv),.live 1 true w7 (F.map iv),.live 1 true w5 (R.map iv)]∧(wG=false→r.1=G)∧(wr=false→r.2=fuel)) ?_ ?_ (G,fuel,0) _ _ ?_) (fun e t h hk=>?_)
 ·rintro⟨G',fu,k⟩ t h Q' kQ ⟨h0,h9,h10,h11,⟨wr,wG,rfl,hwG,hwr,hG',rfl⟩⟩
  try dsimp only at *
  (have hb:=trivial;with_reducible repeat' (first|simp only[hb,Vb.down,seval,Po.down,h0,h9,h10,h11,acV,decide_false]|refine Ai ?_ ?_<;>intro hb|refine fd ?_|fail))
  exact kQ _ _ _ ⟨rfl,wr,wG,rfl,hwG,hwr⟩
 ·rintro x rest i ⟨G',fu,k⟩ t h J Q' kJ kQ hx hi ⟨h0,h9,h10,h11,⟨wr,wG,rfl,hwG,hwr,hG',rfl⟩⟩
  have hd:decide ((i:Int)<(F.length:Int))=true:=decide_eq_true (by omega)
  have hw:=Ak hi hl'
  try dsimp only at *
  have hii:((i:Int)<(F.length:Int))=True:=eq_true (by omega)
  have hig:((i:Int)<(G.length:Int))=True:=eq_true (by omega)
  have a1:G'[i]?=some (gI G' i):=by have:=Hn (l:=G') (i:=(i:Int)) (by simp;omega);simpa using this
  have a2:∀v,(G'.map iv).set i [.int .i64 v]=(sI G' i v).map iv:=fun v=>by have:=Fo G' (i:Int) v;simpa using this
  have a3:(if 0<x then x else 0)=pW x:=rfl
  have a4:IntKind.i64.wrap ((IntKind.i64.wrap (pW x*s.fuel)).tdiv 1000)=Ky s.fuel x:=rfl
  (have hb:=trivial;with_reducible repeat' (first|simp only[hb,Vb.down,seval,Po.down,h0,h9,h10,h11,hd,hx,hw,hii,hig,iv,aa9,a1,a2,a3,a4,adN,adO]|refine Ai ?_ ?_<;>intro hb|refine fd ?_|fail))
  (refine Aq (kJ _ _ (sI G' i (IntKind.i64.wrap (gI G' i+IntKind.i64.wrap (x-Ky s.fuel x))),IntKind.i64.wrap (fu+Ky s.fuel x),i+1) ⟨?_,?_,?_,?_,⟨true,true,rfl,(fun h=>by cases h),(fun h=>by cases h),by rw[Bj];exact hG',rfl⟩⟩ ?_);(simp[up,h0]);(simp[up,h9]);(simp[up,h10]);(simp[up]);(simp[Gt]))
 ·exact⟨by simp[up,Dj],by simp[up,Dj],by simp[up,Dj],by simp[up],⟨_,_,rfl,fun _=>rfl,fun _=>rfl,rfl,rfl⟩⟩
 ·obtain⟨rfl,wr,wG,rfl,hwG,hwr⟩:=hk
  (have hb:=trivial;with_reducible repeat' (first|simp only[hb,Vb.down,seval,Po.down]|refine Ai ?_ ?_<;>intro hb|refine fd ?_|fail))
  exact⟨wr,wG,hwG,hwr,rfl⟩
def ae6(c:Ah)(gas:Int):Int:=IntKind.i64.wrap ((IntKind.i64.wrap (1000*gas)).tdiv c.space)
def dC(q:Int):List Bi→Bi→Bi
 | [],o=>o
 |r::rest,o=>dC q rest (if r.fill≤q then r else o)
theorem pK(c:Ah)(gas:Int)(r0:Bi)(hr0:c.rates[0]?=some r0)(hl:c.rates.length≤maxLen)(hs:c.space≠0):Bl.call (.fn 132) [.agg [.bool c.firm,.int .i64 c.space,.int .i64 c.lo,.int .i64 c.hi,Az 3 true c.nn (c.rates.map Bi.cells),.int .i64 c.gas,.int .i64 c.fixed,.int .i64 c.inn,.int .i64 c.out,.int .i64 c.cut,.int .i64 c.lack],.int .i64 gas] []=some (.ret (.agg (dC (ae6 c gas) c.rates r0).cells),[]):=by
 have hz:(c.space=0)=False:=eq_false hs
 (refine ce Tryz.func132 ?_;simp only[Tryz.f132];(have hb:=trivial;with_reducible repeat' (first|simp only[hb,Va.down,seval,xY.down,aa9,hr0,Bi.cells,Int.le_refl,Int.toNat_zero]|refine Ai ?_ ?_<;>intro hb|refine fd ?_|fail)))
 refine Dm (Sj 30 c.rates (fun i (o:Bool × Bi) t h=>(∃K,h=[.live 11 false false [[.bool c.firm,.int .i64 c.space,.int .i64 c.lo,.int .i64 c.hi,Az 3 true c.nn (c.rates.map Bi.cells),.int .i64 c.gas,.int .i64 c.fixed,.int .i64 c.inn,.int .i64 c.out,.int .i64 c.cut,.int .i64 c.lack]],.live 3 true false [[.int .i64 0,.int .i64 0,.int .i64 0]],.live 3 true o.1 [[.int .i64 o.2.fill,.int .i64 o.2.inn,.int .i64 o.2.out]]]++K)∧t 1=.int .i64 gas∧t 2=.ptr 0 0 0∧t 4=.ptr 1 0 0∧t 5=.ptr 2 0 0∧t 13=Az 3 true c.nn (c.rates.map Bi.cells)∧t 14=.int .i64 c.rates.length∧t 15=.int .i64 i)
  (fun rest o=>dC (ae6 c gas) rest o.2) (fun r e t h=>e=.exit 0∧(∃w K,h=[.live 11 false false [[.bool c.firm,.int .i64 c.space,.int .i64 c.lo,.int .i64 c.hi,Az 3 true c.nn (c.rates.map Bi.cells),.int .i64 c.gas,.int .i64 c.fixed,.int .i64 c.inn,.int .i64 c.out,.int .i64 c.cut,.int .i64 c.lack]],.live 3 true false [[.int .i64 0,.int .i64 0,.int .i64 0]],.live 3 true w [[.int .i64 r.fill,.int .i64 r.inn,.int .i64 r.out]]]++K)∧t 4=.ptr 1 0 0∧t 5=.ptr 2 0 0) ?_ ?_ (true,r0) _ _ ?_) (fun e t h hk=>?_)
 ·rintro⟨w,o⟩ t h Q' kQ ⟨⟨K,rfl⟩,h1,h2,h4,h5,h13,h14,h15⟩
  (have hb:=trivial;with_reducible repeat' (first|simp only[hb,Va.down,seval,xY.down,h14,h15,acV,decide_false]|refine Ai ?_ ?_<;>intro hb|refine fd ?_|fail))
  exact kQ _ _ _ ⟨rfl,⟨w,K,rfl⟩,by simp[up,h4],by simp[up,h5]⟩
 ·rintro x rest i ⟨w,o⟩ t h J Q' kJ kQ hx hi ⟨⟨K,rfl⟩,h1,h2,h4,h5,h13,h14,h15⟩
  have hd:decide ((i:Int)<(c.rates.length:Int))=true:=by simpa using hi
  have hw:=Ak hi hl
  (have hb:=trivial;with_reducible repeat' (first|simp only[hb,Va.down,seval,xY.down,h1,h2,h4,h5,h13,h14,h15,hd,hw,hx,hz,Bi.cells]|refine Ai ?_ ?_<;>intro hb|refine fd ?_|fail))
  ·exact Aq (kJ _ _ (true,x) ⟨⟨_,rfl⟩,by simp[up,h1],by simp[up,h2],by simp[up,h4],by simp[up,h5],by simp[up,h13],by simp[up,h14],by simp[up]⟩ (by rw[decide_eq_true_eq]at hb;simp only[dC];rw[if_pos (by exact hb)]))
  ·exact Aq (kJ _ _ (w,o) ⟨⟨_,rfl⟩,by simp[up,h1],by simp[up,h2],by simp[up,h4],by simp[up,h5],by simp[up,h13],by simp[up,h14],by simp[up]⟩ (by rw[decide_eq_false_iff_not]at hb;simp only[dC];rw[if_neg (by exact hb)]))
 ·exact⟨⟨[],rfl⟩,by simp[up,Dj],by simp[up],by simp[up],by simp[up],by simp[up],by simp[up],by simp[up]⟩
 ·obtain⟨rfl,⟨w,K,rfl⟩,h4,h5⟩:=hk
  (have hb:=trivial;with_reducible repeat' (first|simp only[hb,Va.down,seval,xY.down,h4,h5]|refine Ai ?_ ?_<;>intro hb|refine fd ?_|fail))
  all_goals rfl
end Go.Proofs.YtdbiogihimdpcaaGreatDoor
