/- The functions of the layer, walked. -/
import Derived.Test.YtdbiogihimdpcaaGreatDoorPartAH
open Nat renaming reduceEqDiff→aaS,add_zero→ab9,add_sub_cancel→ae7
open List renaming length_map→aaW,length_nil→aa0,length_cons→aa6,map_nil→abB,map_cons→abO,getElem?_eq_getElem→acF,getElem?_eq_some_iff→acK,mem_of_getElem?→acZ,zipWith→adV,sum_cons→aeP,length_set→aeZ,zipWith_cons_cons→ae6,map_eq_nil_iff→af4,length_eq_zero_iff→ai5,getElem?_set_ne→alC,length_pos_iff→alD,getElem?_zipWith→alE,cons_append→anI,append_assoc→anY,nil_append→apM,length_append→apQ,getElem?_eq_none→ap5
open Bool renaming not_false→abT,not_true→abY,false_eq_true→akJ,eq_iff_iff→alF,not_eq_true'→alG,or_eq_false_iff→apT
open Int renaming lt_irrefl→aeH,natCast_zero→aeM,mul_comm→aeW,emod_add_mul_ediv→apU,emod_nonneg→apV,emod_lt_of_pos→apY,ediv_le_ediv→ap2
open Option renaming map_some→ae8,getD_some→afM
set_option linter.unusedSimpArgs false
set_option linter.unusedVariables false
namespace Go.Proofs.YtdbiogihimdpcaaGreatDoor
open Go.Ev Go
set_option maxRecDepth 100000
set_option maxHeartbeats 16000000
theorem vW{l:List Int}{i j:Int}(hi:0≤i)(hj:0≤j)(h:i≠j)(v:Int):gI (sI l i v) j=gI l j:=by
 unfold gI sI
 rw[alC (by omega)]
theorem Vs{t:Aa}{G:List Int}{n:Nat}(h:t.ok n)(hne:t.frm≠t.to):Ht t G=sI (sI G t.frm (IntKind.i64.wrap (gI G t.frm-t.amount))) t.to (IntKind.i64.wrap (gI G t.to+t.amount)):=by
 unfold Ht
 rw[vW h.1.1 h.2.1 hne]
def awH(n:Nat)(hr own fuel:Int)(G L:List Int)(O:List Aa)(R:List Int)(o:Eo)(h:Ab):Prop:=
 ∃w1 w2 w3 w4:Bool,
  (O=[]∧R=[]∧o=.ret (.tup [.agg [.int .i64 hr,.slr 1 0 0 n,.int .i64 own,.int .i64 fuel,.slr 1 1 0 n,.nils],.nils])∧h=[Zi w1 G,Zi w2 L])∨
  (O≠[]∧R=[]∧o=.ret (.tup [.agg [.int .i64 hr,.slr 1 0 0 n,.int .i64 own,.int .i64 fuel,.slr 1 1 0 n,.slr 5 2 0 O.length],.nils])∧h=[Zi w1 G,Zi w2 L,lv5 w3 O])∨
  (O=[]∧R≠[]∧o=.ret (.tup [.agg [.int .i64 hr,.slr 1 0 0 n,.int .i64 own,.int .i64 fuel,.slr 1 1 0 n,.nils],.slr 1 2 0 R.length])∧h=[Zi w1 G,Zi w2 L,Zi w4 R])∨
  (O≠[]∧R≠[]∧o=.ret (.tup [.agg [.int .i64 hr,.slr 1 0 0 n,.int .i64 own,.int .i64 fuel,.slr 1 1 0 n,.slr 5 2 0 O.length],.slr 1 3 0 R.length])∧h=[Zi w1 G,Zi w2 L,lv5 w3 O,Zi w4 R])
theorem acO{s:Ac}{d:Ap}{hr own fuel:Int}{nG nL nO:Bool}{G L:List Int}{O:List Aa}(hl:s.cons.length≤1000)(hne:s.cons≠[])(hG:G.length=s.cons.length)(hL:L.length=s.cons.length)(hOl:O.length≤1000)(hd50:d.trades.length≤1000)(hto:∀t∈d.trades,t.ok s.cons.length∧t.frm≠t.to∧(t.back= -1∨0≤t.back))(hO:O=[]):
 Ql Bi 74 [.agg s.cells,.agg [.int .i64 hr,Ao 1 true nG (G.map iv),.int .i64 own,.int .i64 fuel,Ao 1 true nL (L.map iv),Ao 5 true nO (O.map Aa.cells)],.agg d.cells] []
  (awH s.cons.length hr own fuel (Am s.cons hr d.trades 0 (G,O,[])).1 L (Am s.cons hr d.trades 0 (G,O,[])).2.1 (Am s.cons hr d.trades 0 (G,O,[])).2.2):=by
 have hl':d.trades.length≤maxLen:=by unfold maxLen;omega
 have hp0:0<s.cons.length:=alD.2 hne
 have hGn:G≠[]:=fun e=>by rw[e]at hG;simp at hG;omega
 have hLn:L≠[]:=fun e=>by rw[e]at hL;simp at hL;omega
 have hcp:=abG (hr:=hr) (own:=own) (fuel:=fuel) (nG:=nG) (nL:=nL) (nO:=nO) (by omega) (by omega) hGn hLn hO
 rw[hG,hL]at hcp
 refine Je rfl Tryz.func74 rfl rfl ?_
 simp only[Tryz.f74]
 (have hb:=trivial;with_reducible repeat' (first|simp only[hb,Vc.down,seval,Pv.down,hcp,Ap.cells]|refine Af ?_ ?_<;>intro hb|refine fd ?_|fail))
 refine Cd (Np 113 d.trades (fun i (zz:List Int × List Aa × List Int × Nat) t h=>t 3=.ptr 0 0 0∧t 4=.ptr 1 0 0∧t 5=.ptr 2 0 0∧t 6=.ptr 3 0 0∧t 8=.ptr 6 0 0∧t 10=.int .i64 i∧(∃wG wo ov g,h=.live 6 false false [s.cells]::.live 6 false false [[.int .i64 hr,Ao 1 true nG (G.map iv),.int .i64 own,.int .i64 fuel,Ao 1 true nL (L.map iv),Ao 5 true nO (O.map Aa.cells)]]::.live 3 false false [d.cells]::.live 6 false false [[.int .i64 0,.nils,.int .i64 0,.int .i64 0,.nils,.nils]]::.live 1 true wG (zz.1.map iv)::.live 1 true false (L.map iv)::.live 6 false wo [[.int .i64 hr,.slr 1 4 0 s.cons.length,.int .i64 own,.int .i64 fuel,.slr 1 5 0 s.cons.length,ov]]::g∧zz.1.length=s.cons.length∧zz.2.1.length≤O.length+i∧zz.2.2.1.length≤i∧i=zz.2.2.2∧Do 7 1 true (zz.2.2.1.map iv) (t 9) g∧jZ ov (t 9)∧(zz.2.2.1=[]→t 9=.nils)∧((zz.2.1=[]∧ov=.nils)∨(zz.2.1≠[]∧∃b w,ov=.slr 5 (b+7) 0 zz.2.1.length∧g[b]?=some (.live 5 true w (zz.2.1.map Aa.cells)))))) (fun rest zz=>Am s.cons hr rest zz.2.2.2 (zz.1,zz.2.1,zz.2.2.1)) (fun r e t h=>e=.exit 0∧t 6=.ptr 3 0 0∧t 8=.ptr 6 0 0∧(∃wG wo ov g,h=.live 6 false false [s.cells]::.live 6 false false [[.int .i64 hr,Ao 1 true nG (G.map iv),.int .i64 own,.int .i64 fuel,Ao 1 true nL (L.map iv),Ao 5 true nO (O.map Aa.cells)]]::.live 3 false false [d.cells]::.live 6 false false [[.int .i64 0,.nils,.int .i64 0,.int .i64 0,.nils,.nils]]::.live 1 true wG (r.1.map iv)::.live 1 true false (L.map iv)::.live 6 false wo [[.int .i64 hr,.slr 1 4 0 s.cons.length,.int .i64 own,.int .i64 fuel,.slr 1 5 0 s.cons.length,ov]]::g∧Do 7 1 true (r.2.2.map iv) (t 9) g∧jZ ov (t 9)∧(r.2.2=[]→t 9=.nils)∧((r.2.1=[]∧ov=.nils)∨(r.2.1≠[]∧∃b w,ov=.slr 5 (b+7) 0 r.2.1.length∧g[b]?=some (.live 5 true w (r.2.1.map Aa.cells)))))) ?_ ?_ (G,O,[],0) _ _ ?_) (fun e t h hk=>?_)
 ·rintro⟨G',O',R,k⟩ t h Q' kQ ⟨h3,h4,h5,h6,h8,h10,⟨wG,wo,ov,g,rfl,hG',hOl',hRl,rfl,hrow,hsp,hrn,hov⟩⟩
  try dsimp only at *
  (have hb:=trivial;with_reducible repeat' (first|simp only[hb,Vc.down,seval,Pv.down,h3,h4,h5,h6,h8,h10,aeH,decide_false,aaW]|refine Af ?_ ?_<;>intro hb|refine fd ?_|fail))
  exact kQ _ _ _ ⟨rfl,by simp[up,h6],by simp[up,h8],wG,wo,ov,g,rfl,by simpa [up,Am]using hrow,by simpa [up]using hsp,by simpa [up,Am]using hrn,by simpa [Am]using hov⟩
 ·rintro x rest i ⟨G',O',R,k⟩ t h J Q' kJ kQ hx hi ⟨h3,h4,h5,h6,h8,h10,⟨wG,wo,ov,g,rfl,hG',hOl',hRl,rfl,hrow,hsp,hrn,hov⟩⟩
  have hd:decide ((i:Int)<(d.trades.length:Int))=true:=decide_eq_true (by omega)
  have hw:=Ai hi hl'
  try dsimp only at *
  obtain⟨⟨⟨f0,f1⟩,k0,k1⟩,hft,hbk0⟩:=hto x (acZ hx)
  have hok:x.ok s.cons.length:=⟨⟨f0,f1⟩,k0,k1⟩
  have e1:(0≤x.to)=True:=eq_true k0
  have e2:(x.to<(s.cons.length:Int))=True:=eq_true (by omega)
  have e4:(0≤x.frm)=True:=eq_true f0
  have e5:(x.frm<(s.cons.length:Int))=True:=eq_true (by omega)
  obtain⟨ct,hct⟩:∃c,s.cons[x.to.toNat]?=some c:=⟨_,acF (by omega)⟩
  have a1:G'[x.to.toNat]?=some (gI G' x.to):=Ff (by omega)
  have a3:G'[x.frm.toNat]?=some (gI G' x.frm):=Ff (by omega)
  have a5:∀v,(sI G' x.frm v)[x.to.toNat]?=some (gI (sI G' x.frm v) x.to):=fun v=>Ff (by rw[Bg];omega)
  have hbk1:decide (0≤x.back)= !(x.back== -1):=by
   rw[alF]
   simp only[decide_eq_true_eq,alG,beq_eq_false_iff_ne]
   omega
  have hln:ln Tryz.prog 46 (some ov)=some (.ret (.int .i64 O'.length),[]):=by
   rcases hov with⟨h,rfl⟩|⟨_,b,w,rfl,_⟩
   ·rw[h];simp[Ev.ln,jJ,Tryz.underlying46,r1]
   ·simp[Ev.ln,jJ,Tryz.underlying46,r1]
  have hcv:acells ov=[ov]:=by
   rcases hov with⟨h,rfl⟩|⟨_,b,w,rfl,_⟩<;>rfl
  obtain⟨rv,hrv⟩:∃v,v=t 9:=⟨_,rfl⟩
  rw[←hrv]at hrow hsp hrn
  have hc2:=Do.cell hrow
  replace hrv:=hrv.symm
  cases hbk:(x.hour==hr)with
  |false=>
   (have hb:=trivial;with_reducible repeat' (first|simp only[hb,Vc.down,seval,Pv.down,hbk,hrv,h3,h4,h5,h8,h10,hd,hx,hw,Aa.cells,Ag.cells,e1,e2,e4,e5,a1,a3,a5,hct,iv,Dt,aaW,abT,abY,ab9]|refine Af ?_ ?_<;>intro hb|((refine Dh (g.length) 7 ?_ ?_);(simp (discharger:=decide) only[Dc,Bq,abO,abB,Bf,Db,Dj,Df,Di,Bd,Bo,Br,aa6,aa0];kernel_rfl);intro _)|refine Wz ?_|fail))
   (refine Ah (kJ _ _ (G',O',R,i+1) ⟨?_,?_,?_,?_,?_,?_,⟨wG,wo,ov,_,rfl,hG',by dsimp only;omega,by dsimp only;omega,rfl,by simp only[up,aaS,if_false,hrv];exact hrow.app _,by simp only[up,aaS,if_false,hrv];exact hsp,by simp only[up,aaS,if_false,hrv];exact hrn,hov.imp id fun⟨h,b,w,e,hb⟩=>⟨h,b,w,e,Av hb _⟩⟩⟩ ?_);(simp[up,h3]);(simp[up,h4]);(simp[up,h5]);(simp[up,h6]);(simp[up,h8]);(simp[up]);(simp[Am,hbk]))
  |true=>
   have hap1:=fun(q:Ab) (r:List AV)=>bW hrow (pre:=[.live 6 false false [s.cells],.live 6 false false [[.int .i64 hr,Ao 1 true nG (G.map iv),.int .i64 own,.int .i64 fuel,Ao 1 true nL (L.map iv),Ao 5 true nO (O.map Aa.cells)]],.live 3 false false [d.cells],.live 6 false false [[.int .i64 0,.nils,.int .i64 0,.int .i64 0,.nils,.nils]],.live 1 true wG (G'.map iv),.live 1 true false (L.map iv),.live 6 false wo [[.int .i64 hr,.slr 1 4 0 s.cons.length,.int .i64 own,.int .i64 fuel,.slr 1 5 0 s.cons.length,ov]]]) rfl q r [] (by simp;omega)
   have hhp1:=fun(q:Ab) (r:List (List AV)) (ba:Nat)=>Xu hrow (pre:=[.live 6 false false [s.cells],.live 6 false false [[.int .i64 hr,Ao 1 true nG (G.map iv),.int .i64 own,.int .i64 fuel,Ao 1 true nL (L.map iv),Ao 5 true nO (O.map Aa.cells)]],.live 3 false false [d.cells],.live 6 false false [[.int .i64 0,.nils,.int .i64 0,.int .i64 0,.nils,.nils]],.live 1 true wG (G'.map iv),.live 1 true false (L.map iv),.live 6 false wo [[.int .i64 hr,.slr 1 4 0 s.cons.length,.int .i64 own,.int .i64 fuel,.slr 1 5 0 s.cons.length,ov]]]) rfl q 1 true r ba
   simp only[anI,anY,apM,aaW,aa6,apQ,aa0,Bt,Nat.reduceAdd]at hap1 hhp1
   have hovk:∀l:Ab,((O'=[]∧ov=.nils)∨(O'≠[]∧∃b w,ov=.slr 5 (b+7) 0 O'.length∧(kl 7 rv g++l)[b]?=some (.live 5 true w (O'.map Aa.cells)))):=fun l=>by
    rcases hov with h|⟨h,b,w,e,hb⟩
    ·exact .inl h
    ·refine .inr ⟨h,b,w,e,Av ?_ l⟩
     rcases hrow with⟨_,rfl⟩|⟨b2,w2,rfl,hb2⟩
     ·exact hb
     ·have hne2:b2≠b:=fun e2=>hsp _ _ _ _ _ _ _ _ e rfl (by omega)
      simp only[kl,ae7]
      rw[alC hne2];exact hb
   cases hno:Hq s.cons x G' O'.length with
   |true=>
    have hno':=hno
    simp only[Hq,Gw,hct,ae8,afM]at hno'
    cases d1:decide (gI G' x.frm<x.amount)with
    |true=>
     (have hb:=trivial;with_reducible repeat' (first|simp only[hb,Vc.down,seval,Pv.down,h3,h4,h5,h8,h10,hd,hx,hw,Aa.cells,Ag.cells,e1,e2,e4,e5,a1,a3,a5,hct,iv,Dt,aaW,abT,abY,ab9,d1,hbk,hrv,hcv,hln,Ek,Bt,hc2,hap1,hhp1]|refine Af ?_ ?_<;>intro hb|((refine Dh (g.length) 7 ?_ ?_);(simp (discharger:=decide) only[Dc,Bq,abO,abB,Bf,Db,Dj,Df,Di,Bd,Bo,Br,aa6,aa0];kernel_rfl);intro _)|refine Wz ?_|fail))
     (refine Ah (kJ _ _ (G',O',R++[(i:Int)],i+1) ⟨?_,?_,?_,?_,?_,?_,⟨wG,wo,ov,_,rfl,hG',by dsimp only;omega,by simp;omega,rfl,by simp only[up,aaS,if_true];exact Do.blk (b:=g.length+2) (w:=false) (by simp[Ek,iv]) (by omega) (by simp),by simp only[up,aaS,if_true];(rcases hov with⟨_,rfl⟩|⟨_,b,w,rfl,hgb⟩;exact jZ.nils' _;exact Do.sep (k:=7) (Do.blk (k:=7) (n:=O'.length) (by exact hgb) rfl (by simp)) (by omega)),fun h=>absurd h (by simp),hovk _⟩⟩ ?_);(simp[up,h3]);(simp[up,h4]);(simp[up,h5]);(simp[up,h6]);(simp[up,h8]);(simp[up]);(simp[Am,hbk,hno]))
    |false=>
     cases d2:decide (IntKind.i64.wrap (ct.space-gI G' x.to)<x.amount)with
     |true=>
      (have hb:=trivial;with_reducible repeat' (first|simp only[hb,Vc.down,seval,Pv.down,h3,h4,h5,h8,h10,hd,hx,hw,Aa.cells,Ag.cells,e1,e2,e4,e5,a1,a3,a5,hct,iv,Dt,aaW,abT,abY,ab9,d1,d2,hbk,hrv,hcv,hln,Ek,Bt,hc2,hap1,hhp1]|refine Af ?_ ?_<;>intro hb|((refine Dh (g.length) 7 ?_ ?_);(simp (discharger:=decide) only[Dc,Bq,abO,abB,Bf,Db,Dj,Df,Di,Bd,Bo,Br,aa6,aa0];kernel_rfl);intro _)|refine Wz ?_|fail))
      (refine Ah (kJ _ _ (G',O',R++[(i:Int)],i+1) ⟨?_,?_,?_,?_,?_,?_,⟨wG,wo,ov,_,rfl,hG',by dsimp only;omega,by simp;omega,rfl,by simp only[up,aaS,if_true];exact Do.blk (b:=g.length+2) (w:=false) (by simp[Ek,iv]) (by omega) (by simp),by simp only[up,aaS,if_true];(rcases hov with⟨_,rfl⟩|⟨_,b,w,rfl,hgb⟩;exact jZ.nils' _;exact Do.sep (k:=7) (Do.blk (k:=7) (n:=O'.length) (by exact hgb) rfl (by simp)) (by omega)),fun h=>absurd h (by simp),hovk _⟩⟩ ?_);(simp[up,h3]);(simp[up,h4]);(simp[up,h5]);(simp[up,h6]);(simp[up,h8]);(simp[up]);(simp[Am,hbk,hno]))
     |false=>
      rw[d1,d2]at hno'
      have d3:(x.back== -1)=false:=by simpa using (by simpa using hno':_∧_).1
      have d4:decide ((50:Int)≤(O'.length:Int))=true:=by simpa using (by simpa using hno':_∧_).2
      rw[d3]at hbk1
      (have hb:=trivial;with_reducible repeat' (first|simp only[hb,Vc.down,seval,Pv.down,h3,h4,h5,h8,h10,hd,hx,hw,Aa.cells,Ag.cells,e1,e2,e4,e5,a1,a3,a5,hct,iv,Dt,aaW,abT,abY,ab9,d1,d2,hbk1,d4,hbk,hrv,hcv,hln,Ek,Bt,hc2,hap1,hhp1]|refine Af ?_ ?_<;>intro hb|((refine Dh (g.length) 7 ?_ ?_);(simp (discharger:=decide) only[Dc,Bq,abO,abB,Bf,Db,Dj,Df,Di,Bd,Bo,Br,aa6,aa0];kernel_rfl);intro _)|refine Wz ?_|fail))
      (refine Ah (kJ _ _ (G',O',R++[(i:Int)],i+1) ⟨?_,?_,?_,?_,?_,?_,⟨wG,wo,ov,_,rfl,hG',by dsimp only;omega,by simp;omega,rfl,by simp only[up,aaS,if_true];exact Do.blk (b:=g.length+2) (w:=false) (by simp[Ek,iv]) (by omega) (by simp),by simp only[up,aaS,if_true];(rcases hov with⟨_,rfl⟩|⟨_,b,w,rfl,hgb⟩;exact jZ.nils' _;exact Do.sep (k:=7) (Do.blk (k:=7) (n:=O'.length) (by exact hgb) rfl (by simp)) (by omega)),fun h=>absurd h (by simp),hovk _⟩⟩ ?_);(simp[up,h3]);(simp[up,h4]);(simp[up,h5]);(simp[up,h6]);(simp[up,h8]);(simp[up]);(simp[Am,hbk,hno]))
   |false=>
    have hno':=hno
    simp only[Hq,Gw,hct,ae8,afM,apT]at hno'
    obtain⟨⟨d1,d2⟩,d3⟩:=hno'
    have hfl:=Vs (G:=G') hok hft
    have hGl:(Ht x G').length=s.cons.length:=by rw[Gv];exact hG'
    cases c1:(x.back== -1)with
    |true=>
     rw[c1]at hbk1
     (have hb:=trivial;with_reducible repeat' (first|simp only[hb,Vc.down,seval,Pv.down,h3,h4,h5,h8,h10,hd,hx,hw,Aa.cells,Ag.cells,e1,e2,e4,e5,a1,a3,a5,hct,iv,Dt,aaW,abT,abY,ab9,d1,d2,hbk1,hbk,hrv,hcv,hln,Ek,Bt,hc2,hap1,hhp1]|refine Af ?_ ?_<;>intro hb|((refine Dh (g.length) 7 ?_ ?_);(simp (discharger:=decide) only[Dc,Bq,abO,abB,Bf,Db,Dj,Df,Di,Bd,Bo,Br,aa6,aa0];kernel_rfl);intro _)|refine Wz ?_|fail))
     rw[←hfl]
     (refine Ah (kJ _ _ (Ht x G',O',R,i+1) ⟨?_,?_,?_,?_,?_,?_,⟨true,wo,ov,_,rfl,hGl,by dsimp only;omega,by dsimp only;omega,rfl,by simp only[up,aaS,if_false,hrv];exact hrow.app _,by simp only[up,aaS,if_false,hrv];exact hsp,by simp only[up,aaS,if_false,hrv];exact hrn,hov.imp id fun⟨h,b,w,e,hb⟩=>⟨h,b,w,e,Av hb _⟩⟩⟩ ?_);(simp[up,h3]);(simp[up,h4]);(simp[up,h5]);(simp[up,h6]);(simp[up,h8]);(simp[up]);(simp[Am,hbk,hno,c1]))
    |false=>
     rw[c1]at hbk1
     have d4:decide ((50:Int)≤(O'.length:Int))=false:=by rw[c1]at d3;simpa using d3
     rcases hov with⟨rfl,rfl⟩|⟨hO',b,w,rfl,hgb⟩
     ·have d5:decide ((50:Int)≤0)=false:=rfl
      have hno0:Hq s.cons x G' 0=false:=hno
      (have hb:=trivial;with_reducible repeat' (first|simp only[hb,Vc.down,seval,Pv.down,h3,h4,h5,h8,h10,hd,hx,hw,Aa.cells,Ag.cells,e1,e2,e4,e5,a1,a3,a5,hct,iv,Dt,aaW,abT,abY,ab9,d1,d2,hbk1,d4,d5,aa0,aeM,hbk,hrv,hcv,hln,Ek,Bt,hc2,hap1,hhp1]|refine Af ?_ ?_<;>intro hb|((refine Dh (g.length) 7 ?_ ?_);(simp (discharger:=decide) only[Dc,Bq,abO,abB,Bf,Db,Dj,Df,Di,Bd,Bo,Br,aa6,aa0];kernel_rfl);intro _)|refine Wz ?_|fail))
      rw[←hfl]
      (refine Ah (kJ _ _ (Ht x G',[]++[x],R,i+1) ⟨?_,?_,?_,?_,?_,?_,⟨true,true,_,_,rfl,hGl,by simp;omega,by dsimp only;omega,rfl,by simp only[up,aaS,if_false,hrv];exact hrow.app _,by simp only[up,aaS,if_false,hrv];exact(hrow.sep (by omega)).symm,by simp only[up,aaS,if_false,hrv];exact hrn,.inr ⟨by simp,g.length+2,false,by simp,by simp[Aa.cells]⟩⟩⟩ ?_);(simp[up,h3]);(simp[up,h4]);(simp[up,h5]);(simp[up,h6]);(simp[up,h8]);(simp[up]);(simp[Am,hbk,hno0,c1]))
     ·have hbl:b<g.length:=(acK.1 hgb).1
      have hA:=Av hgb
      have hS:=Fa hbl
      have hi39:(O'.length+1≤549755813888)=True:=eq_true (by omega)
      have hrk:∀l,Do 7 1 true (R.map iv) rv (g.set b .dead++l):=fun l=>by
       have:=hrow.kl (Do.blk (k:=7) (n:=O'.length) (by exact hgb) rfl (by simp)) hsp
       simp only[kl,ae7]at this
       exact this.app l
      (have hb:=trivial;with_reducible repeat' (first|simp only[hb,Vc.down,seval,Pv.down,h3,h4,h5,h8,h10,hd,hx,hw,Aa.cells,Ag.cells,e1,e2,e4,e5,a1,a3,a5,hct,iv,Dt,aaW,abT,abY,ab9,d1,d2,hbk1,d4,hA,hS,Lr,Ge,aeZ,hi39,hbk,hrv,hcv,hln,Ek,Bt,hc2,hap1,hhp1]|refine Af ?_ ?_<;>intro hb|((refine Dh (g.length) 7 ?_ ?_);(simp (discharger:=decide) only[Dc,Bq,abO,abB,Bf,Db,Dj,Df,Di,Bd,Bo,Br,aa6,aa0];kernel_rfl);intro _)|refine Wz ?_|fail))
      rw[←hfl]
      (refine Ah (kJ _ _ (Ht x G',O'++[x],R,i+1) ⟨?_,?_,?_,?_,?_,?_,⟨true,true,_,_,rfl,hGl,by simp;omega,by dsimp only;omega,rfl,by simp only[up,aaS,if_false,hrv];exact hrk _,by simp only[up,aaS,if_false,hrv];exact(hrow.sep (by omega)).symm,by simp only[up,aaS,if_false,hrv];exact hrn,.inr ⟨by simp,g.length+2,false,by simp,by rw[Ge];simp[Aa.cells]⟩⟩⟩ ?_);(simp[up,h3]);(simp[up,h4]);(simp[up,h5]);(simp[up,h6]);(simp[up,h8]);(simp[up]);(simp[Am,hbk,hno,c1]))
 ·exact⟨by simp[up,Bw],by simp[up,Bw],by simp[up,Bw],by simp[up,Bw],by simp[up,Bw],by simp[up],⟨_,_,_,[],rfl,hG,by simp,by simp,rfl,by simp only[up,aaS,if_false,if_true];exact .inl ⟨rfl,rfl⟩,by simp only[up,aaS,if_false,if_true];exact jZ.nils _,by simp[up],.inl ⟨hO,rfl⟩⟩⟩
 ·obtain⟨rfl,h6,h8,wG,wo,ov,g,rfl,hrow,hsp,hrn,hov⟩:=hk
  generalize hr0:Am s.cons hr d.trades 0 (G,O,[])=r at *
  obtain⟨G',O',R⟩:=r
  dsimp only at *
  rcases hov with⟨hO2,rfl⟩|⟨hO2,b,w,rfl,hgb⟩<;>rcases hrow with⟨hR0,h9⟩|⟨b2,w2,h9,hgr⟩
  ·(have hb:=trivial;with_reducible repeat' (first|simp only[hb,Vc.down,seval,Pv.down,h6,h8,h9]|refine Af ?_ ?_<;>intro hb|refine fd ?_|fail))
   exact⟨wG,false,false,false,.inl ⟨hO2,af4.1 hR0,rfl,rfl⟩⟩
  ·rw[aaW]at h9
   (have hb:=trivial;with_reducible repeat' (first|simp only[hb,Vc.down,seval,Pv.down,h6,h8,h9,hgr]|refine Af ?_ ?_<;>intro hb|refine fd ?_|fail))
   exact⟨wG,false,false,w2,.inr (.inr (.inl ⟨hO2,(fun h=>by have:=hrn h;rw[h9]at this;cases this),rfl,rfl⟩))⟩
  ·(have hb:=trivial;with_reducible repeat' (first|simp only[hb,Vc.down,seval,Pv.down,h6,h8,h9,hgb]|refine Af ?_ ?_<;>intro hb|refine fd ?_|fail))
   exact⟨wG,false,w,false,.inr (.inl ⟨hO2,af4.1 hR0,rfl,rfl⟩)⟩
  ·rw[aaW]at h9
   have hne1:(b=b2)=False:=eq_false fun e=>hsp _ _ _ _ _ _ _ _ rfl h9 (by omega)
   have hne2:(b2=b)=False:=eq_false fun e=>hsp _ _ _ _ _ _ _ _ rfl h9 (by omega)
   (have hb:=trivial;with_reducible repeat' (first|simp only[hb,Vc.down,seval,Pv.down,h6,h8,h9,hgb,hgr,hne1,hne2]|refine Af ?_ ?_<;>intro hb|refine fd ?_|fail))
   exact⟨wG,false,w,w2,.inr (.inr (.inr ⟨hO2,(fun h=>by have:=hrn h;rw[h9]at this;cases this),rfl,rfl⟩))⟩
theorem ac6{s:Ac}{d:Ap}{hr own fuel:Int}{nG nL nO:Bool}{G L:List Int}{O:List Aa}(hl:s.cons.length≤1000)(hne:s.cons≠[])(hG:G.length=s.cons.length)(hL:L.length=s.cons.length)(hOl:O.length≤1000)(hd50:d.trades.length≤1000)(hto:∀t∈d.trades,t.ok s.cons.length∧t.frm≠t.to∧(t.back= -1∨0≤t.back))(hO:O≠[]):
 Ql Bi 74 [.agg s.cells,.agg [.int .i64 hr,Ao 1 true nG (G.map iv),.int .i64 own,.int .i64 fuel,Ao 1 true nL (L.map iv),Ao 5 true nO (O.map Aa.cells)],.agg d.cells] []
  (awH s.cons.length hr own fuel (Am s.cons hr d.trades 0 (G,O,[])).1 L (Am s.cons hr d.trades 0 (G,O,[])).2.1 (Am s.cons hr d.trades 0 (G,O,[])).2.2):=by
 have hl':d.trades.length≤maxLen:=by unfold maxLen;omega
 have hp0:0<s.cons.length:=alD.2 hne
 have hGn:G≠[]:=fun e=>by rw[e]at hG;simp at hG;omega
 have hLn:L≠[]:=fun e=>by rw[e]at hL;simp at hL;omega
 have hcp:=aaO (hr:=hr) (own:=own) (fuel:=fuel) (nG:=nG) (nL:=nL) (nO:=nO) (by omega) (by omega) hOl hGn hLn hO
 rw[hG,hL]at hcp
 refine Je rfl Tryz.func74 rfl rfl ?_
 simp only[Tryz.f74]
 (have hb:=trivial;with_reducible repeat' (first|simp only[hb,Vc.down,seval,Pv.down,hcp,Ap.cells]|refine Af ?_ ?_<;>intro hb|refine fd ?_|fail))
 refine Cd (Np 113 d.trades (fun i (zz:List Int × List Aa × List Int × Nat) t h=>t 3=.ptr 0 0 0∧t 4=.ptr 1 0 0∧t 5=.ptr 2 0 0∧t 6=.ptr 3 0 0∧t 8=.ptr 7 0 0∧t 10=.int .i64 i∧(∃wG wo Ob ov g,h=.live 6 false false [s.cells]::.live 6 false false [[.int .i64 hr,Ao 1 true nG (G.map iv),.int .i64 own,.int .i64 fuel,Ao 1 true nL (L.map iv),Ao 5 true nO (O.map Aa.cells)]]::.live 3 false false [d.cells]::.live 6 false false [[.int .i64 0,.nils,.int .i64 0,.int .i64 0,.nils,.nils]]::.live 1 true wG (zz.1.map iv)::.live 1 true false (L.map iv)::Ob::.live 6 false wo [[.int .i64 hr,.slr 1 4 0 s.cons.length,.int .i64 own,.int .i64 fuel,.slr 1 5 0 s.cons.length,ov]]::g∧zz.1.length=s.cons.length∧zz.2.1.length≤O.length+i∧zz.2.2.1.length≤i∧i=zz.2.2.2∧Do 8 1 true (zz.2.2.1.map iv) (t 9) g∧jZ ov (t 9)∧(zz.2.2.1=[]→t 9=.nils)∧(zz.2.1≠[]∧((ov=.slr 5 6 0 zz.2.1.length∧Ob=.live 5 true false (zz.2.1.map Aa.cells))∨(Ob=.dead∧∃b w,ov=.slr 5 (b+8) 0 zz.2.1.length∧g[b]?=some (.live 5 true w (zz.2.1.map Aa.cells))))))) (fun rest zz=>Am s.cons hr rest zz.2.2.2 (zz.1,zz.2.1,zz.2.2.1)) (fun r e t h=>e=.exit 0∧t 6=.ptr 3 0 0∧t 8=.ptr 7 0 0∧(∃wG wo Ob ov g,h=.live 6 false false [s.cells]::.live 6 false false [[.int .i64 hr,Ao 1 true nG (G.map iv),.int .i64 own,.int .i64 fuel,Ao 1 true nL (L.map iv),Ao 5 true nO (O.map Aa.cells)]]::.live 3 false false [d.cells]::.live 6 false false [[.int .i64 0,.nils,.int .i64 0,.int .i64 0,.nils,.nils]]::.live 1 true wG (r.1.map iv)::.live 1 true false (L.map iv)::Ob::.live 6 false wo [[.int .i64 hr,.slr 1 4 0 s.cons.length,.int .i64 own,.int .i64 fuel,.slr 1 5 0 s.cons.length,ov]]::g∧Do 8 1 true (r.2.2.map iv) (t 9) g∧jZ ov (t 9)∧(r.2.2=[]→t 9=.nils)∧(r.2.1≠[]∧((ov=.slr 5 6 0 r.2.1.length∧Ob=.live 5 true false (r.2.1.map Aa.cells))∨(Ob=.dead∧∃b w,ov=.slr 5 (b+8) 0 r.2.1.length∧g[b]?=some (.live 5 true w (r.2.1.map Aa.cells))))))) ?_ ?_ (G,O,[],0) _ _ ?_) (fun e t h hk=>?_)
 ·rintro⟨G',O',R,k⟩ t h Q' kQ ⟨h3,h4,h5,h6,h8,h10,⟨wG,wo,Ob,ov,g,rfl,hG',hOl',hRl,rfl,hrow,hsp,hrn,hov⟩⟩
  try dsimp only at *
  (have hb:=trivial;with_reducible repeat' (first|simp only[hb,Vc.down,seval,Pv.down,h3,h4,h5,h6,h8,h10,aeH,decide_false,aaW]|refine Af ?_ ?_<;>intro hb|refine fd ?_|fail))
  exact kQ _ _ _ ⟨rfl,by simp[up,h6],by simp[up,h8],wG,wo,Ob,ov,g,rfl,by simpa [up,Am]using hrow,by simpa [up]using hsp,by simpa [up,Am]using hrn,by simpa [Am]using hov⟩
 ·rintro x rest i ⟨G',O',R,k⟩ t h J Q' kJ kQ hx hi ⟨h3,h4,h5,h6,h8,h10,⟨wG,wo,Ob,ov,g,rfl,hG',hOl',hRl,rfl,hrow,hsp,hrn,hov⟩⟩
  have hd:decide ((i:Int)<(d.trades.length:Int))=true:=decide_eq_true (by omega)
  have hw:=Ai hi hl'
  try dsimp only at *
  obtain⟨⟨⟨f0,f1⟩,k0,k1⟩,hft,hbk0⟩:=hto x (acZ hx)
  have hok:x.ok s.cons.length:=⟨⟨f0,f1⟩,k0,k1⟩
  have e1:(0≤x.to)=True:=eq_true k0
  have e2:(x.to<(s.cons.length:Int))=True:=eq_true (by omega)
  have e4:(0≤x.frm)=True:=eq_true f0
  have e5:(x.frm<(s.cons.length:Int))=True:=eq_true (by omega)
  obtain⟨ct,hct⟩:∃c,s.cons[x.to.toNat]?=some c:=⟨_,acF (by omega)⟩
  have a1:G'[x.to.toNat]?=some (gI G' x.to):=Ff (by omega)
  have a3:G'[x.frm.toNat]?=some (gI G' x.frm):=Ff (by omega)
  have a5:∀v,(sI G' x.frm v)[x.to.toNat]?=some (gI (sI G' x.frm v) x.to):=fun v=>Ff (by rw[Bg];omega)
  have hbk1:decide (0≤x.back)= !(x.back== -1):=by
   rw[alF]
   simp only[decide_eq_true_eq,alG,beq_eq_false_iff_ne]
   omega
  have hln:ln Tryz.prog 46 (some ov)=some (.ret (.int .i64 O'.length),[]):=by
   rcases hov with⟨_,⟨rfl,_⟩|⟨_,b,w,rfl,_⟩⟩<;>simp[Ev.ln,jJ,Tryz.underlying46,r1]
  have hcv:acells ov=[ov]:=by
   rcases hov with⟨_,⟨rfl,_⟩|⟨_,b,w,rfl,_⟩⟩<;>rfl
  obtain⟨rv,hrv⟩:∃v,v=t 9:=⟨_,rfl⟩
  rw[←hrv]at hrow hsp hrn
  have hc2:=Do.cell hrow
  replace hrv:=hrv.symm
  cases hbk:(x.hour==hr)with
  |false=>
   (have hb:=trivial;with_reducible repeat' (first|simp only[hb,Vc.down,seval,Pv.down,hbk,hrv,h3,h4,h5,h8,h10,hd,hx,hw,Aa.cells,Ag.cells,e1,e2,e4,e5,a1,a3,a5,hct,iv,Dt,aaW,abT,abY,ab9]|refine Af ?_ ?_<;>intro hb|((refine Dh (g.length) 7 ?_ ?_);(simp (discharger:=decide) only[Dc,Bq,abO,abB,Bf,Db,Dj,Df,Di,Bd,Bo,Br,aa6,aa0];kernel_rfl);intro _)|refine Wz ?_|fail))
   (refine Ah (kJ _ _ (G',O',R,i+1) ⟨?_,?_,?_,?_,?_,?_,⟨wG,wo,Ob,ov,_,rfl,hG',by dsimp only;omega,by dsimp only;omega,rfl,by simp only[up,aaS,if_false,hrv];exact hrow.app _,by simp only[up,aaS,if_false,hrv];exact hsp,by simp only[up,aaS,if_false,hrv];exact hrn,⟨hov.1,hov.2.imp id fun⟨h,b,w,e,hb⟩=>⟨h,b,w,e,Av hb _⟩⟩⟩⟩ ?_);(simp[up,h3]);(simp[up,h4]);(simp[up,h5]);(simp[up,h6]);(simp[up,h8]);(simp[up]);(simp[Am,hbk]))
  |true=>
   have hap1:=fun(q:Ab) (r:List AV)=>bW hrow (pre:=[.live 6 false false [s.cells],.live 6 false false [[.int .i64 hr,Ao 1 true nG (G.map iv),.int .i64 own,.int .i64 fuel,Ao 1 true nL (L.map iv),Ao 5 true nO (O.map Aa.cells)]],.live 3 false false [d.cells],.live 6 false false [[.int .i64 0,.nils,.int .i64 0,.int .i64 0,.nils,.nils]],.live 1 true wG (G'.map iv),.live 1 true false (L.map iv),Ob,.live 6 false wo [[.int .i64 hr,.slr 1 4 0 s.cons.length,.int .i64 own,.int .i64 fuel,.slr 1 5 0 s.cons.length,ov]]]) rfl q r [] (by simp;omega)
   have hhp1:=fun(q:Ab) (r:List (List AV)) (ba:Nat)=>Xu hrow (pre:=[.live 6 false false [s.cells],.live 6 false false [[.int .i64 hr,Ao 1 true nG (G.map iv),.int .i64 own,.int .i64 fuel,Ao 1 true nL (L.map iv),Ao 5 true nO (O.map Aa.cells)]],.live 3 false false [d.cells],.live 6 false false [[.int .i64 0,.nils,.int .i64 0,.int .i64 0,.nils,.nils]],.live 1 true wG (G'.map iv),.live 1 true false (L.map iv),Ob,.live 6 false wo [[.int .i64 hr,.slr 1 4 0 s.cons.length,.int .i64 own,.int .i64 fuel,.slr 1 5 0 s.cons.length,ov]]]) rfl q 1 true r ba
   simp only[anI,anY,apM,aaW,aa6,apQ,aa0,Bt,Nat.reduceAdd]at hap1 hhp1
   have hovk:∀l:Ab,(O'≠[]∧((ov=.slr 5 6 0 O'.length∧Ob=.live 5 true false (O'.map Aa.cells))∨(Ob=.dead∧∃b w,ov=.slr 5 (b+8) 0 O'.length∧(kl 8 rv g++l)[b]?=some (.live 5 true w (O'.map Aa.cells))))):=fun l=>by
    rcases hov with⟨hO',h|⟨h,b,w,e,hb⟩⟩
    ·exact⟨hO',.inl h⟩
    ·refine⟨hO',.inr ⟨h,b,w,e,Av ?_ l⟩⟩
     rcases hrow with⟨_,rfl⟩|⟨b2,w2,rfl,hb2⟩
     ·exact hb
     ·have hne2:b2≠b:=fun e2=>hsp _ _ _ _ _ _ _ _ e rfl (by omega)
      simp only[kl,ae7]
      rw[alC hne2];exact hb
   cases hno:Hq s.cons x G' O'.length with
   |true=>
    have hno':=hno
    simp only[Hq,Gw,hct,ae8,afM]at hno'
    cases d1:decide (gI G' x.frm<x.amount)with
    |true=>
     (have hb:=trivial;with_reducible repeat' (first|simp only[hb,Vc.down,seval,Pv.down,h3,h4,h5,h8,h10,hd,hx,hw,Aa.cells,Ag.cells,e1,e2,e4,e5,a1,a3,a5,hct,iv,Dt,aaW,abT,abY,ab9,d1,hbk,hrv,hcv,hln,Ek,Bt,hc2,hap1,hhp1]|refine Af ?_ ?_<;>intro hb|((refine Dh (g.length) 7 ?_ ?_);(simp (discharger:=decide) only[Dc,Bq,abO,abB,Bf,Db,Dj,Df,Di,Bd,Bo,Br,aa6,aa0];kernel_rfl);intro _)|refine Wz ?_|fail))
     (refine Ah (kJ _ _ (G',O',R++[(i:Int)],i+1) ⟨?_,?_,?_,?_,?_,?_,⟨wG,wo,Ob,ov,_,rfl,hG',by dsimp only;omega,by simp;omega,rfl,by simp only[up,aaS,if_true];exact Do.blk (b:=g.length+2) (w:=false) (by simp[Ek,iv]) (by omega) (by simp),by simp only[up,aaS,if_true];(rcases hov with⟨_,⟨rfl,_⟩|⟨_,b,w,rfl,hgb⟩⟩;(intro a1 b1 r1 n1 a2 b2 r2 n2 u1 u2;cases u1;cases u2;omega);exact Do.sep (k:=8) (Do.blk (k:=8) (n:=O'.length) (by exact hgb) rfl (by simp)) (by omega)),fun h=>absurd h (by simp),hovk _⟩⟩ ?_);(simp[up,h3]);(simp[up,h4]);(simp[up,h5]);(simp[up,h6]);(simp[up,h8]);(simp[up]);(simp[Am,hbk,hno]))
    |false=>
     cases d2:decide (IntKind.i64.wrap (ct.space-gI G' x.to)<x.amount)with
     |true=>
      (have hb:=trivial;with_reducible repeat' (first|simp only[hb,Vc.down,seval,Pv.down,h3,h4,h5,h8,h10,hd,hx,hw,Aa.cells,Ag.cells,e1,e2,e4,e5,a1,a3,a5,hct,iv,Dt,aaW,abT,abY,ab9,d1,d2,hbk,hrv,hcv,hln,Ek,Bt,hc2,hap1,hhp1]|refine Af ?_ ?_<;>intro hb|((refine Dh (g.length) 7 ?_ ?_);(simp (discharger:=decide) only[Dc,Bq,abO,abB,Bf,Db,Dj,Df,Di,Bd,Bo,Br,aa6,aa0];kernel_rfl);intro _)|refine Wz ?_|fail))
      (refine Ah (kJ _ _ (G',O',R++[(i:Int)],i+1) ⟨?_,?_,?_,?_,?_,?_,⟨wG,wo,Ob,ov,_,rfl,hG',by dsimp only;omega,by simp;omega,rfl,by simp only[up,aaS,if_true];exact Do.blk (b:=g.length+2) (w:=false) (by simp[Ek,iv]) (by omega) (by simp),by simp only[up,aaS,if_true];(rcases hov with⟨_,⟨rfl,_⟩|⟨_,b,w,rfl,hgb⟩⟩;(intro a1 b1 r1 n1 a2 b2 r2 n2 u1 u2;cases u1;cases u2;omega);exact Do.sep (k:=8) (Do.blk (k:=8) (n:=O'.length) (by exact hgb) rfl (by simp)) (by omega)),fun h=>absurd h (by simp),hovk _⟩⟩ ?_);(simp[up,h3]);(simp[up,h4]);(simp[up,h5]);(simp[up,h6]);(simp[up,h8]);(simp[up]);(simp[Am,hbk,hno]))
     |false=>
      rw[d1,d2]at hno'
      have d3:(x.back== -1)=false:=by simpa using (by simpa using hno':_∧_).1
      have d4:decide ((50:Int)≤(O'.length:Int))=true:=by simpa using (by simpa using hno':_∧_).2
      rw[d3]at hbk1
      (have hb:=trivial;with_reducible repeat' (first|simp only[hb,Vc.down,seval,Pv.down,h3,h4,h5,h8,h10,hd,hx,hw,Aa.cells,Ag.cells,e1,e2,e4,e5,a1,a3,a5,hct,iv,Dt,aaW,abT,abY,ab9,d1,d2,hbk1,d4,hbk,hrv,hcv,hln,Ek,Bt,hc2,hap1,hhp1]|refine Af ?_ ?_<;>intro hb|((refine Dh (g.length) 7 ?_ ?_);(simp (discharger:=decide) only[Dc,Bq,abO,abB,Bf,Db,Dj,Df,Di,Bd,Bo,Br,aa6,aa0];kernel_rfl);intro _)|refine Wz ?_|fail))
      (refine Ah (kJ _ _ (G',O',R++[(i:Int)],i+1) ⟨?_,?_,?_,?_,?_,?_,⟨wG,wo,Ob,ov,_,rfl,hG',by dsimp only;omega,by simp;omega,rfl,by simp only[up,aaS,if_true];exact Do.blk (b:=g.length+2) (w:=false) (by simp[Ek,iv]) (by omega) (by simp),by simp only[up,aaS,if_true];(rcases hov with⟨_,⟨rfl,_⟩|⟨_,b,w,rfl,hgb⟩⟩;(intro a1 b1 r1 n1 a2 b2 r2 n2 u1 u2;cases u1;cases u2;omega);exact Do.sep (k:=8) (Do.blk (k:=8) (n:=O'.length) (by exact hgb) rfl (by simp)) (by omega)),fun h=>absurd h (by simp),hovk _⟩⟩ ?_);(simp[up,h3]);(simp[up,h4]);(simp[up,h5]);(simp[up,h6]);(simp[up,h8]);(simp[up]);(simp[Am,hbk,hno]))
   |false=>
    have hno':=hno
    simp only[Hq,Gw,hct,ae8,afM,apT]at hno'
    obtain⟨⟨d1,d2⟩,d3⟩:=hno'
    have hfl:=Vs (G:=G') hok hft
    have hGl:(Ht x G').length=s.cons.length:=by rw[Gv];exact hG'
    cases c1:(x.back== -1)with
    |true=>
     rw[c1]at hbk1
     (have hb:=trivial;with_reducible repeat' (first|simp only[hb,Vc.down,seval,Pv.down,h3,h4,h5,h8,h10,hd,hx,hw,Aa.cells,Ag.cells,e1,e2,e4,e5,a1,a3,a5,hct,iv,Dt,aaW,abT,abY,ab9,d1,d2,hbk1,hbk,hrv,hcv,hln,Ek,Bt,hc2,hap1,hhp1]|refine Af ?_ ?_<;>intro hb|((refine Dh (g.length) 7 ?_ ?_);(simp (discharger:=decide) only[Dc,Bq,abO,abB,Bf,Db,Dj,Df,Di,Bd,Bo,Br,aa6,aa0];kernel_rfl);intro _)|refine Wz ?_|fail))
     rw[←hfl]
     (refine Ah (kJ _ _ (Ht x G',O',R,i+1) ⟨?_,?_,?_,?_,?_,?_,⟨true,wo,Ob,ov,_,rfl,hGl,by dsimp only;omega,by dsimp only;omega,rfl,by simp only[up,aaS,if_false,hrv];exact hrow.app _,by simp only[up,aaS,if_false,hrv];exact hsp,by simp only[up,aaS,if_false,hrv];exact hrn,⟨hov.1,hov.2.imp id fun⟨h,b,w,e,hb⟩=>⟨h,b,w,e,Av hb _⟩⟩⟩⟩ ?_);(simp[up,h3]);(simp[up,h4]);(simp[up,h5]);(simp[up,h6]);(simp[up,h8]);(simp[up]);(simp[Am,hbk,hno,c1]))
    |false=>
     rw[c1]at hbk1
     have d4:decide ((50:Int)≤(O'.length:Int))=false:=by rw[c1]at d3;simpa using d3
     rcases hov with⟨hO',⟨rfl,rfl⟩|⟨rfl,b,w,rfl,hgb⟩⟩
     ·have hi39:(O'.length+1≤549755813888)=True:=eq_true (by omega)
      (have hb:=trivial;with_reducible repeat' (first|simp only[hb,Vc.down,seval,Pv.down,h3,h4,h5,h8,h10,hd,hx,hw,Aa.cells,Ag.cells,e1,e2,e4,e5,a1,a3,a5,hct,iv,Dt,aaW,abT,abY,ab9,d1,d2,hbk1,d4,hi39,hbk,hrv,hcv,hln,Ek,Bt,hc2,hap1,hhp1]|refine Af ?_ ?_<;>intro hb|((refine Dh (g.length) 7 ?_ ?_);(simp (discharger:=decide) only[Dc,Bq,abO,abB,Bf,Db,Dj,Df,Di,Bd,Bo,Br,aa6,aa0];kernel_rfl);intro _)|refine Wz ?_|fail))
      rw[←hfl]
      (refine Ah (kJ _ _ (Ht x G',O'++[x],R,i+1) ⟨?_,?_,?_,?_,?_,?_,⟨true,true,_,_,_,rfl,hGl,by simp;omega,by dsimp only;omega,rfl,by simp only[up,aaS,if_false,hrv];exact hrow.app _,by simp only[up,aaS,if_false,hrv];exact(hrow.sep (by omega)).symm,by simp only[up,aaS,if_false,hrv];exact hrn,by simp,.inr ⟨rfl,g.length+2,false,by simp,by simp[Aa.cells]⟩⟩⟩ ?_);(simp[up,h3]);(simp[up,h4]);(simp[up,h5]);(simp[up,h6]);(simp[up,h8]);(simp[up]);(simp[Am,hbk,hno,c1]))
     ·have hbl:b<g.length:=(acK.1 hgb).1
      have hA:=Av hgb
      have hS:=Fa hbl
      have hi39:(O'.length+1≤549755813888)=True:=eq_true (by omega)
      have hrk:∀l,Do 8 1 true (R.map iv) rv (g.set b .dead++l):=fun l=>by
       have:=hrow.kl (Do.blk (k:=8) (n:=O'.length) (by exact hgb) rfl (by simp)) hsp
       simp only[kl,ae7]at this
       exact this.app l
      (have hb:=trivial;with_reducible repeat' (first|simp only[hb,Vc.down,seval,Pv.down,h3,h4,h5,h8,h10,hd,hx,hw,Aa.cells,Ag.cells,e1,e2,e4,e5,a1,a3,a5,hct,iv,Dt,aaW,abT,abY,ab9,d1,d2,hbk1,d4,hA,hS,Lr,Ge,aeZ,hi39,hbk,hrv,hcv,hln,Ek,Bt,hc2,hap1,hhp1]|refine Af ?_ ?_<;>intro hb|((refine Dh (g.length) 7 ?_ ?_);(simp (discharger:=decide) only[Dc,Bq,abO,abB,Bf,Db,Dj,Df,Di,Bd,Bo,Br,aa6,aa0];kernel_rfl);intro _)|refine Wz ?_|fail))
      rw[←hfl]
      (refine Ah (kJ _ _ (Ht x G',O'++[x],R,i+1) ⟨?_,?_,?_,?_,?_,?_,⟨true,true,_,_,_,rfl,hGl,by simp;omega,by dsimp only;omega,rfl,by simp only[up,aaS,if_false,hrv];exact hrk _,by simp only[up,aaS,if_false,hrv];exact(hrow.sep (by omega)).symm,by simp only[up,aaS,if_false,hrv];exact hrn,by simp,.inr ⟨rfl,g.length+2,false,by simp,by rw[Ge];simp[Aa.cells]⟩⟩⟩ ?_);(simp[up,h3]);(simp[up,h4]);(simp[up,h5]);(simp[up,h6]);(simp[up,h8]);(simp[up]);(simp[Am,hbk,hno,c1]))
 ·exact⟨by simp[up,Bw],by simp[up,Bw],by simp[up,Bw],by simp[up,Bw],by simp[up,Bw],by simp[up],⟨_,_,_,_,[],rfl,hG,by simp,by simp,rfl,by simp only[up,aaS,if_false,if_true];exact .inl ⟨rfl,rfl⟩,by simp only[up,aaS,if_false,if_true];exact jZ.nils _,by simp[up],hO,.inl ⟨rfl,rfl⟩⟩⟩
 ·obtain⟨rfl,h6,h8,wG,wo,Ob,ov,g,rfl,hrow,hsp,hrn,hov⟩:=hk
  generalize hr0:Am s.cons hr d.trades 0 (G,O,[])=r at *
  obtain⟨G',O',R⟩:=r
  dsimp only at *
  rcases hov with⟨hO2,⟨rfl,rfl⟩|⟨rfl,b,w,rfl,hgb⟩⟩<;>rcases hrow with⟨hR0,h9⟩|⟨b2,w2,h9,hgr⟩
  ·(have hb:=trivial;with_reducible repeat' (first|simp only[hb,Vc.down,seval,Pv.down,h6,h8,h9]|refine Af ?_ ?_<;>intro hb|refine fd ?_|fail))
   exact⟨wG,false,false,false,.inr (.inl ⟨hO2,af4.1 hR0,rfl,rfl⟩)⟩
  ·rw[aaW]at h9
   (have hb:=trivial;with_reducible repeat' (first|simp only[hb,Vc.down,seval,Pv.down,h6,h8,h9,hgr]|refine Af ?_ ?_<;>intro hb|refine fd ?_|fail))
   exact⟨wG,false,false,w2,.inr (.inr (.inr ⟨hO2,(fun h=>by have:=hrn h;rw[h9]at this;cases this),rfl,rfl⟩))⟩
  ·(have hb:=trivial;with_reducible repeat' (first|simp only[hb,Vc.down,seval,Pv.down,h6,h8,h9,hgb]|refine Af ?_ ?_<;>intro hb|refine fd ?_|fail))
   exact⟨wG,false,w,false,.inr (.inl ⟨hO2,af4.1 hR0,rfl,rfl⟩)⟩
  ·rw[aaW]at h9
   have hne1:(b=b2)=False:=eq_false fun e=>hsp _ _ _ _ _ _ _ _ rfl h9 (by omega)
   have hne2:(b2=b)=False:=eq_false fun e=>hsp _ _ _ _ _ _ _ _ rfl h9 (by omega)
   (have hb:=trivial;with_reducible repeat' (first|simp only[hb,Vc.down,seval,Pv.down,h6,h8,h9,hgb,hgr,hne1,hne2]|refine Af ?_ ?_<;>intro hb|refine fd ?_|fail))
   exact⟨wG,false,w,w2,.inr (.inr (.inr ⟨hO2,(fun h=>by have:=hrn h;rw[h9]at this;cases this),rfl,rfl⟩))⟩
def qV(c:Ag)(n g:Int):Int:=mX (mX (mn (mn n (Wg c g).inn) (IntKind.i64.wrap (c.space-g))) (IntKind.i64.wrap (0-(Wg c g).out))) (IntKind.i64.wrap (0-g))
def Ja(s:Ac)(d:Ap)(hr:Int)(G:List Int)(i:Nat)(c:Ag):Int:=
 if(decide (0≤Kz s.lead d.noms i hr d.noms (0,-1))&&Hw hr c.lo c.hi)=true then qV c (Xb d.noms (Kz s.lead d.noms i hr d.noms (0,-1))) (gI G i)else 0
def Hn(s:Ac)(d:Ap)(hr:Int)(G:List Int):List Ag→Nat→List Int
 | [],_=>[]
 |c::rest,i=>Ja s d hr G i c::Hn s d hr G rest (i+1)
theorem Qb(s:Ac)(d:Ap)(hr:Int)(G:List Int):∀(l:List Ag) (i:Nat),(Hn s d hr G l i).length=l.length
 | [],_=>rfl
 |c::rest,i=>by simp[Hn,Qb s d hr G rest]
theorem alJ{s:Ac}{d:Ap}{hr own fuel:Int}{nG nL nO:Bool}{G L:List Int}{O:List Aa}(hl:s.cons.length≤1000)(hne:s.cons≠[])(hn:d.noms.length≤1000)(hG:G.length=s.cons.length)(hc:∀c∈s.cons,yA c)(hq:∀(i:Nat) c,s.cons[i]?=some c→(Ox c).fill≤cY c (gI G i)):
 Bi.call (.fn 76) [.agg s.cells,.agg [.int .i64 hr,Ao 1 true nG (G.map iv),.int .i64 own,.int .i64 fuel,Ao 1 true nL (L.map iv),Ao 5 true nO (O.map Aa.cells)],.agg d.cells] []=
  some (.ret (.slr 1 0 0 s.cons.length),[.live 1 true false ((Hn s d hr G s.cons 0).map iv)]):=by
 have hl':s.cons.length≤maxLen:=by unfold maxLen;omega
 (refine ce Tryz.func76 ?_;simp only[Tryz.f76];(have hb:=trivial;with_reducible repeat' (first|simp only[hb,Vc.down,seval,jP.down,Ap.cells,aaW]|refine Af ?_ ?_<;>intro hb|refine fd ?_|fail)))
 refine Cd (Np 80 s.cons (fun i (zz:List Int × Nat) t h=>t 3=.ptr 0 0 0∧t 4=.ptr 1 0 0∧t 5=.ptr 2 0 0∧t 8=.int .i64 i∧(h[0]?=some (.live 6 false false [s.cells])∧h[1]?=some (.live 6 false false [[.int .i64 hr,Ao 1 true nG (G.map iv),.int .i64 own,.int .i64 fuel,Ao 1 true nL (L.map iv),Ao 5 true nO (O.map Aa.cells)]])∧h[2]?=some (.live 3 false false [d.cells])∧zz.1.length=i∧i=zz.2∧((i=0∧t 7=.nils)∨(0<i∧∃b,3≤b∧t 7=.slr 1 b 0 i∧h[b]?=some (.live 1 true false (zz.1.map iv)))))) (fun rest zz=>zz.1++Hn s d hr G rest zz.2) (fun r e t h=>e=.exit 0∧∃b,t 7=.slr 1 b 0 s.cons.length∧h[b]?=some (.live 1 true false (r.map iv))) ?_ ?_ ([],0) _ _ ?_) (fun e t h hk=>?_)
 ·rintro⟨p,k⟩ t h Q' kQ ⟨h3,h4,h5,h8,⟨hS,hX,hD,hp,rfl,hc7⟩⟩
  try dsimp only at *
  (have hb:=trivial;with_reducible repeat' (first|simp only[hb,Vc.down,seval,jP.down,h3,h4,h5,h8,aeH,decide_false,hS,aaW]|refine Af ?_ ?_<;>intro hb|refine fd ?_|fail))
  rcases hc7 with⟨hz,_⟩|⟨_,b,hb3,h7,hbb⟩
  ·exact(hne (ai5.1 hz)).elim
  ·exact kQ _ _ _ ⟨rfl,b,by simp[up,h7],by simpa [Hn]using hbb⟩
 ·rintro x rest i ⟨p,k⟩ t h J Q' kJ kQ hx hi ⟨h3,h4,h5,h8,⟨hS,hX,hD,hp,rfl,hc7⟩⟩
  have hd:decide ((i:Int)<(s.cons.length:Int))=true:=decide_eq_true (by omega)
  have hw:=Ai hi hl'
  try dsimp only at *
  obtain⟨hz,hr0,hrl⟩:=hc x (acZ hx)
  have l0:3≤h.length:=by have:=(acK.1 hD).1;omega
  have s0:La h.length 3 h.length=1000:=by unfold La;rw[if_neg (by omega)];omega
  have s1:La h.length 3 (h.length+1)=1001:=by unfold La;rw[if_neg (by omega)];omega
  have s2:La h.length 3 (h.length+2)=1002:=by unfold La;rw[if_neg (by omega)];omega
  have hct:=ahM s d.noms d.nn i hr (by unfold maxLen;omega)
  have hac:=mI x x.firm hr
  have r00:x.rates[0]?=some (Ox x):=by unfold Ox;rw[acF (alD.2 hr0)];rfl
  have hrt:=aqF x (gI G i) (Ox x) r00 (hq i x hx) hrl hz
  rw[←adB _ _ _ r00]at hrt
  have hiG:((i:Int)<(G.length:Int))=True:=eq_true (by omega)
  have aG:G[i]?=some (gI G i):=by have:=Ff (l:=G) (i:=(i:Int)) (by simp;omega);simpa using this
  have hSA:=Av hS
  have hXA:=Av hX
  have hDA:=Av hD
  cases hk:decide (0≤Kz s.lead d.noms i hr d.noms (0,-1))with
  |false=>
   have hw0:Ja s d hr G i x=0:=by simp[Ja,hk]
   rcases hc7 with⟨rfl,h7⟩|⟨h0,b,hb3,h7,hbb⟩
   ·simp only[aeM]at *
    (have hb:=trivial;with_reducible repeat' (first|simp only[hb,Vc.down,seval,jP.down,h3,h4,h5,h7,h8,hd,hx,hw,hS,hX,hD,hSA,hXA,hDA,hct,hk,iv,Ag.cells,aaW]|refine Af ?_ ?_<;>intro hb|refine fd ?_|fail))
    (refine Ah (kJ _ _ (p++[Ja s d hr G 0 x],1) ⟨?_,?_,?_,?_,⟨hSA _,hXA _,hDA _,by simp[hp],rfl,.inr ⟨by omega,h.length+2,by omega,by simp[up],by rw[Jf,hw0];simp[iv,ai5.1 hp]⟩⟩⟩ ?_);(simp[up,h3]);(simp[up,h4]);(simp[up,h5]);(simp[up]);(simp[Hn]))
   ·have hbl:b<h.length:=(acK.1 hbb).1
    have hAb:=Av hbb
    have hSb:=Fa hbl
    have hi39:(i+1≤549755813888)=True:=eq_true (by omega)
    (have hb:=trivial;with_reducible repeat' (first|simp only[hb,Vc.down,seval,jP.down,h3,h4,h5,h7,h8,hd,hx,hw,hS,hX,hD,hSA,hXA,hDA,hct,hk,iv,Ag.cells,aaW,hAb,hSb,Lr,Ge,aeZ,hi39,hp]|refine Af ?_ ?_<;>intro hb|refine fd ?_|fail))
    (refine Ah (kJ _ _ (p++[Ja s d hr G i x],i+1) ⟨?_,?_,?_,?_,⟨Nx _ (by omega) hS _,Nx _ (by omega) hX _,Nx _ (by omega) hD _,by simp[hp],rfl,.inr ⟨by omega,h.length+2,by omega,by simp[up],by rw[Ge,hw0];simp[iv]⟩⟩⟩ ?_);(simp[up,h3]);(simp[up,h4]);(simp[up,h5]);(simp[up]);(simp[Hn]))
  |true=>
   cases hact:Hw hr x.lo x.hi with
   |false=>
    have hw0:Ja s d hr G i x=0:=by simp[Ja,hact]
    rw[hact]at hac
    rcases hc7 with⟨rfl,h7⟩|⟨h0,b,hb3,h7,hbb⟩
    ·simp only[aeM]at *
     (have hb:=trivial;with_reducible repeat' (first|simp only[hb,Vc.down,seval,jP.down,h3,h4,h5,h7,h8,hd,hx,hw,hS,hX,hD,hSA,hXA,hDA,hct,hk,hac,iv,Ag.cells,aaW]|refine Af ?_ ?_<;>intro hb|refine fd ?_|fail))
     (refine Ah (kJ _ _ (p++[Ja s d hr G 0 x],1) ⟨?_,?_,?_,?_,⟨hSA _,hXA _,hDA _,by simp[hp],rfl,.inr ⟨by omega,h.length+2,by omega,by simp[up],by rw[Jf,hw0];simp[iv,ai5.1 hp]⟩⟩⟩ ?_);(simp[up,h3]);(simp[up,h4]);(simp[up,h5]);(simp[up]);(simp[Hn]))
    ·have hbl:b<h.length:=(acK.1 hbb).1
     have hAb:=Av hbb
     have hSb:=Fa hbl
     have hi39:(i+1≤549755813888)=True:=eq_true (by omega)
     (have hb:=trivial;with_reducible repeat' (first|simp only[hb,Vc.down,seval,jP.down,h3,h4,h5,h7,h8,hd,hx,hw,hS,hX,hD,hSA,hXA,hDA,hct,hk,hac,iv,Ag.cells,aaW,hAb,hSb,Lr,Ge,aeZ,hi39,hp]|refine Af ?_ ?_<;>intro hb|refine fd ?_|fail))
     (refine Ah (kJ _ _ (p++[Ja s d hr G i x],i+1) ⟨?_,?_,?_,?_,⟨Nx _ (by omega) hS _,Nx _ (by omega) hX _,Nx _ (by omega) hD _,by simp[hp],rfl,.inr ⟨by omega,h.length+2,by omega,by simp[up],by rw[Ge,hw0];simp[iv]⟩⟩⟩ ?_);(simp[up,h3]);(simp[up,h4]);(simp[up,h5]);(simp[up]);(simp[Hn]))
   |true=>
    rw[hact]at hac
    obtain⟨hk0,nk,hnk⟩:=nV (lead:=s.lead) (l:=d.noms) (c:=i) (h:=hr) (by have:=of_decide_eq_true hk;omega)
    have hk0':(0≤Kz s.lead d.noms i hr d.noms (0,-1))=True:=eq_true hk0
    have hwv:Ja s d hr G i x=qV x nk.amount (gI G i):=by simp[Ja,hact,hk0,Xb,hnk]
    rcases hc7 with⟨rfl,h7⟩|⟨h0,b,hb3,h7,hbb⟩
    ·simp only[aeM]at *
     (have hb:=trivial;with_reducible repeat' (first|simp only[hb,Vc.down,seval,jP.down,h3,h4,h5,h7,h8,hd,hx,hw,hS,hX,hD,hSA,hXA,hDA,hct,hk,hk0',hnk,hac,hrt,aG,hiG,iv,Ag.cells,Gj.cells,Bh.cells,aaW]|refine Af ?_ ?_<;>intro hb|((refine Dh (h.length) 3 ?_ ?_);(simp (discharger:=decide) only[Dc,Bq,abO,abB,Bf,Db,Dj,Df,Di,Bd,Bo,Br,aa6,aa0,s0,s1,s2];kernel_rfl);intro _)|refine Wz ?_|fail))
     (refine Ah (kJ _ _ (p++[Ja s d hr G 0 x],1) ⟨?_,?_,?_,?_,⟨hSA _,hXA _,hDA _,by simp[hp],rfl,.inr ⟨by omega,h.length+3,by omega,by simp[up],by rw[Jf,hwv,ai5.1 hp];rfl⟩⟩⟩ ?_);(simp[up,h3]);(simp[up,h4]);(simp[up,h5]);(simp[up]);(simp[Hn]))
    ·have hbl:b<h.length:=(acK.1 hbb).1
     have hAb:=Av hbb
     have hSb:=Fa hbl
     have hi39:(i+1≤549755813888)=True:=eq_true (by omega)
     (have hb:=trivial;with_reducible repeat' (first|simp only[hb,Vc.down,seval,jP.down,h3,h4,h5,h7,h8,hd,hx,hw,hS,hX,hD,hSA,hXA,hDA,hct,hk,hk0',hnk,hac,hrt,aG,hiG,iv,Ag.cells,Gj.cells,Bh.cells,aaW,hAb,hSb,Lr,Ge,aeZ,hi39,hp]|refine Af ?_ ?_<;>intro hb|((refine Dh (h.length) 3 ?_ ?_);(simp (discharger:=decide) only[Dc,Bq,abO,abB,Bf,Db,Dj,Df,Di,Bd,Bo,Br,aa6,aa0,s0,s1,s2];kernel_rfl);intro _)|refine Wz ?_|fail))
     (refine Ah (kJ _ _ (p++[Ja s d hr G i x],i+1) ⟨?_,?_,?_,?_,⟨Nx _ (by omega) hS _,Nx _ (by omega) hX _,Nx _ (by omega) hD _,by simp[hp],rfl,.inr ⟨by omega,h.length+3,by omega,by simp[up],by rw[Ge,hwv,List.map_append];rfl⟩⟩⟩ ?_);(simp[up,h3]);(simp[up,h4]);(simp[up,h5]);(simp[up]);(simp[Hn]))
 ·exact⟨by simp[up,Bw],by simp[up,Bw],by simp[up,Bw],by simp[up],⟨rfl,rfl,rfl,rfl,rfl,.inl ⟨rfl,by simp[up]⟩⟩⟩
 ·obtain⟨rfl,b,h7,hbb⟩:=hk
  (have hb:=trivial;with_reducible repeat' (first|simp only[hb,Vc.down,seval,jP.down,h7,hbb]|refine Af ?_ ?_<;>intro hb|refine fd ?_|fail))
def oL(l:List Ag)(i:Nat):Ag:=(l[i]?).getD ⟨false,0,0,0,false,[],0,0,0,0,0,0⟩
def Hu(f:Int):Int:=mX 0 f
def Kx(f:Int):Int:=mX 0 (IntKind.i64.wrap (0-f))
def Oq(s:Ac)(f:Int):Int:=IntKind.i64.wrap ((IntKind.i64.wrap (Hu f*s.fuel)).tdiv 1000)
def yT(s:Ac)(f g:Int):Int:=IntKind.i64.wrap (IntKind.i64.wrap (IntKind.i64.wrap (g+Hu f)-Oq s f)-Kx f)
def aeX(c:Ag)(f b:Int):Int:=IntKind.i64.wrap (IntKind.i64.wrap (IntKind.i64.wrap (b+c.fixed)+IntKind.i64.wrap (c.inn*Hu f))+IntKind.i64.wrap (c.out*Kx f))
def auL(c:Ag)(w a b:Int):Int:=IntKind.i64.wrap (b-IntKind.i64.wrap (c.cut*mX (IntKind.i64.wrap (w-a)) (IntKind.i64.wrap (a-w))))
def mJ(c:Ag)(hr f w a b:Int):Int:=if c.firm=true then auL c w a (if Hw hr c.lo c.hi=true then aeX c f b else b)else(if Hw hr c.lo c.hi=true then aeX c f b else b)
def Xs(s:Ac)(hr:Int)(W A:List Int):List Int→Nat→List Int × Int × List Int→List Int × Int × List Int
 | [],_,a=>a
 |f::rest,i,(G,fu,L)=>Xs s hr W A rest (i+1) (sI G i (yT s f (gI G i)),IntKind.i64.wrap (fu+Oq s f),sI L i (mJ (oL s.cons i) hr f (gI W i) (gI A i) (gI L i)))
def RG(s:Ac)(hr:Int)(G L:List Int)(O:List Aa):=Uh s.cons hr O (G,L,[])
def RT(s:Ac)(d:Ap)(hr:Int)(G L:List Int)(O:List Aa):=Am s.cons hr d.trades 0 ((RG s hr G L O).1,(RG s hr G L O).2.2,[])
def RW(s:Ac)(d:Ap)(hr:Int)(G L:List Int)(O:List Aa):=Hn s d hr (RT s d hr G L O).1 s.cons 0
def RA(s:Ac)(d:Ap)(hr:Int)(x:Bc)(G L:List Int)(O:List Aa):=Eu Gk s.cons (RW s d hr G L O) x.inn x.out
def RF(x:Bc)(A:List Int):List Int:=adV Ti (Bl (mn x.flowIn (Ar (A.map Bm) 0)) (A.map Bm)) (Bl (mn x.flowOut (Ar (A.map Bz) 0)) (A.map Bz))
def jQ(x:Bc)(A:List Int)(own:Int):Int:=IntKind.i64.wrap (IntKind.i64.wrap (IntKind.i64.wrap (IntKind.i64.wrap (own+x.flowIn)-mn x.flowIn (Ar (A.map Bm) 0))-x.flowOut)+mn x.flowOut (Ar (A.map Bz) 0))
structure aAZ(s:Ac)(d:Ap)(hr:Int)(x:Bc)(G L:List Int)(O:List Aa):Prop extends cX s d hr x O where
 flat:∀t∈d.trades,t.frm≠t.to∧(t.back= -1∨0≤t.back)
 fill:∀(i:Nat) c,s.cons[i]?=some c→(Ox c).fill≤cY c (gI (RT s d hr G L O).1 i)
 left:(RG s hr G L O).2.2.length≤1000
theorem aaM{hr own fuel:Int}(a b c:Bool):
 Bi.call (.fn 115) [.agg [.int .i64 hr,Ao 1 true a [],.int .i64 own,.int .i64 fuel,Ao 1 true b [],Ao 5 true c []]] []=some (.ret (.agg [.int .i64 hr,.nils,.int .i64 own,.int .i64 fuel,.nils,.nils]),[]):=by
 cases a<;>cases b<;>cases c<;>((refine ce Tryz.func115 ?_;simp only[Tryz.f115];(have hb:=trivial;with_reducible repeat' (first|simp only[hb,Vc.down,seval,abJ.down,Gi,An,aa0]|refine Af ?_ ?_<;>intro hb|refine fd ?_|fail))))
theorem sU{s:Ac}{hr own fuel:Int}(a b c:Bool):
 Ql Bi 75 [.agg s.cells,.agg [.int .i64 hr,Ao 1 true a [],.int .i64 own,.int .i64 fuel,Ao 1 true b [],Ao 5 true c []]] []
  fun o h'=>o=.ret (.agg [.int .i64 hr,.nils,.int .i64 own,.int .i64 fuel,.nils,.nils])∧h'=[]:=by
 have c1:=aaM (hr:=hr) (own:=own) (fuel:=fuel) a b c
 refine Je rfl Tryz.func75 rfl rfl ?_
 simp only[Tryz.f75]
 (have hb:=trivial;with_reducible repeat' (first|simp only[hb,Vc.down,seval,dR.down,c1,aa0]|refine Af ?_ ?_<;>intro hb|refine fd ?_|fail))
 refine Cd (Np 127 ([]:List Aa) (fun i (zz:Unit) t h=>t 2=.ptr 0 0 0∧t 3=.ptr 1 0 0∧t 4=.ptr 2 0 0∧t 5=.ptr 3 0 0∧t 6=.int .i64 i∧(∃g,h=.live 6 false false [s.cells]::.live 6 false false [[.int .i64 hr,Ao 1 true a [],.int .i64 own,.int .i64 fuel,Ao 1 true b [],Ao 5 true c []]]::.live 6 false false [[.int .i64 0,.nils,.int .i64 0,.int .i64 0,.nils,.nils]]::.live 6 false true [[.int .i64 hr,.nils,.int .i64 own,.int .i64 fuel,.nils,.nils]]::g)) (fun rest zz=>()) (fun r e t h=>e=.exit 0∧t 4=.ptr 2 0 0∧t 5=.ptr 3 0 0∧(∃g,h=.live 6 false false [s.cells]::.live 6 false false [[.int .i64 hr,Ao 1 true a [],.int .i64 own,.int .i64 fuel,Ao 1 true b [],Ao 5 true c []]]::.live 6 false false [[.int .i64 0,.nils,.int .i64 0,.int .i64 0,.nils,.nils]]::.live 6 false true [[.int .i64 hr,.nils,.int .i64 own,.int .i64 fuel,.nils,.nils]]::g)) ?_ ?_ () _ _ ?_) (fun e t h hk=>?_)
 ·rintro _ t h Q' kQ ⟨h2,h3,h4,h5,h6,⟨g,rfl⟩⟩
  (have hb:=trivial;with_reducible repeat' (first|simp only[hb,Vc.down,seval,dR.down,h2,h3,h4,h5,h6,aeH,decide_false,aa0,aeM]|refine Af ?_ ?_<;>intro hb|refine fd ?_|fail))
  exact kQ _ _ _ ⟨rfl,by simp[up,h4],by simp[up,h5],g,rfl⟩
 ·rintro x rest i _ t h J Q' kJ kQ hx hi ⟨h2,h3,h4,h5,h6,⟨g,rfl⟩⟩
  have hd:decide ((i:Int)<(([]:List Aa).length:Int))=true:=decide_eq_true (by omega)
  have hw:=Ai hi (by simp[maxLen])
  cases hx
 ·exact⟨by simp[up,Bw],by simp[up,Bw],by simp[up,Bw],by simp[up,Bw],by simp[up],⟨[],rfl⟩⟩
 ·obtain⟨rfl,h4,h5,g,rfl⟩:=hk
  (have hb:=trivial;with_reducible repeat' (first|simp only[hb,Vc.down,seval,dR.down,h4,h5]|refine Af ?_ ?_<;>intro hb|refine fd ?_|fail))
  all_goals exact⟨rfl,rfl⟩
theorem adO{s:Ac}{d:Ap}(hT:d.trades=[]){hr own fuel:Int}:
 Ql Bi 74 [.agg s.cells,.agg [.int .i64 hr,.nils,.int .i64 own,.int .i64 fuel,.nils,.nils],.agg d.cells] []
  fun o h'=>o=.ret (.tup [.agg [.int .i64 hr,.nils,.int .i64 own,.int .i64 fuel,.nils,.nils],.nils])∧h'=[]:=by
 have c1:=aaM (hr:=hr) (own:=own) (fuel:=fuel) false false false
 simp only[Gi]at c1
 refine Je rfl Tryz.func74 rfl rfl ?_
 simp only[Tryz.f74]
 (have hb:=trivial;with_reducible repeat' (first|simp only[hb,Vc.down,seval,Pv.down,c1,aa0]|refine Af ?_ ?_<;>intro hb|refine fd ?_|fail))
 refine Cd (Np 113 d.trades (fun i (zz:Unit) t h=>t 3=.ptr 0 0 0∧t 4=.ptr 1 0 0∧t 5=.ptr 2 0 0∧t 6=.ptr 3 0 0∧t 8=.ptr 4 0 0∧t 9=.nils∧t 10=.int .i64 i∧(∃g,h=.live 6 false false [s.cells]::.live 6 false false [[.int .i64 hr,.nils,.int .i64 own,.int .i64 fuel,.nils,.nils]]::.live 3 false false [d.cells]::.live 6 false false [[.int .i64 0,.nils,.int .i64 0,.int .i64 0,.nils,.nils]]::.live 6 false true [[.int .i64 hr,.nils,.int .i64 own,.int .i64 fuel,.nils,.nils]]::g)) (fun rest zz=>()) (fun r e t h=>e=.exit 0∧t 6=.ptr 3 0 0∧t 8=.ptr 4 0 0∧t 9=.nils∧(∃g,h=.live 6 false false [s.cells]::.live 6 false false [[.int .i64 hr,.nils,.int .i64 own,.int .i64 fuel,.nils,.nils]]::.live 3 false false [d.cells]::.live 6 false false [[.int .i64 0,.nils,.int .i64 0,.int .i64 0,.nils,.nils]]::.live 6 false true [[.int .i64 hr,.nils,.int .i64 own,.int .i64 fuel,.nils,.nils]]::g)) ?_ ?_ () _ _ ?_) (fun e t h hk=>?_)
 ·rintro _ t h Q' kQ ⟨h3,h4,h5,h6,h8,h9,h10,⟨g,rfl⟩⟩
  (have hb:=trivial;with_reducible repeat' (first|simp only[hb,Vc.down,seval,Pv.down,h3,h4,h5,h6,h8,h9,h10,aeH,decide_false]|refine Af ?_ ?_<;>intro hb|refine fd ?_|fail))
  exact kQ _ _ _ ⟨rfl,by simp[up,h6],by simp[up,h8],by simp[up,h9],g,rfl⟩
 ·rintro x rest i _ t h J Q' kJ kQ hx hi ⟨h3,h4,h5,h6,h8,h9,h10,⟨g,rfl⟩⟩
  have hd:decide ((i:Int)<(d.trades.length:Int))=true:=decide_eq_true (by omega)
  have hw:=Ai hi (by rw[hT];simp[maxLen])
  exact absurd hx (by rw[hT];simp)
 ·exact⟨by simp[up,Bw],by simp[up,Bw],by simp[up,Bw],by simp[up,Bw],by simp[up,Bw],by simp[up,Bw],by simp[up],⟨[],rfl⟩⟩
 ·obtain⟨rfl,h6,h8,h9,g,rfl⟩:=hk
  (have hb:=trivial;with_reducible repeat' (first|simp only[hb,Vc.down,seval,Pv.down,h6,h8,h9]|refine Af ?_ ?_<;>intro hb|refine fd ?_|fail))
  all_goals exact⟨rfl,rfl⟩
theorem agX{s:Ac}{d:Ap}(hC:s.cons=[]){hr own fuel:Int}:
 Ql Bi 76 [.agg s.cells,.agg [.int .i64 hr,.nils,.int .i64 own,.int .i64 fuel,.nils,.nils],.agg d.cells] []
  fun o h'=>o=.ret .nils∧h'=[]:=by
 refine Je rfl Tryz.func76 rfl rfl ?_
 simp only[Tryz.f76]
 (have hb:=trivial;with_reducible repeat' (first|simp only[hb,Vc.down,seval,jP.down,aa0]|refine Af ?_ ?_<;>intro hb|refine fd ?_|fail))
 refine Cd (Np 80 s.cons (fun i (zz:Unit) t h=>t 3=.ptr 0 0 0∧t 4=.ptr 1 0 0∧t 5=.ptr 2 0 0∧t 7=.nils∧t 8=.int .i64 i∧(∃g,h=.live 6 false false [s.cells]::.live 6 false false [[.int .i64 hr,.nils,.int .i64 own,.int .i64 fuel,.nils,.nils]]::.live 3 false false [d.cells]::g)) (fun rest zz=>()) (fun r e t h=>e=.exit 0∧t 7=.nils) ?_ ?_ () _ _ ?_) (fun e t h hk=>?_)
 ·rintro _ t h Q' kQ ⟨h3,h4,h5,h7,h8,⟨g,rfl⟩⟩
  (have hb:=trivial;with_reducible repeat' (first|simp only[hb,Vc.down,seval,jP.down,h3,h4,h5,h7,h8,aeH,decide_false]|refine Af ?_ ?_<;>intro hb|refine fd ?_|fail))
  exact kQ _ _ _ ⟨rfl,by simp[up,h7]⟩
 ·rintro x rest i _ t h J Q' kJ kQ hx hi ⟨h3,h4,h5,h7,h8,⟨g,rfl⟩⟩
  have hd:decide ((i:Int)<(s.cons.length:Int))=true:=decide_eq_true (by omega)
  have hw:=Ai hi (by rw[hC];simp[maxLen])
  exact absurd hx (by rw[hC];simp)
 ·exact⟨by simp[up,Bw],by simp[up,Bw],by simp[up,Bw],by simp[up,Bw],by simp[up],⟨[],rfl⟩⟩
 ·obtain⟨rfl,h7⟩:=hk
  (have hb:=trivial;with_reducible repeat' (first|simp only[hb,Vc.down,seval,jP.down,h7]|refine Af ?_ ?_<;>intro hb|refine fd ?_|fail))
  all_goals exact⟨rfl,rfl⟩
theorem ao9{s:Ac}{d:Ap}{z:Bc}{hr own fuel:Int}(a b c:Bool)(K:ZOK s d hr z):
 Ql Bi 42 [.agg s.cells,.agg [.int .i64 hr,Ao 1 true a [],.int .i64 own,.int .i64 fuel,Ao 1 true b [],Ao 5 true c []],.agg d.cells] []
  fun o h'=>o=.ret (.tup [.agg [.int .i64 (IntKind.i64.wrap (hr+1)),.nils,.int .i64 (jQ z [] own),.int .i64 fuel,.nils,.nils],.agg [.nils,.nils,.nils,.nils]])∧h'=[]:=by
 obtain⟨_,_,e1,rfl,rfl⟩:=sU (s:=s) (hr:=hr) (own:=own) (fuel:=fuel) a b c
 obtain⟨_,_,e2,rfl,rfl⟩:=adO (s:=s) (hr:=hr) (own:=own) (fuel:=fuel) K.tr
 obtain⟨_,_,e3,rfl,rfl⟩:=agX (s:=s) (d:=d) (hr:=hr) (own:=own) (fuel:=fuel) K.con
 have e4:=tN (s:=s) (nn:=false) K.inn K.out
 have g3:=af1 [] false (by simp) _ _ (fun _=>rfl) (fun e=>(e rfl).elim)
 have g4:=zO [] false (by simp) _ _ (fun _=>rfl) (fun e=>(e rfl).elim)
 have g5:=pJ (l:=[]) (nn:=false) (by simp[maxLen])
 have g7:=fun m=>aR m [] false (by simp) _ _ (fun _=>rfl) (fun e=>(e rfl).elim)
 have g9:=kO [] [] false false (by simp) (by simp) _ _ (fun _=>rfl) (fun e=>(e rfl).elim)
 simp only[abB,Gi]at g3 g4 g5 g7 g9 e4
 have h0':(0≤hr)=True:=eq_true K.h0
 have hz:=K.hx
 have m1:∀a b:Int,(if b<a then b else a)=mn a b:=fun _ _=>rfl
 refine Je rfl Tryz.func42 rfl rfl ?_
 simp only[Tryz.f42]
 (have hb:=trivial;with_reducible repeat' (first|simp only[hb,Vc.down,seval,yK.down,Ap.cells,Bc.cells,e1,e2,e3,e4,g3,g4,g5,g7,g9,h0',hz,m1,aa0,aaW]|refine Af ?_ ?_<;>intro hb|refine fdl ?_|fail))
 refine Cd (Np 204 ([]:List Int) (fun i (zz:Unit) t h=>t 6=.ptr 3 0 0∧t 7=.ptr 4 0 0∧t 8=.ptr 5 0 0∧t 9=.nils∧t 11=.nils∧t 12=.nils∧t 15=.nils∧t 16=.int .i64 i∧(∃g,h=.live 6 false false [s.cells]::.live 6 false false [[.int .i64 hr,Ao 1 true a [],.int .i64 own,.int .i64 fuel,Ao 1 true b [],Ao 5 true c []]]::.live 3 false false [d.cells]::.live 6 false false [[.int .i64 0,.nils,.int .i64 0,.int .i64 0,.nils,.nils]]::.live 4 false false [[.nils,.nils,.nils,.nils]]::.live 6 false true [[.int .i64 hr,.nils,.int .i64 (jQ z [] own),.int .i64 fuel,.nils,.nils]]::g)) (fun rest zz=>()) (fun r e t h=>e=.exit 0∧t 6=.ptr 3 0 0∧t 7=.ptr 4 0 0∧t 8=.ptr 5 0 0∧t 9=.nils∧t 11=.nils∧t 12=.nils∧t 15=.nils∧(∃g,h=.live 6 false false [s.cells]::.live 6 false false [[.int .i64 hr,Ao 1 true a [],.int .i64 own,.int .i64 fuel,Ao 1 true b [],Ao 5 true c []]]::.live 3 false false [d.cells]::.live 6 false false [[.int .i64 0,.nils,.int .i64 0,.int .i64 0,.nils,.nils]]::.live 4 false false [[.nils,.nils,.nils,.nils]]::.live 6 false true [[.int .i64 hr,.nils,.int .i64 (jQ z [] own),.int .i64 fuel,.nils,.nils]]::g)) ?_ ?_ () _ _ ?_) (fun e t h hk=>?_)
 ·rintro _ t h Q' kQ ⟨h6,h7,h8,h9,h11,h12,h15,h16,⟨g,rfl⟩⟩
  (have hb:=trivial;with_reducible repeat' (first|simp only[hb,Vc.down,seval,yK.down,h6,h7,h8,h9,h11,h12,h15,h16,aeH,decide_false,aa0,aeM]|refine Af ?_ ?_<;>intro hb|refine fd ?_|fail))
  exact kQ _ _ _ ⟨rfl,by simp[up,h6],by simp[up,h7],by simp[up,h8],by simp[up,h9],by simp[up,h11],by simp[up,h12],by simp[up,h15],g,rfl⟩
 ·rintro x rest i _ t h J Q' kJ kQ hx hi ⟨h6,h7,h8,h9,h11,h12,h15,h16,⟨g,rfl⟩⟩
  have hd:decide ((i:Int)<(([]:List Int).length:Int))=true:=decide_eq_true (by omega)
  have hw:=Ai hi (by simp[maxLen])
  cases hx
 ·exact⟨by simp[up,Bw],by simp[up,Bw],by simp[up,Bw],by simp[up,Bw],by simp[up,Bw],by simp[up,Bw],by simp[up,Bw],by simp[up],⟨_,rfl⟩⟩
 ·obtain⟨rfl,h6,h7,h8,h9,h11,h12,h15,g,rfl⟩:=hk
  (have hb:=trivial;with_reducible repeat' (first|simp only[hb,Vc.down,seval,yK.down,h6,h7,h8,h9,h11,h12,h15]|refine Af ?_ ?_<;>intro hb|refine fd ?_|fail))
  all_goals exact⟨rfl,rfl⟩
def Qy(l:List Int):Prop:=∀w∈l,0≤w∧w≤100000000
theorem Qy.tail{x:Int}{l:List Int}(h:Qy (x::l)):Qy l:=fun w hw=>h w (List.mem_cons_of_mem _ hw)
theorem Qy.head{x:Int}{l:List Int}(h:Qy (x::l)):0≤x∧x≤100000000:=h x (List.mem_cons_self ..)
theorem Qy.sum:∀{l:List Int},Qy l→0≤l.sum∧l.sum≤100000000*l.length
 | [],_=>by simp
 |x::l,h=>by
  have:=Qy.sum h.tail
  have:=h.head
  simp only[aeP,aa6]
  omega
theorem ak2{l:List Int}{a:Int}(h:Qy l)(hl:l.length≤1000)(h0:0≤a)(h1:a≤1000000000000-100000000*l.length):Ar l a=a+l.sum:=by
 induction l generalizing a with
 |nil=>simp[Ar]
 |cons x l ih=>
  have:=h.head
  simp only[aa6]at hl h1
  rw[Ar,Aj (by omega) (by omega),ih h.tail (by omega) (by omega) (by omega),aeP]
  omega
theorem Ub{l:List Int}(h:Qy l)(hl:l.length≤1000):Ar l 0=l.sum:=by
 rw[ak2 h hl (by omega) (by omega)];omega
def Ho(amount whole:Int):List Int→Int→List Int
 | [],_=>[]
 |w::rest,so=>(amount*(so+w) / whole-amount*so / whole)::Ho amount whole rest (so+w)
theorem cP{a b c d:Int}(h0:0≤a)(h1:a≤c)(h2:0≤b)(h3:b≤d):0≤a*b∧a*b≤c*d:=
 ⟨Int.mul_nonneg h0 h2,Int.mul_le_mul h1 h3 h2 (by omega)⟩
theorem ak7{x y:Int}(h0:0≤x)(hy:0<y):0≤x / y∧x / y≤x:=⟨Int.ediv_nonneg h0 (by omega),Int.ediv_le_self _ h0⟩
theorem agW{amount whole:Int}(ha:0≤amount)(ha':amount≤1000000000)(hw:0<whole){l:List Int}{so:Int}(h:Qy l)(hl:l.length≤8)(h0:0≤so)(h1:so≤1000000000-100000000*l.length):Cm amount whole l so (amount*so / whole)=Ho amount whole l so:=by
 induction l generalizing so with
 |nil=>rfl
 |cons w l ih=>
  have hh:=h.head
  simp only[aa6]at hl h1
  have e1:IntKind.i64.wrap (so+w)=so+w:=Aj (by omega) (by omega)
  have m1:=cP ha ha' (b:=so+w) (d:=1000000000) (by omega) (by omega)
  have m2:=cP ha ha' (b:=so) (d:=1000000000) (by omega) (by omega)
  have d1:=ak7 m1.1 hw
  have d2:=ak7 m2.1 hw
  have e2:IntKind.i64.wrap (amount*(so+w))=amount*(so+w):=Aj (by omega) (by omega)
  have e3:(amount*(so+w)).tdiv whole=amount*(so+w) / whole:=Int.tdiv_eq_ediv_of_nonneg m1.1
  have e4:IntKind.i64.wrap (amount*(so+w) / whole)=amount*(so+w) / whole:=Aj (by omega) (by omega)
  have e5:IntKind.i64.wrap (amount*(so+w) / whole-amount*so / whole)=amount*(so+w) / whole-amount*so / whole:=Aj (by omega) (by omega)
  have e6:amount*so / whole+(amount*(so+w) / whole-amount*so / whole)=amount*(so+w) / whole:=by omega
  simp only[Cm,Ho,Eb,hw,if_true,e1,e2,e3,e4,e5,e6]
  rw[ih h.tail (by omega) (by omega) (by omega)]
theorem dL{amount whole:Int}(ha:0≤amount)(ha':amount≤1000000000)(hw:0<whole){l:List Int}(h:Qy l)(hl:l.length≤8):Cm amount whole l 0 0=Ho amount whole l 0:=by
 have:=agW ha ha' hw h hl (Int.le_refl 0) (by omega)
 simpa using this
theorem aZ{amount whole:Int}(hw:¬0<whole):∀(l:List Int) (so:Int),Cm amount whole l so 0=List.replicate l.length 0
 | [],_=>rfl
 |w::l,so=>by
  simp only[Cm,Eb,hw,if_false,aa6,List.replicate_succ]
  rw[show IntKind.i64.wrap (0+0)=0 from by decide,aZ hw l]
theorem ad6{amount whole so w:Int}(hw:0<whole):(amount*(so+w) / whole-amount*so / whole)*whole-amount*w<whole∧ -whole<(amount*(so+w) / whole-amount*so / whole)*whole-amount*w:=by
 have a1:=apU (amount*(so+w)) whole
 have a2:=apU (amount*so) whole
 have b1:=apV (amount*(so+w)) (by omega:whole≠0)
 have b2:=apV (amount*so) (by omega:whole≠0)
 have c1:=apY (amount*(so+w)) hw
 have c2:=apY (amount*so) hw
 have e:amount*(so+w)=amount*so+amount*w:=Int.mul_add ..
 rw[Int.sub_mul,aeW (amount*(so+w) / whole),aeW (amount*so / whole)]
 constructor<;>omega
theorem anF{amount whole so w:Int}(ha:0≤amount)(haw:amount≤whole)(hw:0<whole)(hw0:0≤w):0≤amount*(so+w) / whole-amount*so / whole∧amount*(so+w) / whole-amount*so / whole≤w:=by
 have e:amount*(so+w)=amount*so+amount*w:=Int.mul_add ..
 have p:0≤amount*w:=Int.mul_nonneg ha hw0
 have q:amount*w≤whole*w:=Int.mul_le_mul_of_nonneg_right haw hw0
 have m1:amount*so / whole≤amount*(so+w) / whole:=ap2 hw (by omega)
 have m2:amount*(so+w) / whole≤(amount*so+w*whole) / whole:=ap2 hw (by rw[aeW w];omega)
 rw[Int.add_mul_ediv_right _ _ (by omega)]at m2
 omega
theorem Yd{amount whole:Int}(ha:0≤amount)(haw:amount≤whole)(hw:0<whole):∀{l:List Int} {so:Int},Qy l→∀{i:Nat} {x w:Int},(Ho amount whole l so)[i]?=some x→l[i]?=some w→0≤x∧x≤w∧x*whole-amount*w<whole∧ -whole<x*whole-amount*w
 | [],_,_,i,x,w,hx,_=>by simp[Ho]at hx
 |y::l,so,h,0,x,w,hx,hw'=>by
  simp only[Ho,List.getElem?_cons_zero,Option.some.injEq]at hx hw'
  subst hx hw'
  have:=anF (so:=so) ha haw hw h.head.1
  have:=ad6 (amount:=amount) (so:=so) (w:=y) hw
  exact⟨by omega,by omega,by omega,by omega⟩
 |y::l,so,h,i+1,x,w,hx,hw'=>by
  simp only[Ho,List.getElem?_cons_succ]at hx hw'
  exact Yd ha haw hw h.tail hx hw'
theorem Jc(amount whole:Int):∀(l:List Int) (so:Int),(Ho amount whole l so).length=l.length
 | [],_=>rfl
 |x::l,so=>by simp[Ho,Jc amount whole l]
theorem mS(amount whole:Int):∀(l:List Int) (so:Int),(Ho amount whole l so).sum=amount*(so+l.sum) / whole-amount*so / whole
 | [],so=>by simp[Ho]
 |w::l,so=>by
  rw[Ho,aeP,mS,aeP,Int.add_assoc so]
  omega
theorem dF{amount:Int}{l:List Int}(hw:0<l.sum):(Ho amount l.sum l 0).sum=amount:=by
 rw[mS];simp[Int.mul_ediv_cancel _ (by omega:l.sum≠0)]
theorem Qy.fz:∀{cs:List Ag} {l:List Int},Qy l→Qy (Gh cs l)
 | [],_,_=>fun w hw=>by simp[Gh]at hw
 |_::_,[],_=>fun w hw=>by simp[Gh]at hw
 |c::cs,x::l,h=>fun w hw=>by
  simp only[Gh,ae6,List.mem_cons]at hw
  rcases hw with rfl|hw
  ·have:=h.head;unfold Jm;split<;>omega
  ·exact Qy.fz h.tail w hw
theorem Qy.oz:∀{cs:List Ag} {l:List Int},Qy l→Qy (Kq cs l)
 | [],_,_=>fun w hw=>by simp[Kq]at hw
 |_::_,[],_=>fun w hw=>by simp[Kq]at hw
 |c::cs,x::l,h=>fun w hw=>by
  simp only[Kq,ae6,List.mem_cons]at hw
  rcases hw with rfl|hw
  ·have:=h.head;unfold cM;split<;>omega
  ·exact Qy.oz h.tail w hw
theorem zR:∀{cs:List Ag} {l:List Int},l.length=cs.length→(Gh cs l).sum+(Kq cs l).sum=l.sum
 | [],[],_=>rfl
 |c::cs,x::l,h=>by
  have ih:=zR (cs:=cs) (l:=l) (by simpa using h)
  simp only[Gh,Kq,ae6,aeP,Jm,cM]at ih ⊢
  split<;>omega
structure aAC(cs:List Ag)(l A:List Int)(m:Int):Prop where
 len:A.length=l.length
 ins:∀{i:Nat} {x w:Int},A[i]?=some x→l[i]?=some w→0≤x∧x≤w
 all:A.sum=min l.sum m
 firm:(Gh cs A).sum<(Gh cs l).sum→(Kq cs A).sum=0
 near:∀{i:Nat} {c:Ag} {x w:Int},cs[i]?=some c→A[i]?=some x→l[i]?=some w→
  (c.firm=true→x*(Gh cs l).sum-min m (Gh cs l).sum*w<max 1 (Gh cs l).sum∧ -(max 1 (Gh cs l).sum)<x*(Gh cs l).sum-min m (Gh cs l).sum*w)∧
  (c.firm=false→x*(Kq cs l).sum-min (max 0 (m-(Gh cs l).sum)) (Kq cs l).sum*w<max 1 (Kq cs l).sum∧ -(max 1 (Kq cs l).sum)<x*(Kq cs l).sum-min (max 0 (m-(Gh cs l).sum)) (Kq cs l).sum*w)
theorem apI:∀{cs:List Ag} {l A:List Int},(∀{i:Nat} {c:Ag} {x w:Int},cs[i]?=some c→A[i]?=some x→l[i]?=some w→c.firm=true→x=w)→l.length=cs.length→A.length=l.length→Gh cs A=Gh cs l
 | [],_,_,_,_,_=>rfl
 |c::cs,w::l,x::A,h,h1,h2=>by
  have ih:=apI (cs:=cs) (l:=l) (A:=A) (fun {i c x w} hc hx hw=>h (i:=i+1) (by simpa using hc) (by simpa using hx) (by simpa using hw)) (by simpa using h1) (by simpa using h2)
  simp only[Gh,ae6]at ih ⊢
  rw[ih]
  congr 1
  unfold Jm
  split
  ·rename_i hf;exact h (i:=0) rfl rfl rfl hf
  ·rfl
 |c::cs,[],_,_,h1,_=>by simp at h1
 |c::cs,_::_,[],_,_,h2=>by simp at h2
theorem aaI:∀{cs:List Ag} {A:List Int},(∀{i:Nat} {c:Ag} {x:Int},cs[i]?=some c→A[i]?=some x→c.firm=false→x=0)→(Kq cs A).sum=0
 | [],_,_=>rfl
 |_::_,[],_=>rfl
 |c::cs,x::A,h=>by
  have ih:=aaI (cs:=cs) (A:=A) (fun {i c x} hc hx=>h (i:=i+1) (by simpa using hc) (by simpa using hx))
  simp only[Kq,ae6,aeP]at ih ⊢
  rw[ih]
  unfold cM
  split
  ·rfl
  ·rename_i hf;rw[h (i:=0) rfl rfl (by simpa using hf)];rfl
theorem sX{cs:List Ag}{l:List Int}{f:Ag→Int→Int}{i:Nat}{c:Ag}{w:Int}(hc:cs[i]?=some c)(hw:l[i]?=some w):(adV f cs l)[i]?=some (f c w):=by simp[alE,hc,hw]
theorem aw9{cs:List Ag}{l:List Int}{m:Int}(hl:l.length=cs.length)(h8:l.length≤8)(ha:Qy l)(hm:0≤m)(hm':m≤800000000):aAC cs l (Gk cs l m) m:=by
 have hf:=ha.fz (cs:=cs)
 have ho:=ha.oz (cs:=cs)
 have lf:(Gh cs l).length=l.length:=by simp[Gh,hl]
 have lo:(Kq cs l).length=l.length:=by simp[Kq,hl]
 have s1:=Ub ha (by omega)
 have s2:=Ub hf (by omega)
 have s3:=Ub ho (by omega)
 have bf:=hf.sum
 have bo:=ho.sum
 have bl:=ha.sum
 have hfo:=zR hl
 unfold Gk
 rw[s1,s2,s3]
 split
 ·rename_i h1
  refine⟨rfl,fun hx hw=>?_,by omega,fun h=>by omega,fun {i c x w} hc hx hw=>?_⟩
  ·rw[hx]at hw;cases hw
   exact⟨(ha _ (acZ hx)).1,Int.le_refl _⟩
  ·rw[hx]at hw;cases hw
   have e1:min m (Gh cs l).sum=(Gh cs l).sum:=by omega
   have e2:min (max 0 (m-(Gh cs l).sum)) (Kq cs l).sum=(Kq cs l).sum:=by omega
   rw[e1,e2,aeW x,aeW x]
   exact⟨fun _=>by omega,fun _=>by omega⟩
 ·rename_i h1
  split
  ·rename_i h2
   rw[dL hm (by omega) (by omega) hf (by omega)]
   have hg:=fun {i:Nat} {x w:Int} hx hw=>Yd (l:=Gh cs l) (so:=0) hm (by omega:m≤(Gh cs l).sum) (by omega) hf (i:=i) (x:=x) (w:=w) hx hw
   have hz:∀{i:Nat} {c:Ag} {x:Int},cs[i]?=some c→(Ho m (Gh cs l).sum (Gh cs l) 0)[i]?=some x→c.firm=false→x=0:=fun {i c x} hc hx hfm=>by
    have hi:i<l.length:=by
     have:=(acK.1 hx).1
     rw[Jc,lf]at this;exact this
    obtain⟨w,hw⟩:∃w,l[i]?=some w:=⟨_,acF hi⟩
    have:=hg hx (sX (f:=Jm) hc hw)
    simp only[Jm,hfm,akJ,if_false]at this
    omega
   refine⟨by rw[Jc,lf],fun {i x w} hx hw=>?_,?_,fun _=>aaI hz,fun {i c x w} hc hx hw=>?_⟩
   ·have hi:i<cs.length:=by
     have:=(acK.1 hw).1;omega
    obtain⟨c,hc⟩:∃c,cs[i]?=some c:=⟨_,acF hi⟩
    have:=hg hx (sX (f:=Jm) hc hw)
    have hw0:=ha _ (acZ hw)
    unfold Jm at this
    split at this<;>omega
   ·rw[dF (by omega)];omega
   ·have:=hg hx (sX (f:=Jm) hc hw)
    constructor
    ·intro hfm
     simp only[Jm,hfm,if_true]at this
     rw[Int.min_eq_left (by omega)]
     exact⟨by omega,by omega⟩
    ·intro hfm
     rw[hz hc hx hfm,show min (max 0 (m-(Gh cs l).sum)) (Kq cs l).sum=0 by omega]
     omega
  ·rename_i h2
   have e0:IntKind.i64.wrap (m-(Gh cs l).sum)=m-(Gh cs l).sum:=Aj (by omega) (by omega)
   rw[e0,dL (by omega) (by omega) (by omega) ho (by omega)]
   have hg:=fun {i:Nat} {x w:Int} hx hw=>Yd (l:=Kq cs l) (so:=0) (by omega:0≤m-(Gh cs l).sum) (by omega:m-(Gh cs l).sum≤(Kq cs l).sum) (by omega) ho (i:=i) (x:=x) (w:=w) hx hw
   have hA:∀{i:Nat} {c:Ag} {x w:Int},cs[i]?=some c→l[i]?=some w→(adV Ut (Ho (m-(Gh cs l).sum) (Kq cs l).sum (Kq cs l) 0) (Gh cs l))[i]?=some x→(c.firm=true→x=w)∧(c.firm=false→0≤x∧x≤w∧x*(Kq cs l).sum-(m-(Gh cs l).sum)*w<(Kq cs l).sum∧ -(Kq cs l).sum<x*(Kq cs l).sum-(m-(Gh cs l).sum)*w):=fun {i c x w} hc hw hx=>by
    rw[alE,sX (f:=Jm) hc hw (cs:=cs) (l:=l) |> (fun h=>(show(Gh cs l)[i]?=some (Jm c w)from h))]at hx
    cases hy:(Ho (m-(Gh cs l).sum) (Kq cs l).sum (Kq cs l) 0)[i]? with
    |none=>rw[hy]at hx;simp at hx
    |some y=>
     rw[hy]at hx
     simp only[Option.some.injEq]at hx
     have:=hg hy (sX (f:=cM) hc hw)
     have hw0:=ha _ (acZ hw)
     subst hx
     constructor
     ·intro hfm
      simp only[cM,hfm,if_true]at this
      simp only[Ut,Jm,hfm,if_true]
      rw[Aj (by omega) (by omega)];omega
     ·intro hfm
      simp only[cM,hfm,akJ,if_false]at this
      simp only[Ut,Jm,hfm,akJ,if_false]
      rw[Aj (by omega) (by omega),Int.add_zero]
      exact this
   have hlen:(adV Ut (Ho (m-(Gh cs l).sum) (Kq cs l).sum (Kq cs l) 0) (Gh cs l)).length=l.length:=by simp[Jc,lf,lo]
   have hfz:=apI (cs:=cs) (l:=l) (A:=adV Ut (Ho (m-(Gh cs l).sum) (Kq cs l).sum (Kq cs l) 0) (Gh cs l)) (fun {i c x w} hc hx hw hfm=>(hA hc hw hx).1 hfm) hl hlen
   have hoz:Kq cs (adV Ut (Ho (m-(Gh cs l).sum) (Kq cs l).sum (Kq cs l) 0) (Gh cs l))=Ho (m-(Gh cs l).sum) (Kq cs l).sum (Kq cs l) 0:=by
    refine List.ext_getElem? fun i=>?_
    by_cases hi:i<l.length
    ·obtain⟨w,hw⟩:∃w,l[i]?=some w:=⟨_,acF hi⟩
     obtain⟨c,hc⟩:∃c,cs[i]?=some c:=⟨_,acF (by omega)⟩
     obtain⟨y,hy⟩:∃y,(Ho (m-(Gh cs l).sum) (Kq cs l).sum (Kq cs l) 0)[i]?=some y:=⟨_,acF (by rw[Jc,lo];exact hi)⟩
     have:=hg hy (sX (f:=cM) hc hw)
     have hw0:=ha _ (acZ hw)
     have hz:(adV Ut (Ho (m-(Gh cs l).sum) (Kq cs l).sum (Kq cs l) 0) (Gh cs l))[i]?=some (Ut y (Jm c w)):=by
      rw[alE,hy,show(Gh cs l)[i]?=some (Jm c w)from sX hc hw]
     rw[hy,show(Kq cs _)[i]?=some (cM c (Ut y (Jm c w)))from sX hc hz]
     unfold cM at this ⊢
     split at this
     ·rename_i hfm;rw[if_pos hfm];congr 1;omega
     ·rename_i hfm
      rw[if_neg hfm]
      simp only[Ut,Jm,hfm,akJ,if_false]
      rw[Aj (by omega) (by omega),Int.add_zero]
    ·rw[ap5 (by simp[Kq,Jc,lo,lf];omega),ap5 (by rw[Jc,lo];omega)]
   have hs:=zR (cs:=cs) (l:=adV Ut (Ho (m-(Gh cs l).sum) (Kq cs l).sum (Kq cs l) 0) (Gh cs l)) (by omega)
   rw[hfz,hoz,dF (by omega)]at hs
   refine⟨hlen,fun {i x w} hx hw=>?_,by omega,fun h=>by rw[hfz]at h;omega,fun {i c x w} hc hx hw=>?_⟩
   ·have hi:i<cs.length:=by
     have:=(acK.1 hw).1;omega
    obtain⟨c,hc⟩:∃c,cs[i]?=some c:=⟨_,acF hi⟩
    have hq:=hA hc hw hx
    have hw0:=ha _ (acZ hw)
    cases hfm:c.firm with
    |true=>have:=hq.1 hfm;omega
    |false=>have:=hq.2 hfm;omega
   ·have hq:=hA hc hw hx
    constructor
    ·intro hfm
     rw[hq.1 hfm,Int.min_eq_right (by omega),aeW w]
     omega
    ·intro hfm
     have:=hq.2 hfm
     rw[show min (max 0 (m-(Gh cs l).sum)) (Kq cs l).sum=m-(Gh cs l).sum by omega]
     exact⟨by omega,by omega⟩
end Go.Proofs.YtdbiogihimdpcaaGreatDoor
