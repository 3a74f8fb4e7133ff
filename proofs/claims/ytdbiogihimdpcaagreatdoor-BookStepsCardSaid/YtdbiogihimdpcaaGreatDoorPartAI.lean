/- The functions of the layer, walked. -/
import Derived.Test.YtdbiogihimdpcaaGreatDoorPartAH
set_option linter.unusedSimpArgs false
set_option linter.unusedVariables false
/- Layer 6: Step. -/
namespace Go.Proofs.YtdbiogihimdpcaaGreatDoor
open Go.Ev Go
set_option maxRecDepth 100000
set_option maxHeartbeats 16000000
theorem trade_ok{n:Nat}(hn:n≤1000){t:BTrade}(h:tradeB n t=true):t.ok n∧t.frm≠t.to∧1≤t.amount∧t.amount≤100000000∧(t.back= -1∨0≤t.back):=by
 simp only[tradeB,inB,Bool.and_eq_true,Bool.or_eq_true,decide_eq_true_eq,beq_iff_eq,Bool.not_eq_true',beq_eq_false_iff_ne]at h
 obtain⟨⟨⟨⟨⟨h1,h2⟩,h3⟩,h4⟩,h5⟩,h6⟩:=h
 rw[wrap_of (by omega) (by omega)]at h2 h3 h4
 exact⟨⟨⟨h3.1,by omega⟩,h4.1,by omega⟩,h5,h6.1,h6.2,by omega⟩
theorem hourOK{s:BStore}{y:BState}{d:BDay}{x:BHour}(h1:storeB s=true)(h2:stateB s y=true)(h3:dayB s.cons.length d=true)(hne:s.cons≠[])(hx:d.hours[y.hour.toNat]?=some x):HourOK s d y.hour x y.owed∧y.gas.length=s.cons.length∧y.bills.length=s.cons.length:=by
 have S:=storeOK h1
 simp only[stateB,preB,inB,Bool.and_eq_true,decide_eq_true_eq,List.all_eq_true]at h2
 obtain⟨⟨⟨⟨⟨⟨⟨p1,p2⟩,p3⟩,p4⟩,p5⟩,p6⟩,_⟩,p7⟩:=h2
 simp only[dayB,Bool.and_eq_true,decide_eq_true_eq,List.all_eq_true]at h3
 obtain⟨⟨⟨⟨⟨d1,d2⟩,d3⟩,d4⟩,d5⟩,d6⟩:=h3
 have hl:=S.len
 refine⟨⟨hne,by omega,by omega,fun c hc=>?_,by omega,fun t ht=>?_,by omega,fun t ht=>?_,p3.1,hx⟩,p1,p2⟩
 ·have C:=S.cons c hc
  exact⟨by have:=C.space;omega,C.rates.1,by have:=C.rates.2;unfold maxLen;omega⟩
 ·have:=p7 t ht
  simp only[owedB,Bool.and_eq_true]at this
  exact(trade_ok (by omega) this.1.1).1
 ·exact(trade_ok (by omega) (d6 t ht)).1
theorem e_step{s:BStore}{d:BDay}{x:BHour}{y:BState}(K:HourOK s d y.hour x y.owed)(hG:y.gas.length=s.cons.length)(hL:y.bills.length=s.cons.length):
 ClQ om' 64 [.agg s.cells,.agg y.cells,.agg d.cells] []
  (StepQ s.cons.length (IntKind.i64.wrap (y.hour+1)) (own5 s d y.hour x y.gas y.bills y.owed y.own) (G6 s d y.hour x y.gas y.bills y.owed y.fuel).2 (G6 s d y.hour x y.gas y.bills y.owed y.fuel).1 (L7 s d y.hour x y.gas y.bills y.owed) (T2 s d y.hour y.gas y.bills y.owed).2.1 (T2 s d y.hour y.gas y.bills y.owed).2.2 (W3 s d y.hour y.gas y.bills y.owed) (A4 s d y.hour x y.gas y.bills y.owed) (F5 s d y.hour x y.gas y.bills y.owed)):=by
 by_cases h:y.owed=[]∧y.nO=false
 ·exact e_stepN K hG hL h
 ·exact e_stepB K hG hL h
def o3:Out→Out
 | .ret (.tup [a,b])=>.ret (.tup [a,b,.int .i64 0])
 |o=>o
def zSt:AV:=.agg [.int .i64 0,.nils,.int .i64 0,.int .i64 0,.nils,.nils]
def zFl:AV:=.agg [.nils,.nils,.nils,.nils]
theorem e_Step0{s:BStore}{d:BDay}{y:BState}(hs:s.small)(hd:d.small)(hy:y.small)(h:(storeB s&&stateB s y&&dayB s.cons.length d)=false):
 om'.call (.fn 40) [.agg s.cells,.agg y.cells,.agg d.cells] []=some (.ret (.tup [zSt,zFl,.int .i64 2]),[]):=by
 have c1:=e_store s hs
 have c2:=e_state s hs y hy
 have c3:=e_day d hd s.cons.length
 simp only[BDay.cells]at c3
 cases h1:storeB s with
 |false=>
  rw[h1]at c1
  (refine ce Tryz.func40 ?_;simp only[Tryz.f40];(have hb:=trivial;with_reducible repeat' (first|simp only[hb,Vc.down,seval,TY40.down,BDay.cells,c1,List.length_map]|refine fsp ?_ ?_<;>intro hb|refine fd ?_|fail)))
  all_goals rfl
 |true=>
  rw[h1]at c1
  cases h2:stateB s y with
  |false=>
   rw[h2]at c2
   (refine ce Tryz.func40 ?_;simp only[Tryz.f40];(have hb:=trivial;with_reducible repeat' (first|simp only[hb,Vc.down,seval,TY40.down,BDay.cells,c1,c2,List.length_map]|refine fsp ?_ ?_<;>intro hb|refine fd ?_|fail)))
   all_goals rfl
  |true=>
   rw[h2]at c2
   rw[h1,h2]at h
   have h3:dayB s.cons.length d=false:=by simpa using h
   rw[h3]at c3
   (refine ce Tryz.func40 ?_;simp only[Tryz.f40];(have hb:=trivial;with_reducible repeat' (first|simp only[hb,Vc.down,seval,TY40.down,BDay.cells,c1,c2,c3,List.length_map]|refine fsp ?_ ?_<;>intro hb|refine fd ?_|fail)))
   all_goals rfl
theorem e_StepS{s:BStore}{d:BDay}{y:BState}(hs:s.small)(hd:d.small)(hy:y.small)(h1:storeB s=true)(h2:stateB s y=true)(h3:dayB s.cons.length d=true)(h:(d.hours.length:Int)≤y.hour):
 om'.call (.fn 40) [.agg s.cells,.agg y.cells,.agg d.cells] []=some (.ret (.tup [zSt,zFl,.int .i64 6]),[]):=by
 have c1:=e_store s hs
 have c2:=e_state s hs y hy
 have c3:=e_day d hd s.cons.length
 simp only[BDay.cells]at c3
 rw[h1]at c1
 rw[h2]at c2
 rw[h3]at c3
 have c4:decide ((d.hours.length:Int)≤y.hour)=true:=decide_eq_true h
 (refine ce Tryz.func40 ?_;simp only[Tryz.f40];(have hb:=trivial;with_reducible repeat' (first|simp only[hb,Vc.down,seval,TY40.down,BDay.cells,c1,c2,c3,c4,List.length_map]|refine fsp ?_ ?_<;>intro hb|refine fd ?_|fail)))
 all_goals rfl
theorem e_StepV{s:BStore}{d:BDay}{x:BHour}{y:BState}(hs:s.small)(hd:d.small)(hy:y.small)(h1:storeB s=true)(h2:stateB s y=true)(h3:dayB s.cons.length d=true)(hne:s.cons≠[])(hx:d.hours[y.hour.toNat]?=some x):
 ClQ om' 40 [.agg s.cells,.agg y.cells,.agg d.cells] []
  (fun o h=>∃o',o=o3 o'∧StepQ s.cons.length (IntKind.i64.wrap (y.hour+1)) (own5 s d y.hour x y.gas y.bills y.owed y.own) (G6 s d y.hour x y.gas y.bills y.owed y.fuel).2 (G6 s d y.hour x y.gas y.bills y.owed y.fuel).1 (L7 s d y.hour x y.gas y.bills y.owed) (T2 s d y.hour y.gas y.bills y.owed).2.1 (T2 s d y.hour y.gas y.bills y.owed).2.2 (W3 s d y.hour y.gas y.bills y.owed) (A4 s d y.hour x y.gas y.bills y.owed) (F5 s d y.hour x y.gas y.bills y.owed) o' h):=by
 have c1:=e_store s hs
 have c2:=e_state s hs y hy
 have c3:=e_day d hd s.cons.length
 simp only[BDay.cells]at c3
 rw[h1]at c1
 rw[h2]at c2
 rw[h3]at c3
 obtain⟨K,hG,hL⟩:=hourOK h1 h2 h3 hne hx
 have hlt:=(List.getElem?_eq_some_iff.1 hx).1
 have h0:=K.h0
 have c4:decide ((d.hours.length:Int)≤y.hour)=false:=decide_eq_false (by omega)
 obtain⟨o,h',e,w1,w2,w3,w4,w5,w6,w7,hq⟩:=e_step K hG hL
 simp only[BDay.cells]at e
 rcases hq with⟨q1,q2,rfl,rfl⟩|⟨q2,rfl,rfl⟩|⟨q1,q2,rfl,rfl⟩|⟨q2,rfl,rfl⟩<;>simp only[stO,lv1,lv5]at e<;>(
  refine stOf rfl Tryz.func40 rfl rfl ?_
  simp only[Tryz.f40]
  (have hb:=trivial;with_reducible repeat' (first|simp only[hb,Vc.down,seval,TY40.down,BDay.cells,c1,c2,c3,c4,e,List.length_map]|refine fsp ?_ ?_<;>intro hb|refine fd ?_|fail)))
 ·exact⟨_,rfl,w1,w2,w3,w4,w5,w6,w7,.inl ⟨q1,q2,rfl,rfl⟩⟩
 ·exact⟨_,rfl,w1,w2,w3,w4,w5,w6,w7,.inr (.inl ⟨q2,rfl,rfl⟩)⟩
 ·exact⟨_,rfl,w1,w2,w3,w4,w5,w6,w7,.inr (.inr (.inl ⟨q1,q2,rfl,rfl⟩))⟩
 ·exact⟨_,rfl,w1,w2,w3,w4,w5,w6,w7,.inr (.inr (.inr ⟨q2,rfl,rfl⟩))⟩
def paysR(cs:List BCon)(t:BTrade)(G:List Int):Int:=IntKind.i64.wrap (IntKind.i64.wrap (t.amount-mn t.amount (gI G t.to))*lackOf cs t.to)
def givesR(cs:List BCon)(t:BTrade)(G:List Int):Int:=mn (mn t.amount (gI G t.to)) (IntKind.i64.wrap (spaceOf cs t.frm-gI G t.frm))
def retG(cs:List BCon)(t:BTrade)(G:List Int):List Int:=sI (sI G t.to (IntKind.i64.wrap (gI G t.to-givesR cs t G))) t.frm (IntKind.i64.wrap (gI G t.frm+givesR cs t G))
def retL(cs:List BCon)(t:BTrade)(G L:List Int):List Int:=sI (sI L t.to (IntKind.i64.wrap (gI L t.to+paysR cs t G))) t.frm (IntKind.i64.wrap (gI L t.frm-paysR cs t G))
/-- Gas, bills, and the loans that are left, by the specification. -/
def retF(cs:List BCon)(hr:Int):List BTrade→List Int × List Int × List BTrade→List Int × List Int × List BTrade
 | [],a=>a
 |t::rest,(G,L,p)=>if(t.back==hr)=true then retF cs hr rest (retG cs t G,retL cs t G L,p)else retF cs hr rest (G,L,p++[t])
theorem r_CopyN{hr own fuel:Int}{nG nL nO:Bool}{G L:List Int}{O:List BTrade}(hG:G.length≤1000)(hL:L.length≤1000)(hGn:G≠[])(hLn:L≠[])(hO:O=[]):
 om'.call (.fn 115) [.agg [.int .i64 hr,slv 1 true nG (G.map iv),.int .i64 own,.int .i64 fuel,slv 1 true nL (L.map iv),slv 5 true nO (O.map BTrade.cells)]] []=some (.ret (.agg [.int .i64 hr,.slr 1 0 0 G.length,.int .i64 own,.int .i64 fuel,.slr 1 1 0 L.length,.nils]),[.live 1 true false (G.map iv),.live 1 true false (L.map iv)]):=by
 subst hO
 obtain⟨a,G',rfl⟩:=List.exists_cons_of_ne_nil hGn
 obtain⟨b,L',rfl⟩:=List.exists_cons_of_ne_nil hLn
 have h1:(G'.length+1≤549755813888)=True:=eq_true (by simp at hG;omega)
 have h2:(L'.length+1≤549755813888)=True:=eq_true (by simp at hL;omega)
 cases nO with
 |false=>(refine ce Tryz.func115 ?_;simp only[Tryz.f115];(have hb:=trivial;with_reducible repeat' (first|simp only[hb,Vc.down,seval,TY115.down,List.length_map,h1,h2,List.map_nil,slv_nil,iv]|refine fsp ?_ ?_<;>intro hb|refine fd ?_|fail)))
 |true=>(refine ce Tryz.func115 ?_;simp only[Tryz.f115];(have hb:=trivial;with_reducible repeat' (first|simp only[hb,Vc.down,seval,TY115.down,List.length_map,h1,h2,List.map_nil,slv_true,iv]|refine fsp ?_ ?_<;>intro hb|refine fd ?_|fail)))
theorem r_CopyB{hr own fuel:Int}{nG nL nO:Bool}{G L:List Int}{O:List BTrade}(hG:G.length≤1000)(hL:L.length≤1000)(hOl:O.length≤1000)(hGn:G≠[])(hLn:L≠[])(hO:O≠[]):
 om'.call (.fn 115) [.agg [.int .i64 hr,slv 1 true nG (G.map iv),.int .i64 own,.int .i64 fuel,slv 1 true nL (L.map iv),slv 5 true nO (O.map BTrade.cells)]] []=some (.ret (.agg [.int .i64 hr,.slr 1 0 0 G.length,.int .i64 own,.int .i64 fuel,.slr 1 1 0 L.length,.slr 5 2 0 O.length]),[.live 1 true false (G.map iv),.live 1 true false (L.map iv),.live 5 true false (O.map BTrade.cells)]):=by
 obtain⟨a,G',rfl⟩:=List.exists_cons_of_ne_nil hGn
 obtain⟨b,L',rfl⟩:=List.exists_cons_of_ne_nil hLn
 obtain⟨c,O',rfl⟩:=List.exists_cons_of_ne_nil hO
 have h1:(G'.length+1≤549755813888)=True:=eq_true (by simp at hG;omega)
 have h2:(L'.length+1≤549755813888)=True:=eq_true (by simp at hL;omega)
 have h3:(O'.length+1≤549755813888)=True:=eq_true (by simp at hOl;omega)
 (refine ce Tryz.func115 ?_;simp only[Tryz.f115];(have hb:=trivial;with_reducible repeat' (first|simp only[hb,Vc.down,seval,TY115.down,List.length_map,h1,h2,h3,iv,BTrade.cells]|refine fsp ?_ ?_<;>intro hb|refine fd ?_|fail)))
theorem retG_length(cs:List BCon)(t:BTrade)(G:List Int):(retG cs t G).length=G.length:=by simp[retG,sI_length]
theorem retL_length(cs:List BCon)(t:BTrade)(G L:List Int):(retL cs t G L).length=L.length:=by simp[retL,sI_length]
/-- What comes back: a state with blocks of its own. -/
def RetQ(n:Nat)(hr own fuel:Int)(G L:List Int)(p:List BTrade)(o:Out)(h:Heap):Prop:=
 ∃w1 w2:Bool,(p=[]∧o=.ret (.agg [.int .i64 hr,.slr 1 0 0 n,.int .i64 own,.int .i64 fuel,.slr 1 1 0 n,.nils])∧h=[lv1 w1 G,lv1 w2 L])∨
  (p≠[]∧o=.ret (.agg [.int .i64 hr,.slr 1 0 0 n,.int .i64 own,.int .i64 fuel,.slr 1 1 0 n,.slr 5 2 0 p.length])∧h=[lv1 w1 G,lv1 w2 L,lv5 false p])
theorem r_returnedN{s:BStore}{hr own fuel:Int}{nG nL nO:Bool}{G L:List Int}{O:List BTrade}(hl:s.cons.length≤1000)(hne:s.cons≠[])(hG:G.length=s.cons.length)(hL:L.length=s.cons.length)(hOl:O.length≤1000)(ho:∀t∈O,t.ok s.cons.length)(hO:O=[]):
 ClQ om' 75 [.agg s.cells,.agg [.int .i64 hr,slv 1 true nG (G.map iv),.int .i64 own,.int .i64 fuel,slv 1 true nL (L.map iv),slv 5 true nO (O.map BTrade.cells)]] []
  (RetQ s.cons.length hr own fuel (retF s.cons hr O (G,L,[])).1 (retF s.cons hr O (G,L,[])).2.1 (retF s.cons hr O (G,L,[])).2.2):=by
 have hl':O.length≤maxLen:=by unfold maxLen;omega
 have hp0:0<s.cons.length:=List.length_pos_iff.2 hne
 have hGn:G≠[]:=fun e=>by rw[e]at hG;simp at hG;omega
 have hLn:L≠[]:=fun e=>by rw[e]at hL;simp at hL;omega
 have hcp:=r_CopyN (hr:=hr) (own:=own) (fuel:=fuel) (nG:=nG) (nL:=nL) (nO:=nO) (by omega) (by omega) hGn hLn hO
 rw[hG,hL]at hcp
 refine stOf rfl Tryz.func75 rfl rfl ?_
 simp only[Tryz.f75]
 (have hb:=trivial;with_reducible repeat' (first|simp only[hb,Vc.down,seval,TY75.down,hcp]|refine fsp ?_ ?_<;>intro hb|refine fd ?_|fail))
 refine fw_ot (lst 127 O (fun i (zz:List Int × List Int × List BTrade) t h=>t 2=.ptr 0 0 0∧t 3=.ptr 1 0 0∧t 4=.ptr 2 0 0∧t 5=.ptr 5 0 0∧t 6=.int .i64 i∧(∃wG wL wo pv g,h=.live 6 false false [s.cells]::.live 6 false false [[.int .i64 hr,slv 1 true nG (G.map iv),.int .i64 own,.int .i64 fuel,slv 1 true nL (L.map iv),slv 5 true nO (O.map BTrade.cells)]]::.live 6 false false [[.int .i64 0,.nils,.int .i64 0,.int .i64 0,.nils,.nils]]::.live 1 true wG (zz.1.map iv)::.live 1 true wL (zz.2.1.map iv)::  .live 6 false wo [[.int .i64 hr,.slr 1 3 0 s.cons.length,.int .i64 own,.int .i64 fuel,.slr 1 4 0 s.cons.length,pv]]::g∧zz.1.length=s.cons.length∧zz.2.1.length=s.cons.length∧zz.2.2.length≤i∧((zz.2.2=[]∧pv=.nils)∨(zz.2.2≠[]∧∃b,pv=.slr 5 (b+6) 0 zz.2.2.length∧g[b]?=some (.live 5 true false (zz.2.2.map BTrade.cells)))))) (fun rest zz=>retF s.cons hr rest (zz.1,zz.2.1,zz.2.2)) (fun r e t h=>e=.exit 0∧t 4=.ptr 2 0 0∧t 5=.ptr 5 0 0∧(∃wG wL wo pv g,h=.live 6 false false [s.cells]::.live 6 false false [[.int .i64 hr,slv 1 true nG (G.map iv),.int .i64 own,.int .i64 fuel,slv 1 true nL (L.map iv),slv 5 true nO (O.map BTrade.cells)]]::.live 6 false false [[.int .i64 0,.nils,.int .i64 0,.int .i64 0,.nils,.nils]]::.live 1 true wG (r.1.map iv)::.live 1 true wL (r.2.1.map iv)::  .live 6 false wo [[.int .i64 hr,.slr 1 3 0 s.cons.length,.int .i64 own,.int .i64 fuel,.slr 1 4 0 s.cons.length,pv]]::g∧((r.2.2=[]∧pv=.nils)∨(r.2.2≠[]∧∃b,pv=.slr 5 (b+6) 0 r.2.2.length∧g[b]?=some (.live 5 true false (r.2.2.map BTrade.cells)))))) ?_ ?_ (G,L,[]) _ _ ?_) (fun e t h hk=>?_)
 ·rintro⟨G',L',p⟩ t h Q' kQ ⟨h2,h3,h4,h5,h6,⟨wG,wL,wo,pv,g,rfl,hG',hL',hpl,hp⟩⟩
  try dsimp only at *
  (have hb:=trivial;with_reducible repeat' (first|simp only[hb,Vc.down,seval,TY75.down,h2,h3,h4,h5,h6,Int.lt_irrefl,decide_false,List.length_map]|refine fsp ?_ ?_<;>intro hb|refine fd ?_|fail))
  exact kQ _ _ _ ⟨rfl,by simp[up,h4],by simp[up,h5],wG,wL,wo,pv,g,rfl,hp⟩
 ·rintro x rest i ⟨G',L',p⟩ t h J Q' kJ kQ hx hi ⟨h2,h3,h4,h5,h6,⟨wG,wL,wo,pv,g,rfl,hG',hL',hpl,hp⟩⟩
  have hd:decide ((i:Int)<(O.length:Int))=true:=decide_eq_true (by omega)
  have hw:=wrap_next hi hl'
  try dsimp only at *
  exact absurd hx (by rw[hO];simp)
 ·exact⟨by simp[up,ent],by simp[up,ent],by simp[up,ent],by simp[up,ent],by simp[up],⟨_,_,_,_,[],rfl,hG,hL,Nat.le_refl _,.inl ⟨rfl,rfl⟩⟩⟩
 ·obtain⟨rfl,h4,h5,wG,wL,wo,pv,g,rfl,hp⟩:=hk
  generalize hr0:retF s.cons hr O (G,L,[])=r at *
  obtain⟨G',L',p⟩:=r
  dsimp only at *
  rcases hp with⟨hp,rfl⟩|⟨hp,b,rfl,hgb⟩
  ·(have hb:=trivial;with_reducible repeat' (first|simp only[hb,Vc.down,seval,TY75.down,h4,h5]|refine fsp ?_ ?_<;>intro hb|refine fd ?_|fail))
   exact⟨wG,wL,.inl ⟨hp,rfl,rfl⟩⟩
  ·(have hb:=trivial;with_reducible repeat' (first|simp only[hb,Vc.down,seval,TY75.down,h4,h5,hgb]|refine fsp ?_ ?_<;>intro hb|refine fd ?_|fail))
   exact⟨wG,wL,.inr ⟨hp,rfl,rfl⟩⟩
theorem r_returnedB{s:BStore}{hr own fuel:Int}{nG nL nO:Bool}{G L:List Int}{O:List BTrade}(hl:s.cons.length≤1000)(hne:s.cons≠[])(hG:G.length=s.cons.length)(hL:L.length=s.cons.length)(hOl:O.length≤1000)(ho:∀t∈O,t.ok s.cons.length)(hO:O≠[]):
 ClQ om' 75 [.agg s.cells,.agg [.int .i64 hr,slv 1 true nG (G.map iv),.int .i64 own,.int .i64 fuel,slv 1 true nL (L.map iv),slv 5 true nO (O.map BTrade.cells)]] []
  (RetQ s.cons.length hr own fuel (retF s.cons hr O (G,L,[])).1 (retF s.cons hr O (G,L,[])).2.1 (retF s.cons hr O (G,L,[])).2.2):=by
 have hl':O.length≤maxLen:=by unfold maxLen;omega
 have hp0:0<s.cons.length:=List.length_pos_iff.2 hne
 have hGn:G≠[]:=fun e=>by rw[e]at hG;simp at hG;omega
 have hLn:L≠[]:=fun e=>by rw[e]at hL;simp at hL;omega
 have hcp:=r_CopyB (hr:=hr) (own:=own) (fuel:=fuel) (nG:=nG) (nL:=nL) (nO:=nO) (by omega) (by omega) hOl hGn hLn hO
 rw[hG,hL]at hcp
 refine stOf rfl Tryz.func75 rfl rfl ?_
 simp only[Tryz.f75]
 (have hb:=trivial;with_reducible repeat' (first|simp only[hb,Vc.down,seval,TY75.down,hcp]|refine fsp ?_ ?_<;>intro hb|refine fd ?_|fail))
 refine fw_ot (lst 127 O (fun i (zz:List Int × List Int × List BTrade) t h=>t 2=.ptr 0 0 0∧t 3=.ptr 1 0 0∧t 4=.ptr 2 0 0∧t 5=.ptr 6 0 0∧t 6=.int .i64 i∧(∃wG wL wo pv g,h=.live 6 false false [s.cells]::.live 6 false false [[.int .i64 hr,slv 1 true nG (G.map iv),.int .i64 own,.int .i64 fuel,slv 1 true nL (L.map iv),slv 5 true nO (O.map BTrade.cells)]]::.live 6 false false [[.int .i64 0,.nils,.int .i64 0,.int .i64 0,.nils,.nils]]::.live 1 true wG (zz.1.map iv)::.live 1 true wL (zz.2.1.map iv)::.live 5 true false (O.map BTrade.cells)::.live 6 false wo [[.int .i64 hr,.slr 1 3 0 s.cons.length,.int .i64 own,.int .i64 fuel,.slr 1 4 0 s.cons.length,pv]]::g∧zz.1.length=s.cons.length∧zz.2.1.length=s.cons.length∧zz.2.2.length≤i∧((zz.2.2=[]∧pv=.nils)∨(zz.2.2≠[]∧∃b,pv=.slr 5 (b+7) 0 zz.2.2.length∧g[b]?=some (.live 5 true false (zz.2.2.map BTrade.cells)))))) (fun rest zz=>retF s.cons hr rest (zz.1,zz.2.1,zz.2.2)) (fun r e t h=>e=.exit 0∧t 4=.ptr 2 0 0∧t 5=.ptr 6 0 0∧(∃wG wL wo pv g,h=.live 6 false false [s.cells]::.live 6 false false [[.int .i64 hr,slv 1 true nG (G.map iv),.int .i64 own,.int .i64 fuel,slv 1 true nL (L.map iv),slv 5 true nO (O.map BTrade.cells)]]::.live 6 false false [[.int .i64 0,.nils,.int .i64 0,.int .i64 0,.nils,.nils]]::.live 1 true wG (r.1.map iv)::.live 1 true wL (r.2.1.map iv)::.live 5 true false (O.map BTrade.cells)::.live 6 false wo [[.int .i64 hr,.slr 1 3 0 s.cons.length,.int .i64 own,.int .i64 fuel,.slr 1 4 0 s.cons.length,pv]]::g∧((r.2.2=[]∧pv=.nils)∨(r.2.2≠[]∧∃b,pv=.slr 5 (b+7) 0 r.2.2.length∧g[b]?=some (.live 5 true false (r.2.2.map BTrade.cells)))))) ?_ ?_ (G,L,[]) _ _ ?_) (fun e t h hk=>?_)
 ·rintro⟨G',L',p⟩ t h Q' kQ ⟨h2,h3,h4,h5,h6,⟨wG,wL,wo,pv,g,rfl,hG',hL',hpl,hp⟩⟩
  try dsimp only at *
  (have hb:=trivial;with_reducible repeat' (first|simp only[hb,Vc.down,seval,TY75.down,h2,h3,h4,h5,h6,Int.lt_irrefl,decide_false,List.length_map]|refine fsp ?_ ?_<;>intro hb|refine fd ?_|fail))
  exact kQ _ _ _ ⟨rfl,by simp[up,h4],by simp[up,h5],wG,wL,wo,pv,g,rfl,hp⟩
 ·rintro x rest i ⟨G',L',p⟩ t h J Q' kJ kQ hx hi ⟨h2,h3,h4,h5,h6,⟨wG,wL,wo,pv,g,rfl,hG',hL',hpl,hp⟩⟩
  have hd:decide ((i:Int)<(O.length:Int))=true:=decide_eq_true (by omega)
  have hw:=wrap_next hi hl'
  try dsimp only at *
  obtain⟨⟨f0,f1⟩,k0,k1⟩:=ho x (List.mem_of_getElem? hx)
  have e1:(0≤x.to)=True:=eq_true k0
  have e2:(x.to<(s.cons.length:Int))=True:=eq_true (by omega)
  have e4:(0≤x.frm)=True:=eq_true f0
  have e5:(x.frm<(s.cons.length:Int))=True:=eq_true (by omega)
  obtain⟨ct,hct⟩:∃c,s.cons[x.to.toNat]?=some c:=⟨_,List.getElem?_eq_getElem (by omega)⟩
  obtain⟨cf,hcf⟩:∃c,s.cons[x.frm.toNat]?=some c:=⟨_,List.getElem?_eq_getElem (by omega)⟩
  have a1:G'[x.to.toNat]?=some (gI G' x.to):=gI_at (by omega)
  have a2:L'[x.to.toNat]?=some (gI L' x.to):=gI_at (by omega)
  have a3:G'[x.frm.toNat]?=some (gI G' x.frm):=gI_at (by omega)
  have a4:L'[x.frm.toNat]?=some (gI L' x.frm):=gI_at (by omega)
  have a5:∀v,(sI G' x.to v)[x.frm.toNat]?=some (gI (sI G' x.to v) x.frm):=fun v=>gI_at (by rw[sI_length];omega)
  have a6:∀v,(sI L' x.to v)[x.frm.toNat]?=some (gI (sI L' x.to v) x.frm):=fun v=>gI_at (by rw[sI_length];omega)
  cases hbk:(x.back==hr)with
  |false=>
   rcases hp with⟨rfl,rfl⟩|⟨hpn,b,rfl,hgb⟩
   ·(have hb:=trivial;with_reducible repeat' (first|simp only[hb,Vc.down,seval,TY75.down,h2,h3,h5,h6,hd,hx,hw,hbk,BTrade.cells,Bool.not_false]|refine fsp ?_ ?_<;>intro hb|refine fd ?_|fail))
    (refine rnd_go (kJ _ _ (G',L',[x]) ⟨?_,?_,?_,?_,?_,⟨wG,wL,true,_,_,rfl,hG',hL',by simp<;>omega,.inr ⟨by simp,g.length+2,by simp,by simp[BTrade.cells]⟩⟩⟩ ?_);(simp[up,h2]);(simp[up,h3]);(simp[up,h4]);(simp[up,h5]);(simp[up]);(simp[retF,hbk]))
   ·have hbl:b<g.length:=(List.getElem?_eq_some_iff.1 hgb).1
    have hA:=get_app hgb
    have hS:=set_app hbl
    have hi39:(p.length+1≤549755813888)=True:=eq_true (by have:=hpl;omega)
    (have hb:=trivial;with_reducible repeat' (first|simp only[hb,Vc.down,seval,TY75.down,h2,h3,h5,h6,hd,hx,hw,hbk,BTrade.cells,hA,hS,gset0,gsetk,List.length_set,List.length_map,hi39,Bool.not_false]|refine fsp ?_ ?_<;>intro hb|refine fd ?_|fail))
    (refine rnd_go (kJ _ _ (G',L',p++[x]) ⟨?_,?_,?_,?_,?_,⟨wG,wL,true,_,_,rfl,hG',hL',by simp<;>omega,.inr ⟨by simp,g.length+2,by simp,by rw[gsetk];simp[BTrade.cells]⟩⟩⟩ ?_);(simp[up,h2]);(simp[up,h3]);(simp[up,h4]);(simp[up,h5]);(simp[up]);(simp[retF,hbk]))
  |true=>
   have hpg:∀l:Heap,((p=[]∧pv=.nils)∨(p≠[]∧∃b,pv=.slr 5 (b+7) 0 p.length∧(g++l)[b]?=some (.live 5 true false (p.map BTrade.cells)))):=fun l=>by
    rcases hp with h|⟨h,b,h',h''⟩
    ·exact .inl h
    ·exact .inr ⟨h,b,h',get_app h'' _⟩
   (have hb:=trivial;with_reducible repeat' (first|simp only[hb,Vc.down,seval,TY75.down,h2,h3,h5,h6,hd,hx,hw,hbk,BTrade.cells,BCon.cells,e1,e2,e4,e5,a1,a2,a3,a4,a5,a6,hct,hcf,iv,sI_map,Bool.not_true,List.length_map]|refine fsp ?_ ?_<;>intro hb|((refine fw_gdF (g.length) 7 ?_ ?_);(simp (discharger:=decide) only[lg_nil,lg_cons,List.map_cons,List.map_nil,mf_cells,mf_blk,mf_all,ef_new,ef_cells,sft_lit,sft_add,List.length_cons,List.length_nil];kernel_rfl);intro _)|refine fdq ?_|fail))
   (refine rnd_go (kJ _ _ (retG s.cons x G',retL s.cons x G' L',p) ⟨?_,?_,?_,?_,?_,⟨true,true,wo,pv,_,by simp[retG,retL,givesR,paysR,mn,spaceOf,lackOf,hcf,hct];rfl,by rw[retG_length];exact hG',by rw[retL_length];exact hL',Nat.le_succ_of_le hpl,hpg _⟩⟩ ?_);(simp[up,h2]);(simp[up,h3]);(simp[up,h4]);(simp[up,h5]);(simp[up]);(simp[retF,hbk]))
 ·exact⟨by simp[up,ent],by simp[up,ent],by simp[up,ent],by simp[up,ent],by simp[up],⟨_,_,_,_,[],rfl,hG,hL,Nat.le_refl _,.inl ⟨rfl,rfl⟩⟩⟩
 ·obtain⟨rfl,h4,h5,wG,wL,wo,pv,g,rfl,hp⟩:=hk
  generalize hr0:retF s.cons hr O (G,L,[])=r at *
  obtain⟨G',L',p⟩:=r
  dsimp only at *
  rcases hp with⟨hp,rfl⟩|⟨hp,b,rfl,hgb⟩
  ·(have hb:=trivial;with_reducible repeat' (first|simp only[hb,Vc.down,seval,TY75.down,h4,h5]|refine fsp ?_ ?_<;>intro hb|refine fd ?_|fail))
   exact⟨wG,wL,.inl ⟨hp,rfl,rfl⟩⟩
  ·(have hb:=trivial;with_reducible repeat' (first|simp only[hb,Vc.down,seval,TY75.down,h4,h5,hgb]|refine fsp ?_ ?_<;>intro hb|refine fd ?_|fail))
   exact⟨wG,wL,.inr ⟨hp,rfl,rfl⟩⟩
theorem gI_ne{l:List Int}{i j:Int}(hi:0≤i)(hj:0≤j)(h:i≠j)(v:Int):gI (sI l i v) j=gI l j:=by
 unfold gI sI
 rw[List.getElem?_set_ne (by omega)]
theorem tradeG_flat{t:BTrade}{G:List Int}{n:Nat}(h:t.ok n)(hne:t.frm≠t.to):tradeG t G=sI (sI G t.frm (IntKind.i64.wrap (gI G t.frm-t.amount))) t.to (IntKind.i64.wrap (gI G t.to+t.amount)):=by
 unfold tradeG
 rw[gI_ne h.1.1 h.2.1 hne]
def TrdQ(n:Nat)(hr own fuel:Int)(G L:List Int)(O:List BTrade)(R:List Int)(o:Out)(h:Heap):Prop:=
 ∃w1 w2 w3 w4:Bool,
  (O=[]∧R=[]∧o=.ret (.tup [.agg [.int .i64 hr,.slr 1 0 0 n,.int .i64 own,.int .i64 fuel,.slr 1 1 0 n,.nils],.nils])∧h=[lv1 w1 G,lv1 w2 L])∨
  (O≠[]∧R=[]∧o=.ret (.tup [.agg [.int .i64 hr,.slr 1 0 0 n,.int .i64 own,.int .i64 fuel,.slr 1 1 0 n,.slr 5 2 0 O.length],.nils])∧h=[lv1 w1 G,lv1 w2 L,lv5 w3 O])∨
  (O=[]∧R≠[]∧o=.ret (.tup [.agg [.int .i64 hr,.slr 1 0 0 n,.int .i64 own,.int .i64 fuel,.slr 1 1 0 n,.nils],.slr 1 2 0 R.length])∧h=[lv1 w1 G,lv1 w2 L,lv1 w4 R])∨
  (O≠[]∧R≠[]∧o=.ret (.tup [.agg [.int .i64 hr,.slr 1 0 0 n,.int .i64 own,.int .i64 fuel,.slr 1 1 0 n,.slr 5 2 0 O.length],.slr 1 3 0 R.length])∧h=[lv1 w1 G,lv1 w2 L,lv5 w3 O,lv1 w4 R])
theorem r_tradedN{s:BStore}{d:BDay}{hr own fuel:Int}{nG nL nO:Bool}{G L:List Int}{O:List BTrade}(hl:s.cons.length≤1000)(hne:s.cons≠[])(hG:G.length=s.cons.length)(hL:L.length=s.cons.length)(hOl:O.length≤1000)(hd50:d.trades.length≤1000)(hto:∀t∈d.trades,t.ok s.cons.length∧t.frm≠t.to∧(t.back= -1∨0≤t.back))(hO:O=[]):
 ClQ om' 74 [.agg s.cells,.agg [.int .i64 hr,slv 1 true nG (G.map iv),.int .i64 own,.int .i64 fuel,slv 1 true nL (L.map iv),slv 5 true nO (O.map BTrade.cells)],.agg d.cells] []
  (TrdQ s.cons.length hr own fuel (tradesF s.cons hr d.trades 0 (G,O,[])).1 L (tradesF s.cons hr d.trades 0 (G,O,[])).2.1 (tradesF s.cons hr d.trades 0 (G,O,[])).2.2):=by
 have hl':d.trades.length≤maxLen:=by unfold maxLen;omega
 have hp0:0<s.cons.length:=List.length_pos_iff.2 hne
 have hGn:G≠[]:=fun e=>by rw[e]at hG;simp at hG;omega
 have hLn:L≠[]:=fun e=>by rw[e]at hL;simp at hL;omega
 have hcp:=r_CopyN (hr:=hr) (own:=own) (fuel:=fuel) (nG:=nG) (nL:=nL) (nO:=nO) (by omega) (by omega) hGn hLn hO
 rw[hG,hL]at hcp
 refine stOf rfl Tryz.func74 rfl rfl ?_
 simp only[Tryz.f74]
 (have hb:=trivial;with_reducible repeat' (first|simp only[hb,Vc.down,seval,TY74.down,hcp,BDay.cells]|refine fsp ?_ ?_<;>intro hb|refine fd ?_|fail))
 refine fw_ot (lst 113 d.trades (fun i (zz:List Int × List BTrade × List Int × Nat) t h=>t 3=.ptr 0 0 0∧t 4=.ptr 1 0 0∧t 5=.ptr 2 0 0∧t 6=.ptr 3 0 0∧t 8=.ptr 6 0 0∧t 10=.int .i64 i∧(∃wG wo ov g,h=.live 6 false false [s.cells]::.live 6 false false [[.int .i64 hr,slv 1 true nG (G.map iv),.int .i64 own,.int .i64 fuel,slv 1 true nL (L.map iv),slv 5 true nO (O.map BTrade.cells)]]::.live 3 false false [d.cells]::.live 6 false false [[.int .i64 0,.nils,.int .i64 0,.int .i64 0,.nils,.nils]]::.live 1 true wG (zz.1.map iv)::.live 1 true false (L.map iv)::.live 6 false wo [[.int .i64 hr,.slr 1 4 0 s.cons.length,.int .i64 own,.int .i64 fuel,.slr 1 5 0 s.cons.length,ov]]::g∧zz.1.length=s.cons.length∧zz.2.1.length≤O.length+i∧zz.2.2.1.length≤i∧i=zz.2.2.2∧OwnS 7 1 true (zz.2.2.1.map iv) (t 9) g∧Sep ov (t 9)∧(zz.2.2.1=[]→t 9=.nils)∧((zz.2.1=[]∧ov=.nils)∨(zz.2.1≠[]∧∃b w,ov=.slr 5 (b+7) 0 zz.2.1.length∧g[b]?=some (.live 5 true w (zz.2.1.map BTrade.cells)))))) (fun rest zz=>tradesF s.cons hr rest zz.2.2.2 (zz.1,zz.2.1,zz.2.2.1)) (fun r e t h=>e=.exit 0∧t 6=.ptr 3 0 0∧t 8=.ptr 6 0 0∧(∃wG wo ov g,h=.live 6 false false [s.cells]::.live 6 false false [[.int .i64 hr,slv 1 true nG (G.map iv),.int .i64 own,.int .i64 fuel,slv 1 true nL (L.map iv),slv 5 true nO (O.map BTrade.cells)]]::.live 3 false false [d.cells]::.live 6 false false [[.int .i64 0,.nils,.int .i64 0,.int .i64 0,.nils,.nils]]::.live 1 true wG (r.1.map iv)::.live 1 true false (L.map iv)::.live 6 false wo [[.int .i64 hr,.slr 1 4 0 s.cons.length,.int .i64 own,.int .i64 fuel,.slr 1 5 0 s.cons.length,ov]]::g∧OwnS 7 1 true (r.2.2.map iv) (t 9) g∧Sep ov (t 9)∧(r.2.2=[]→t 9=.nils)∧((r.2.1=[]∧ov=.nils)∨(r.2.1≠[]∧∃b w,ov=.slr 5 (b+7) 0 r.2.1.length∧g[b]?=some (.live 5 true w (r.2.1.map BTrade.cells)))))) ?_ ?_ (G,O,[],0) _ _ ?_) (fun e t h hk=>?_)
 ·rintro⟨G',O',R,k⟩ t h Q' kQ ⟨h3,h4,h5,h6,h8,h10,⟨wG,wo,ov,g,rfl,hG',hOl',hRl,rfl,hrow,hsp,hrn,hov⟩⟩
  try dsimp only at *
  (have hb:=trivial;with_reducible repeat' (first|simp only[hb,Vc.down,seval,TY74.down,h3,h4,h5,h6,h8,h10,Int.lt_irrefl,decide_false,List.length_map]|refine fsp ?_ ?_<;>intro hb|refine fd ?_|fail))
  exact kQ _ _ _ ⟨rfl,by simp[up,h6],by simp[up,h8],wG,wo,ov,g,rfl,by simpa [up,tradesF]using hrow,by simpa [up]using hsp,by simpa [up,tradesF]using hrn,by simpa [tradesF]using hov⟩
 ·rintro x rest i ⟨G',O',R,k⟩ t h J Q' kJ kQ hx hi ⟨h3,h4,h5,h6,h8,h10,⟨wG,wo,ov,g,rfl,hG',hOl',hRl,rfl,hrow,hsp,hrn,hov⟩⟩
  have hd:decide ((i:Int)<(d.trades.length:Int))=true:=decide_eq_true (by omega)
  have hw:=wrap_next hi hl'
  try dsimp only at *
  obtain⟨⟨⟨f0,f1⟩,k0,k1⟩,hft,hbk0⟩:=hto x (List.mem_of_getElem? hx)
  have hok:x.ok s.cons.length:=⟨⟨f0,f1⟩,k0,k1⟩
  have e1:(0≤x.to)=True:=eq_true k0
  have e2:(x.to<(s.cons.length:Int))=True:=eq_true (by omega)
  have e4:(0≤x.frm)=True:=eq_true f0
  have e5:(x.frm<(s.cons.length:Int))=True:=eq_true (by omega)
  obtain⟨ct,hct⟩:∃c,s.cons[x.to.toNat]?=some c:=⟨_,List.getElem?_eq_getElem (by omega)⟩
  have a1:G'[x.to.toNat]?=some (gI G' x.to):=gI_at (by omega)
  have a3:G'[x.frm.toNat]?=some (gI G' x.frm):=gI_at (by omega)
  have a5:∀v,(sI G' x.frm v)[x.to.toNat]?=some (gI (sI G' x.frm v) x.to):=fun v=>gI_at (by rw[sI_length];omega)
  have hbk1:decide (0≤x.back)= !(x.back== -1):=by
   rw[Bool.eq_iff_iff]
   simp only[decide_eq_true_eq,Bool.not_eq_true',beq_eq_false_iff_ne]
   omega
  have hln:ln Tryz.prog 46 (some ov)=some (.ret (.int .i64 O'.length),[]):=by
   rcases hov with⟨h,rfl⟩|⟨_,b,w,rfl,_⟩
   ·rw[h];simp[Ev.ln,aLen,Tryz.underlying46,r1]
   ·simp[Ev.ln,aLen,Tryz.underlying46,r1]
  have hcv:acells ov=[ov]:=by
   rcases hov with⟨h,rfl⟩|⟨_,b,w,rfl,_⟩<;>rfl
  obtain⟨rv,hrv⟩:∃v,v=t 9:=⟨_,rfl⟩
  rw[←hrv]at hrow hsp hrn
  have hc2:=OwnS.cell hrow
  replace hrv:=hrv.symm
  cases hbk:(x.hour==hr)with
  |false=>
   (have hb:=trivial;with_reducible repeat' (first|simp only[hb,Vc.down,seval,TY74.down,hbk,hrv,h3,h4,h5,h8,h10,hd,hx,hw,BTrade.cells,BCon.cells,e1,e2,e4,e5,a1,a3,a5,hct,iv,sI_map,List.length_map,Bool.not_false,Bool.not_true,Nat.add_zero]|refine fsp ?_ ?_<;>intro hb|((refine fw_gdF (g.length) 7 ?_ ?_);(simp (discharger:=decide) only[lg_nil,lg_cons,List.map_cons,List.map_nil,mf_cells,mf_blk,mf_all,ef_new,ef_cells,sft_lit,sft_add,List.length_cons,List.length_nil];kernel_rfl);intro _)|refine fdq ?_|fail))
   (refine rnd_go (kJ _ _ (G',O',R,i+1) ⟨?_,?_,?_,?_,?_,?_,⟨wG,wo,ov,_,rfl,hG',by dsimp only;omega,by dsimp only;omega,rfl,by simp only[up,Nat.reduceEqDiff,if_false,hrv];exact hrow.app _,by simp only[up,Nat.reduceEqDiff,if_false,hrv];exact hsp,by simp only[up,Nat.reduceEqDiff,if_false,hrv];exact hrn,hov.imp id fun⟨h,b,w,e,hb⟩=>⟨h,b,w,e,get_app hb _⟩⟩⟩ ?_);(simp[up,h3]);(simp[up,h4]);(simp[up,h5]);(simp[up,h6]);(simp[up,h8]);(simp[up]);(simp[tradesF,hbk]))
  |true=>
   have hap1:=fun(q:Heap) (r:List AV)=>apK_own hrow (pre:=[.live 6 false false [s.cells],.live 6 false false [[.int .i64 hr,slv 1 true nG (G.map iv),.int .i64 own,.int .i64 fuel,slv 1 true nL (L.map iv),slv 5 true nO (O.map BTrade.cells)]],.live 3 false false [d.cells],.live 6 false false [[.int .i64 0,.nils,.int .i64 0,.int .i64 0,.nils,.nils]],.live 1 true wG (G'.map iv),.live 1 true false (L.map iv),.live 6 false wo [[.int .i64 hr,.slr 1 4 0 s.cons.length,.int .i64 own,.int .i64 fuel,.slr 1 5 0 s.cons.length,ov]]]) rfl q r [] (by simp;omega)
   have hhp1:=fun(q:Heap) (r:List (List AV)) (ba:Nat)=>happ_apE hrow (pre:=[.live 6 false false [s.cells],.live 6 false false [[.int .i64 hr,slv 1 true nG (G.map iv),.int .i64 own,.int .i64 fuel,slv 1 true nL (L.map iv),slv 5 true nO (O.map BTrade.cells)]],.live 3 false false [d.cells],.live 6 false false [[.int .i64 0,.nils,.int .i64 0,.int .i64 0,.nils,.nils]],.live 1 true wG (G'.map iv),.live 1 true false (L.map iv),.live 6 false wo [[.int .i64 hr,.slr 1 4 0 s.cons.length,.int .i64 own,.int .i64 fuel,.slr 1 5 0 s.cons.length,ov]]]) rfl q 1 true r ba
   simp only[List.cons_append,List.append_assoc,List.nil_append,List.length_map,List.length_cons,List.length_append,List.length_nil,kl_length,Nat.reduceAdd]at hap1 hhp1
   have hovk:∀l:Heap,((O'=[]∧ov=.nils)∨(O'≠[]∧∃b w,ov=.slr 5 (b+7) 0 O'.length∧(kl 7 rv g++l)[b]?=some (.live 5 true w (O'.map BTrade.cells)))):=fun l=>by
    rcases hov with h|⟨h,b,w,e,hb⟩
    ·exact .inl h
    ·refine .inr ⟨h,b,w,e,get_app ?_ l⟩
     rcases hrow with⟨_,rfl⟩|⟨b2,w2,rfl,hb2⟩
     ·exact hb
     ·have hne2:b2≠b:=fun e2=>hsp _ _ _ _ _ _ _ _ e rfl (by omega)
      simp only[kl,Nat.add_sub_cancel]
      rw[List.getElem?_set_ne hne2];exact hb
   cases hno:tradeNo s.cons x G' O'.length with
   |true=>
    have hno':=hno
    simp only[tradeNo,spaceOf,hct,Option.map_some,Option.getD_some]at hno'
    cases d1:decide (gI G' x.frm<x.amount)with
    |true=>
     (have hb:=trivial;with_reducible repeat' (first|simp only[hb,Vc.down,seval,TY74.down,h3,h4,h5,h8,h10,hd,hx,hw,BTrade.cells,BCon.cells,e1,e2,e4,e5,a1,a3,a5,hct,iv,sI_map,List.length_map,Bool.not_false,Bool.not_true,Nat.add_zero,d1,hbk,hrv,hcv,hln,kl_get,kl_length,hc2,hap1,hhp1]|refine fsp ?_ ?_<;>intro hb|((refine fw_gdF (g.length) 7 ?_ ?_);(simp (discharger:=decide) only[lg_nil,lg_cons,List.map_cons,List.map_nil,mf_cells,mf_blk,mf_all,ef_new,ef_cells,sft_lit,sft_add,List.length_cons,List.length_nil];kernel_rfl);intro _)|refine fdq ?_|fail))
     (refine rnd_go (kJ _ _ (G',O',R++[(i:Int)],i+1) ⟨?_,?_,?_,?_,?_,?_,⟨wG,wo,ov,_,rfl,hG',by dsimp only;omega,by simp;omega,rfl,by simp only[up,Nat.reduceEqDiff,if_true];exact OwnS.blk (b:=g.length+2) (w:=false) (by simp[kl_get,iv]) (by omega) (by simp),by simp only[up,Nat.reduceEqDiff,if_true];(rcases hov with⟨_,rfl⟩|⟨_,b,w,rfl,hgb⟩;exact Sep.nils' _;exact OwnS.sep (k:=7) (OwnS.blk (k:=7) (n:=O'.length) (by exact hgb) rfl (by simp)) (by omega)),fun h=>absurd h (by simp),hovk _⟩⟩ ?_);(simp[up,h3]);(simp[up,h4]);(simp[up,h5]);(simp[up,h6]);(simp[up,h8]);(simp[up]);(simp[tradesF,hbk,hno]))
    |false=>
     cases d2:decide (IntKind.i64.wrap (ct.space-gI G' x.to)<x.amount)with
     |true=>
      (have hb:=trivial;with_reducible repeat' (first|simp only[hb,Vc.down,seval,TY74.down,h3,h4,h5,h8,h10,hd,hx,hw,BTrade.cells,BCon.cells,e1,e2,e4,e5,a1,a3,a5,hct,iv,sI_map,List.length_map,Bool.not_false,Bool.not_true,Nat.add_zero,d1,d2,hbk,hrv,hcv,hln,kl_get,kl_length,hc2,hap1,hhp1]|refine fsp ?_ ?_<;>intro hb|((refine fw_gdF (g.length) 7 ?_ ?_);(simp (discharger:=decide) only[lg_nil,lg_cons,List.map_cons,List.map_nil,mf_cells,mf_blk,mf_all,ef_new,ef_cells,sft_lit,sft_add,List.length_cons,List.length_nil];kernel_rfl);intro _)|refine fdq ?_|fail))
      (refine rnd_go (kJ _ _ (G',O',R++[(i:Int)],i+1) ⟨?_,?_,?_,?_,?_,?_,⟨wG,wo,ov,_,rfl,hG',by dsimp only;omega,by simp;omega,rfl,by simp only[up,Nat.reduceEqDiff,if_true];exact OwnS.blk (b:=g.length+2) (w:=false) (by simp[kl_get,iv]) (by omega) (by simp),by simp only[up,Nat.reduceEqDiff,if_true];(rcases hov with⟨_,rfl⟩|⟨_,b,w,rfl,hgb⟩;exact Sep.nils' _;exact OwnS.sep (k:=7) (OwnS.blk (k:=7) (n:=O'.length) (by exact hgb) rfl (by simp)) (by omega)),fun h=>absurd h (by simp),hovk _⟩⟩ ?_);(simp[up,h3]);(simp[up,h4]);(simp[up,h5]);(simp[up,h6]);(simp[up,h8]);(simp[up]);(simp[tradesF,hbk,hno]))
     |false=>
      rw[d1,d2]at hno'
      have d3:(x.back== -1)=false:=by simpa using (by simpa using hno':_∧_).1
      have d4:decide ((50:Int)≤(O'.length:Int))=true:=by simpa using (by simpa using hno':_∧_).2
      rw[d3]at hbk1
      (have hb:=trivial;with_reducible repeat' (first|simp only[hb,Vc.down,seval,TY74.down,h3,h4,h5,h8,h10,hd,hx,hw,BTrade.cells,BCon.cells,e1,e2,e4,e5,a1,a3,a5,hct,iv,sI_map,List.length_map,Bool.not_false,Bool.not_true,Nat.add_zero,d1,d2,hbk1,d4,hbk,hrv,hcv,hln,kl_get,kl_length,hc2,hap1,hhp1]|refine fsp ?_ ?_<;>intro hb|((refine fw_gdF (g.length) 7 ?_ ?_);(simp (discharger:=decide) only[lg_nil,lg_cons,List.map_cons,List.map_nil,mf_cells,mf_blk,mf_all,ef_new,ef_cells,sft_lit,sft_add,List.length_cons,List.length_nil];kernel_rfl);intro _)|refine fdq ?_|fail))
      (refine rnd_go (kJ _ _ (G',O',R++[(i:Int)],i+1) ⟨?_,?_,?_,?_,?_,?_,⟨wG,wo,ov,_,rfl,hG',by dsimp only;omega,by simp;omega,rfl,by simp only[up,Nat.reduceEqDiff,if_true];exact OwnS.blk (b:=g.length+2) (w:=false) (by simp[kl_get,iv]) (by omega) (by simp),by simp only[up,Nat.reduceEqDiff,if_true];(rcases hov with⟨_,rfl⟩|⟨_,b,w,rfl,hgb⟩;exact Sep.nils' _;exact OwnS.sep (k:=7) (OwnS.blk (k:=7) (n:=O'.length) (by exact hgb) rfl (by simp)) (by omega)),fun h=>absurd h (by simp),hovk _⟩⟩ ?_);(simp[up,h3]);(simp[up,h4]);(simp[up,h5]);(simp[up,h6]);(simp[up,h8]);(simp[up]);(simp[tradesF,hbk,hno]))
   |false=>
    have hno':=hno
    simp only[tradeNo,spaceOf,hct,Option.map_some,Option.getD_some,Bool.or_eq_false_iff]at hno'
    obtain⟨⟨d1,d2⟩,d3⟩:=hno'
    have hfl:=tradeG_flat (G:=G') hok hft
    have hGl:(tradeG x G').length=s.cons.length:=by rw[tradeG_length];exact hG'
    cases c1:(x.back== -1)with
    |true=>
     rw[c1]at hbk1
     (have hb:=trivial;with_reducible repeat' (first|simp only[hb,Vc.down,seval,TY74.down,h3,h4,h5,h8,h10,hd,hx,hw,BTrade.cells,BCon.cells,e1,e2,e4,e5,a1,a3,a5,hct,iv,sI_map,List.length_map,Bool.not_false,Bool.not_true,Nat.add_zero,d1,d2,hbk1,hbk,hrv,hcv,hln,kl_get,kl_length,hc2,hap1,hhp1]|refine fsp ?_ ?_<;>intro hb|((refine fw_gdF (g.length) 7 ?_ ?_);(simp (discharger:=decide) only[lg_nil,lg_cons,List.map_cons,List.map_nil,mf_cells,mf_blk,mf_all,ef_new,ef_cells,sft_lit,sft_add,List.length_cons,List.length_nil];kernel_rfl);intro _)|refine fdq ?_|fail))
     rw[←hfl]
     (refine rnd_go (kJ _ _ (tradeG x G',O',R,i+1) ⟨?_,?_,?_,?_,?_,?_,⟨true,wo,ov,_,rfl,hGl,by dsimp only;omega,by dsimp only;omega,rfl,by simp only[up,Nat.reduceEqDiff,if_false,hrv];exact hrow.app _,by simp only[up,Nat.reduceEqDiff,if_false,hrv];exact hsp,by simp only[up,Nat.reduceEqDiff,if_false,hrv];exact hrn,hov.imp id fun⟨h,b,w,e,hb⟩=>⟨h,b,w,e,get_app hb _⟩⟩⟩ ?_);(simp[up,h3]);(simp[up,h4]);(simp[up,h5]);(simp[up,h6]);(simp[up,h8]);(simp[up]);(simp[tradesF,hbk,hno,c1]))
    |false=>
     rw[c1]at hbk1
     have d4:decide ((50:Int)≤(O'.length:Int))=false:=by rw[c1]at d3;simpa using d3
     rcases hov with⟨rfl,rfl⟩|⟨hO',b,w,rfl,hgb⟩
     ·have d5:decide ((50:Int)≤0)=false:=rfl
      have hno0:tradeNo s.cons x G' 0=false:=hno
      (have hb:=trivial;with_reducible repeat' (first|simp only[hb,Vc.down,seval,TY74.down,h3,h4,h5,h8,h10,hd,hx,hw,BTrade.cells,BCon.cells,e1,e2,e4,e5,a1,a3,a5,hct,iv,sI_map,List.length_map,Bool.not_false,Bool.not_true,Nat.add_zero,d1,d2,hbk1,d4,d5,List.length_nil,Int.natCast_zero,hbk,hrv,hcv,hln,kl_get,kl_length,hc2,hap1,hhp1]|refine fsp ?_ ?_<;>intro hb|((refine fw_gdF (g.length) 7 ?_ ?_);(simp (discharger:=decide) only[lg_nil,lg_cons,List.map_cons,List.map_nil,mf_cells,mf_blk,mf_all,ef_new,ef_cells,sft_lit,sft_add,List.length_cons,List.length_nil];kernel_rfl);intro _)|refine fdq ?_|fail))
      rw[←hfl]
      (refine rnd_go (kJ _ _ (tradeG x G',[]++[x],R,i+1) ⟨?_,?_,?_,?_,?_,?_,⟨true,true,_,_,rfl,hGl,by simp;omega,by dsimp only;omega,rfl,by simp only[up,Nat.reduceEqDiff,if_false,hrv];exact hrow.app _,by simp only[up,Nat.reduceEqDiff,if_false,hrv];exact(hrow.sep (by omega)).symm,by simp only[up,Nat.reduceEqDiff,if_false,hrv];exact hrn,.inr ⟨by simp,g.length+2,false,by simp,by simp[BTrade.cells]⟩⟩⟩ ?_);(simp[up,h3]);(simp[up,h4]);(simp[up,h5]);(simp[up,h6]);(simp[up,h8]);(simp[up]);(simp[tradesF,hbk,hno0,c1]))
     ·have hbl:b<g.length:=(List.getElem?_eq_some_iff.1 hgb).1
      have hA:=get_app hgb
      have hS:=set_app hbl
      have hi39:(O'.length+1≤549755813888)=True:=eq_true (by omega)
      have hrk:∀l,OwnS 7 1 true (R.map iv) rv (g.set b .dead++l):=fun l=>by
       have:=hrow.kl (OwnS.blk (k:=7) (n:=O'.length) (by exact hgb) rfl (by simp)) hsp
       simp only[kl,Nat.add_sub_cancel]at this
       exact this.app l
      (have hb:=trivial;with_reducible repeat' (first|simp only[hb,Vc.down,seval,TY74.down,h3,h4,h5,h8,h10,hd,hx,hw,BTrade.cells,BCon.cells,e1,e2,e4,e5,a1,a3,a5,hct,iv,sI_map,List.length_map,Bool.not_false,Bool.not_true,Nat.add_zero,d1,d2,hbk1,d4,hA,hS,gset0,gsetk,List.length_set,hi39,hbk,hrv,hcv,hln,kl_get,kl_length,hc2,hap1,hhp1]|refine fsp ?_ ?_<;>intro hb|((refine fw_gdF (g.length) 7 ?_ ?_);(simp (discharger:=decide) only[lg_nil,lg_cons,List.map_cons,List.map_nil,mf_cells,mf_blk,mf_all,ef_new,ef_cells,sft_lit,sft_add,List.length_cons,List.length_nil];kernel_rfl);intro _)|refine fdq ?_|fail))
      rw[←hfl]
      (refine rnd_go (kJ _ _ (tradeG x G',O'++[x],R,i+1) ⟨?_,?_,?_,?_,?_,?_,⟨true,true,_,_,rfl,hGl,by simp;omega,by dsimp only;omega,rfl,by simp only[up,Nat.reduceEqDiff,if_false,hrv];exact hrk _,by simp only[up,Nat.reduceEqDiff,if_false,hrv];exact(hrow.sep (by omega)).symm,by simp only[up,Nat.reduceEqDiff,if_false,hrv];exact hrn,.inr ⟨by simp,g.length+2,false,by simp,by rw[gsetk];simp[BTrade.cells]⟩⟩⟩ ?_);(simp[up,h3]);(simp[up,h4]);(simp[up,h5]);(simp[up,h6]);(simp[up,h8]);(simp[up]);(simp[tradesF,hbk,hno,c1]))
 ·exact⟨by simp[up,ent],by simp[up,ent],by simp[up,ent],by simp[up,ent],by simp[up,ent],by simp[up],⟨_,_,_,[],rfl,hG,by simp,by simp,rfl,by simp only[up,Nat.reduceEqDiff,if_false,if_true];exact .inl ⟨rfl,rfl⟩,by simp only[up,Nat.reduceEqDiff,if_false,if_true];exact Sep.nils _,by simp[up],.inl ⟨hO,rfl⟩⟩⟩
 ·obtain⟨rfl,h6,h8,wG,wo,ov,g,rfl,hrow,hsp,hrn,hov⟩:=hk
  generalize hr0:tradesF s.cons hr d.trades 0 (G,O,[])=r at *
  obtain⟨G',O',R⟩:=r
  dsimp only at *
  rcases hov with⟨hO2,rfl⟩|⟨hO2,b,w,rfl,hgb⟩<;>rcases hrow with⟨hR0,h9⟩|⟨b2,w2,h9,hgr⟩
  ·(have hb:=trivial;with_reducible repeat' (first|simp only[hb,Vc.down,seval,TY74.down,h6,h8,h9]|refine fsp ?_ ?_<;>intro hb|refine fd ?_|fail))
   exact⟨wG,false,false,false,.inl ⟨hO2,List.map_eq_nil_iff.1 hR0,rfl,rfl⟩⟩
  ·rw[List.length_map]at h9
   (have hb:=trivial;with_reducible repeat' (first|simp only[hb,Vc.down,seval,TY74.down,h6,h8,h9,hgr]|refine fsp ?_ ?_<;>intro hb|refine fd ?_|fail))
   exact⟨wG,false,false,w2,.inr (.inr (.inl ⟨hO2,(fun h=>by have:=hrn h;rw[h9]at this;cases this),rfl,rfl⟩))⟩
  ·(have hb:=trivial;with_reducible repeat' (first|simp only[hb,Vc.down,seval,TY74.down,h6,h8,h9,hgb]|refine fsp ?_ ?_<;>intro hb|refine fd ?_|fail))
   exact⟨wG,false,w,false,.inr (.inl ⟨hO2,List.map_eq_nil_iff.1 hR0,rfl,rfl⟩)⟩
  ·rw[List.length_map]at h9
   have hne1:(b=b2)=False:=eq_false fun e=>hsp _ _ _ _ _ _ _ _ rfl h9 (by omega)
   have hne2:(b2=b)=False:=eq_false fun e=>hsp _ _ _ _ _ _ _ _ rfl h9 (by omega)
   (have hb:=trivial;with_reducible repeat' (first|simp only[hb,Vc.down,seval,TY74.down,h6,h8,h9,hgb,hgr,hne1,hne2]|refine fsp ?_ ?_<;>intro hb|refine fd ?_|fail))
   exact⟨wG,false,w,w2,.inr (.inr (.inr ⟨hO2,(fun h=>by have:=hrn h;rw[h9]at this;cases this),rfl,rfl⟩))⟩
theorem r_tradedB{s:BStore}{d:BDay}{hr own fuel:Int}{nG nL nO:Bool}{G L:List Int}{O:List BTrade}(hl:s.cons.length≤1000)(hne:s.cons≠[])(hG:G.length=s.cons.length)(hL:L.length=s.cons.length)(hOl:O.length≤1000)(hd50:d.trades.length≤1000)(hto:∀t∈d.trades,t.ok s.cons.length∧t.frm≠t.to∧(t.back= -1∨0≤t.back))(hO:O≠[]):
 ClQ om' 74 [.agg s.cells,.agg [.int .i64 hr,slv 1 true nG (G.map iv),.int .i64 own,.int .i64 fuel,slv 1 true nL (L.map iv),slv 5 true nO (O.map BTrade.cells)],.agg d.cells] []
  (TrdQ s.cons.length hr own fuel (tradesF s.cons hr d.trades 0 (G,O,[])).1 L (tradesF s.cons hr d.trades 0 (G,O,[])).2.1 (tradesF s.cons hr d.trades 0 (G,O,[])).2.2):=by
 have hl':d.trades.length≤maxLen:=by unfold maxLen;omega
 have hp0:0<s.cons.length:=List.length_pos_iff.2 hne
 have hGn:G≠[]:=fun e=>by rw[e]at hG;simp at hG;omega
 have hLn:L≠[]:=fun e=>by rw[e]at hL;simp at hL;omega
 have hcp:=r_CopyB (hr:=hr) (own:=own) (fuel:=fuel) (nG:=nG) (nL:=nL) (nO:=nO) (by omega) (by omega) hOl hGn hLn hO
 rw[hG,hL]at hcp
 refine stOf rfl Tryz.func74 rfl rfl ?_
 simp only[Tryz.f74]
 (have hb:=trivial;with_reducible repeat' (first|simp only[hb,Vc.down,seval,TY74.down,hcp,BDay.cells]|refine fsp ?_ ?_<;>intro hb|refine fd ?_|fail))
 refine fw_ot (lst 113 d.trades (fun i (zz:List Int × List BTrade × List Int × Nat) t h=>t 3=.ptr 0 0 0∧t 4=.ptr 1 0 0∧t 5=.ptr 2 0 0∧t 6=.ptr 3 0 0∧t 8=.ptr 7 0 0∧t 10=.int .i64 i∧(∃wG wo Ob ov g,h=.live 6 false false [s.cells]::.live 6 false false [[.int .i64 hr,slv 1 true nG (G.map iv),.int .i64 own,.int .i64 fuel,slv 1 true nL (L.map iv),slv 5 true nO (O.map BTrade.cells)]]::.live 3 false false [d.cells]::.live 6 false false [[.int .i64 0,.nils,.int .i64 0,.int .i64 0,.nils,.nils]]::.live 1 true wG (zz.1.map iv)::.live 1 true false (L.map iv)::Ob::.live 6 false wo [[.int .i64 hr,.slr 1 4 0 s.cons.length,.int .i64 own,.int .i64 fuel,.slr 1 5 0 s.cons.length,ov]]::g∧zz.1.length=s.cons.length∧zz.2.1.length≤O.length+i∧zz.2.2.1.length≤i∧i=zz.2.2.2∧OwnS 8 1 true (zz.2.2.1.map iv) (t 9) g∧Sep ov (t 9)∧(zz.2.2.1=[]→t 9=.nils)∧(zz.2.1≠[]∧((ov=.slr 5 6 0 zz.2.1.length∧Ob=.live 5 true false (zz.2.1.map BTrade.cells))∨(Ob=.dead∧∃b w,ov=.slr 5 (b+8) 0 zz.2.1.length∧g[b]?=some (.live 5 true w (zz.2.1.map BTrade.cells))))))) (fun rest zz=>tradesF s.cons hr rest zz.2.2.2 (zz.1,zz.2.1,zz.2.2.1)) (fun r e t h=>e=.exit 0∧t 6=.ptr 3 0 0∧t 8=.ptr 7 0 0∧(∃wG wo Ob ov g,h=.live 6 false false [s.cells]::.live 6 false false [[.int .i64 hr,slv 1 true nG (G.map iv),.int .i64 own,.int .i64 fuel,slv 1 true nL (L.map iv),slv 5 true nO (O.map BTrade.cells)]]::.live 3 false false [d.cells]::.live 6 false false [[.int .i64 0,.nils,.int .i64 0,.int .i64 0,.nils,.nils]]::.live 1 true wG (r.1.map iv)::.live 1 true false (L.map iv)::Ob::.live 6 false wo [[.int .i64 hr,.slr 1 4 0 s.cons.length,.int .i64 own,.int .i64 fuel,.slr 1 5 0 s.cons.length,ov]]::g∧OwnS 8 1 true (r.2.2.map iv) (t 9) g∧Sep ov (t 9)∧(r.2.2=[]→t 9=.nils)∧(r.2.1≠[]∧((ov=.slr 5 6 0 r.2.1.length∧Ob=.live 5 true false (r.2.1.map BTrade.cells))∨(Ob=.dead∧∃b w,ov=.slr 5 (b+8) 0 r.2.1.length∧g[b]?=some (.live 5 true w (r.2.1.map BTrade.cells))))))) ?_ ?_ (G,O,[],0) _ _ ?_) (fun e t h hk=>?_)
 ·rintro⟨G',O',R,k⟩ t h Q' kQ ⟨h3,h4,h5,h6,h8,h10,⟨wG,wo,Ob,ov,g,rfl,hG',hOl',hRl,rfl,hrow,hsp,hrn,hov⟩⟩
  try dsimp only at *
  (have hb:=trivial;with_reducible repeat' (first|simp only[hb,Vc.down,seval,TY74.down,h3,h4,h5,h6,h8,h10,Int.lt_irrefl,decide_false,List.length_map]|refine fsp ?_ ?_<;>intro hb|refine fd ?_|fail))
  exact kQ _ _ _ ⟨rfl,by simp[up,h6],by simp[up,h8],wG,wo,Ob,ov,g,rfl,by simpa [up,tradesF]using hrow,by simpa [up]using hsp,by simpa [up,tradesF]using hrn,by simpa [tradesF]using hov⟩
 ·rintro x rest i ⟨G',O',R,k⟩ t h J Q' kJ kQ hx hi ⟨h3,h4,h5,h6,h8,h10,⟨wG,wo,Ob,ov,g,rfl,hG',hOl',hRl,rfl,hrow,hsp,hrn,hov⟩⟩
  have hd:decide ((i:Int)<(d.trades.length:Int))=true:=decide_eq_true (by omega)
  have hw:=wrap_next hi hl'
  try dsimp only at *
  obtain⟨⟨⟨f0,f1⟩,k0,k1⟩,hft,hbk0⟩:=hto x (List.mem_of_getElem? hx)
  have hok:x.ok s.cons.length:=⟨⟨f0,f1⟩,k0,k1⟩
  have e1:(0≤x.to)=True:=eq_true k0
  have e2:(x.to<(s.cons.length:Int))=True:=eq_true (by omega)
  have e4:(0≤x.frm)=True:=eq_true f0
  have e5:(x.frm<(s.cons.length:Int))=True:=eq_true (by omega)
  obtain⟨ct,hct⟩:∃c,s.cons[x.to.toNat]?=some c:=⟨_,List.getElem?_eq_getElem (by omega)⟩
  have a1:G'[x.to.toNat]?=some (gI G' x.to):=gI_at (by omega)
  have a3:G'[x.frm.toNat]?=some (gI G' x.frm):=gI_at (by omega)
  have a5:∀v,(sI G' x.frm v)[x.to.toNat]?=some (gI (sI G' x.frm v) x.to):=fun v=>gI_at (by rw[sI_length];omega)
  have hbk1:decide (0≤x.back)= !(x.back== -1):=by
   rw[Bool.eq_iff_iff]
   simp only[decide_eq_true_eq,Bool.not_eq_true',beq_eq_false_iff_ne]
   omega
  have hln:ln Tryz.prog 46 (some ov)=some (.ret (.int .i64 O'.length),[]):=by
   rcases hov with⟨_,⟨rfl,_⟩|⟨_,b,w,rfl,_⟩⟩<;>simp[Ev.ln,aLen,Tryz.underlying46,r1]
  have hcv:acells ov=[ov]:=by
   rcases hov with⟨_,⟨rfl,_⟩|⟨_,b,w,rfl,_⟩⟩<;>rfl
  obtain⟨rv,hrv⟩:∃v,v=t 9:=⟨_,rfl⟩
  rw[←hrv]at hrow hsp hrn
  have hc2:=OwnS.cell hrow
  replace hrv:=hrv.symm
  cases hbk:(x.hour==hr)with
  |false=>
   (have hb:=trivial;with_reducible repeat' (first|simp only[hb,Vc.down,seval,TY74.down,hbk,hrv,h3,h4,h5,h8,h10,hd,hx,hw,BTrade.cells,BCon.cells,e1,e2,e4,e5,a1,a3,a5,hct,iv,sI_map,List.length_map,Bool.not_false,Bool.not_true,Nat.add_zero]|refine fsp ?_ ?_<;>intro hb|((refine fw_gdF (g.length) 7 ?_ ?_);(simp (discharger:=decide) only[lg_nil,lg_cons,List.map_cons,List.map_nil,mf_cells,mf_blk,mf_all,ef_new,ef_cells,sft_lit,sft_add,List.length_cons,List.length_nil];kernel_rfl);intro _)|refine fdq ?_|fail))
   (refine rnd_go (kJ _ _ (G',O',R,i+1) ⟨?_,?_,?_,?_,?_,?_,⟨wG,wo,Ob,ov,_,rfl,hG',by dsimp only;omega,by dsimp only;omega,rfl,by simp only[up,Nat.reduceEqDiff,if_false,hrv];exact hrow.app _,by simp only[up,Nat.reduceEqDiff,if_false,hrv];exact hsp,by simp only[up,Nat.reduceEqDiff,if_false,hrv];exact hrn,⟨hov.1,hov.2.imp id fun⟨h,b,w,e,hb⟩=>⟨h,b,w,e,get_app hb _⟩⟩⟩⟩ ?_);(simp[up,h3]);(simp[up,h4]);(simp[up,h5]);(simp[up,h6]);(simp[up,h8]);(simp[up]);(simp[tradesF,hbk]))
  |true=>
   have hap1:=fun(q:Heap) (r:List AV)=>apK_own hrow (pre:=[.live 6 false false [s.cells],.live 6 false false [[.int .i64 hr,slv 1 true nG (G.map iv),.int .i64 own,.int .i64 fuel,slv 1 true nL (L.map iv),slv 5 true nO (O.map BTrade.cells)]],.live 3 false false [d.cells],.live 6 false false [[.int .i64 0,.nils,.int .i64 0,.int .i64 0,.nils,.nils]],.live 1 true wG (G'.map iv),.live 1 true false (L.map iv),Ob,.live 6 false wo [[.int .i64 hr,.slr 1 4 0 s.cons.length,.int .i64 own,.int .i64 fuel,.slr 1 5 0 s.cons.length,ov]]]) rfl q r [] (by simp;omega)
   have hhp1:=fun(q:Heap) (r:List (List AV)) (ba:Nat)=>happ_apE hrow (pre:=[.live 6 false false [s.cells],.live 6 false false [[.int .i64 hr,slv 1 true nG (G.map iv),.int .i64 own,.int .i64 fuel,slv 1 true nL (L.map iv),slv 5 true nO (O.map BTrade.cells)]],.live 3 false false [d.cells],.live 6 false false [[.int .i64 0,.nils,.int .i64 0,.int .i64 0,.nils,.nils]],.live 1 true wG (G'.map iv),.live 1 true false (L.map iv),Ob,.live 6 false wo [[.int .i64 hr,.slr 1 4 0 s.cons.length,.int .i64 own,.int .i64 fuel,.slr 1 5 0 s.cons.length,ov]]]) rfl q 1 true r ba
   simp only[List.cons_append,List.append_assoc,List.nil_append,List.length_map,List.length_cons,List.length_append,List.length_nil,kl_length,Nat.reduceAdd]at hap1 hhp1
   have hovk:∀l:Heap,(O'≠[]∧((ov=.slr 5 6 0 O'.length∧Ob=.live 5 true false (O'.map BTrade.cells))∨(Ob=.dead∧∃b w,ov=.slr 5 (b+8) 0 O'.length∧(kl 8 rv g++l)[b]?=some (.live 5 true w (O'.map BTrade.cells))))):=fun l=>by
    rcases hov with⟨hO',h|⟨h,b,w,e,hb⟩⟩
    ·exact⟨hO',.inl h⟩
    ·refine⟨hO',.inr ⟨h,b,w,e,get_app ?_ l⟩⟩
     rcases hrow with⟨_,rfl⟩|⟨b2,w2,rfl,hb2⟩
     ·exact hb
     ·have hne2:b2≠b:=fun e2=>hsp _ _ _ _ _ _ _ _ e rfl (by omega)
      simp only[kl,Nat.add_sub_cancel]
      rw[List.getElem?_set_ne hne2];exact hb
   cases hno:tradeNo s.cons x G' O'.length with
   |true=>
    have hno':=hno
    simp only[tradeNo,spaceOf,hct,Option.map_some,Option.getD_some]at hno'
    cases d1:decide (gI G' x.frm<x.amount)with
    |true=>
     (have hb:=trivial;with_reducible repeat' (first|simp only[hb,Vc.down,seval,TY74.down,h3,h4,h5,h8,h10,hd,hx,hw,BTrade.cells,BCon.cells,e1,e2,e4,e5,a1,a3,a5,hct,iv,sI_map,List.length_map,Bool.not_false,Bool.not_true,Nat.add_zero,d1,hbk,hrv,hcv,hln,kl_get,kl_length,hc2,hap1,hhp1]|refine fsp ?_ ?_<;>intro hb|((refine fw_gdF (g.length) 7 ?_ ?_);(simp (discharger:=decide) only[lg_nil,lg_cons,List.map_cons,List.map_nil,mf_cells,mf_blk,mf_all,ef_new,ef_cells,sft_lit,sft_add,List.length_cons,List.length_nil];kernel_rfl);intro _)|refine fdq ?_|fail))
     (refine rnd_go (kJ _ _ (G',O',R++[(i:Int)],i+1) ⟨?_,?_,?_,?_,?_,?_,⟨wG,wo,Ob,ov,_,rfl,hG',by dsimp only;omega,by simp;omega,rfl,by simp only[up,Nat.reduceEqDiff,if_true];exact OwnS.blk (b:=g.length+2) (w:=false) (by simp[kl_get,iv]) (by omega) (by simp),by simp only[up,Nat.reduceEqDiff,if_true];(rcases hov with⟨_,⟨rfl,_⟩|⟨_,b,w,rfl,hgb⟩⟩;(intro a1 b1 r1 n1 a2 b2 r2 n2 u1 u2;cases u1;cases u2;omega);exact OwnS.sep (k:=8) (OwnS.blk (k:=8) (n:=O'.length) (by exact hgb) rfl (by simp)) (by omega)),fun h=>absurd h (by simp),hovk _⟩⟩ ?_);(simp[up,h3]);(simp[up,h4]);(simp[up,h5]);(simp[up,h6]);(simp[up,h8]);(simp[up]);(simp[tradesF,hbk,hno]))
    |false=>
     cases d2:decide (IntKind.i64.wrap (ct.space-gI G' x.to)<x.amount)with
     |true=>
      (have hb:=trivial;with_reducible repeat' (first|simp only[hb,Vc.down,seval,TY74.down,h3,h4,h5,h8,h10,hd,hx,hw,BTrade.cells,BCon.cells,e1,e2,e4,e5,a1,a3,a5,hct,iv,sI_map,List.length_map,Bool.not_false,Bool.not_true,Nat.add_zero,d1,d2,hbk,hrv,hcv,hln,kl_get,kl_length,hc2,hap1,hhp1]|refine fsp ?_ ?_<;>intro hb|((refine fw_gdF (g.length) 7 ?_ ?_);(simp (discharger:=decide) only[lg_nil,lg_cons,List.map_cons,List.map_nil,mf_cells,mf_blk,mf_all,ef_new,ef_cells,sft_lit,sft_add,List.length_cons,List.length_nil];kernel_rfl);intro _)|refine fdq ?_|fail))
      (refine rnd_go (kJ _ _ (G',O',R++[(i:Int)],i+1) ⟨?_,?_,?_,?_,?_,?_,⟨wG,wo,Ob,ov,_,rfl,hG',by dsimp only;omega,by simp;omega,rfl,by simp only[up,Nat.reduceEqDiff,if_true];exact OwnS.blk (b:=g.length+2) (w:=false) (by simp[kl_get,iv]) (by omega) (by simp),by simp only[up,Nat.reduceEqDiff,if_true];(rcases hov with⟨_,⟨rfl,_⟩|⟨_,b,w,rfl,hgb⟩⟩;(intro a1 b1 r1 n1 a2 b2 r2 n2 u1 u2;cases u1;cases u2;omega);exact OwnS.sep (k:=8) (OwnS.blk (k:=8) (n:=O'.length) (by exact hgb) rfl (by simp)) (by omega)),fun h=>absurd h (by simp),hovk _⟩⟩ ?_);(simp[up,h3]);(simp[up,h4]);(simp[up,h5]);(simp[up,h6]);(simp[up,h8]);(simp[up]);(simp[tradesF,hbk,hno]))
     |false=>
      rw[d1,d2]at hno'
      have d3:(x.back== -1)=false:=by simpa using (by simpa using hno':_∧_).1
      have d4:decide ((50:Int)≤(O'.length:Int))=true:=by simpa using (by simpa using hno':_∧_).2
      rw[d3]at hbk1
      (have hb:=trivial;with_reducible repeat' (first|simp only[hb,Vc.down,seval,TY74.down,h3,h4,h5,h8,h10,hd,hx,hw,BTrade.cells,BCon.cells,e1,e2,e4,e5,a1,a3,a5,hct,iv,sI_map,List.length_map,Bool.not_false,Bool.not_true,Nat.add_zero,d1,d2,hbk1,d4,hbk,hrv,hcv,hln,kl_get,kl_length,hc2,hap1,hhp1]|refine fsp ?_ ?_<;>intro hb|((refine fw_gdF (g.length) 7 ?_ ?_);(simp (discharger:=decide) only[lg_nil,lg_cons,List.map_cons,List.map_nil,mf_cells,mf_blk,mf_all,ef_new,ef_cells,sft_lit,sft_add,List.length_cons,List.length_nil];kernel_rfl);intro _)|refine fdq ?_|fail))
      (refine rnd_go (kJ _ _ (G',O',R++[(i:Int)],i+1) ⟨?_,?_,?_,?_,?_,?_,⟨wG,wo,Ob,ov,_,rfl,hG',by dsimp only;omega,by simp;omega,rfl,by simp only[up,Nat.reduceEqDiff,if_true];exact OwnS.blk (b:=g.length+2) (w:=false) (by simp[kl_get,iv]) (by omega) (by simp),by simp only[up,Nat.reduceEqDiff,if_true];(rcases hov with⟨_,⟨rfl,_⟩|⟨_,b,w,rfl,hgb⟩⟩;(intro a1 b1 r1 n1 a2 b2 r2 n2 u1 u2;cases u1;cases u2;omega);exact OwnS.sep (k:=8) (OwnS.blk (k:=8) (n:=O'.length) (by exact hgb) rfl (by simp)) (by omega)),fun h=>absurd h (by simp),hovk _⟩⟩ ?_);(simp[up,h3]);(simp[up,h4]);(simp[up,h5]);(simp[up,h6]);(simp[up,h8]);(simp[up]);(simp[tradesF,hbk,hno]))
   |false=>
    have hno':=hno
    simp only[tradeNo,spaceOf,hct,Option.map_some,Option.getD_some,Bool.or_eq_false_iff]at hno'
    obtain⟨⟨d1,d2⟩,d3⟩:=hno'
    have hfl:=tradeG_flat (G:=G') hok hft
    have hGl:(tradeG x G').length=s.cons.length:=by rw[tradeG_length];exact hG'
    cases c1:(x.back== -1)with
    |true=>
     rw[c1]at hbk1
     (have hb:=trivial;with_reducible repeat' (first|simp only[hb,Vc.down,seval,TY74.down,h3,h4,h5,h8,h10,hd,hx,hw,BTrade.cells,BCon.cells,e1,e2,e4,e5,a1,a3,a5,hct,iv,sI_map,List.length_map,Bool.not_false,Bool.not_true,Nat.add_zero,d1,d2,hbk1,hbk,hrv,hcv,hln,kl_get,kl_length,hc2,hap1,hhp1]|refine fsp ?_ ?_<;>intro hb|((refine fw_gdF (g.length) 7 ?_ ?_);(simp (discharger:=decide) only[lg_nil,lg_cons,List.map_cons,List.map_nil,mf_cells,mf_blk,mf_all,ef_new,ef_cells,sft_lit,sft_add,List.length_cons,List.length_nil];kernel_rfl);intro _)|refine fdq ?_|fail))
     rw[←hfl]
     (refine rnd_go (kJ _ _ (tradeG x G',O',R,i+1) ⟨?_,?_,?_,?_,?_,?_,⟨true,wo,Ob,ov,_,rfl,hGl,by dsimp only;omega,by dsimp only;omega,rfl,by simp only[up,Nat.reduceEqDiff,if_false,hrv];exact hrow.app _,by simp only[up,Nat.reduceEqDiff,if_false,hrv];exact hsp,by simp only[up,Nat.reduceEqDiff,if_false,hrv];exact hrn,⟨hov.1,hov.2.imp id fun⟨h,b,w,e,hb⟩=>⟨h,b,w,e,get_app hb _⟩⟩⟩⟩ ?_);(simp[up,h3]);(simp[up,h4]);(simp[up,h5]);(simp[up,h6]);(simp[up,h8]);(simp[up]);(simp[tradesF,hbk,hno,c1]))
    |false=>
     rw[c1]at hbk1
     have d4:decide ((50:Int)≤(O'.length:Int))=false:=by rw[c1]at d3;simpa using d3
     rcases hov with⟨hO',⟨rfl,rfl⟩|⟨rfl,b,w,rfl,hgb⟩⟩
     ·have hi39:(O'.length+1≤549755813888)=True:=eq_true (by omega)
      (have hb:=trivial;with_reducible repeat' (first|simp only[hb,Vc.down,seval,TY74.down,h3,h4,h5,h8,h10,hd,hx,hw,BTrade.cells,BCon.cells,e1,e2,e4,e5,a1,a3,a5,hct,iv,sI_map,List.length_map,Bool.not_false,Bool.not_true,Nat.add_zero,d1,d2,hbk1,d4,hi39,hbk,hrv,hcv,hln,kl_get,kl_length,hc2,hap1,hhp1]|refine fsp ?_ ?_<;>intro hb|((refine fw_gdF (g.length) 7 ?_ ?_);(simp (discharger:=decide) only[lg_nil,lg_cons,List.map_cons,List.map_nil,mf_cells,mf_blk,mf_all,ef_new,ef_cells,sft_lit,sft_add,List.length_cons,List.length_nil];kernel_rfl);intro _)|refine fdq ?_|fail))
      rw[←hfl]
      (refine rnd_go (kJ _ _ (tradeG x G',O'++[x],R,i+1) ⟨?_,?_,?_,?_,?_,?_,⟨true,true,_,_,_,rfl,hGl,by simp;omega,by dsimp only;omega,rfl,by simp only[up,Nat.reduceEqDiff,if_false,hrv];exact hrow.app _,by simp only[up,Nat.reduceEqDiff,if_false,hrv];exact(hrow.sep (by omega)).symm,by simp only[up,Nat.reduceEqDiff,if_false,hrv];exact hrn,by simp,.inr ⟨rfl,g.length+2,false,by simp,by simp[BTrade.cells]⟩⟩⟩ ?_);(simp[up,h3]);(simp[up,h4]);(simp[up,h5]);(simp[up,h6]);(simp[up,h8]);(simp[up]);(simp[tradesF,hbk,hno,c1]))
     ·have hbl:b<g.length:=(List.getElem?_eq_some_iff.1 hgb).1
      have hA:=get_app hgb
      have hS:=set_app hbl
      have hi39:(O'.length+1≤549755813888)=True:=eq_true (by omega)
      have hrk:∀l,OwnS 8 1 true (R.map iv) rv (g.set b .dead++l):=fun l=>by
       have:=hrow.kl (OwnS.blk (k:=8) (n:=O'.length) (by exact hgb) rfl (by simp)) hsp
       simp only[kl,Nat.add_sub_cancel]at this
       exact this.app l
      (have hb:=trivial;with_reducible repeat' (first|simp only[hb,Vc.down,seval,TY74.down,h3,h4,h5,h8,h10,hd,hx,hw,BTrade.cells,BCon.cells,e1,e2,e4,e5,a1,a3,a5,hct,iv,sI_map,List.length_map,Bool.not_false,Bool.not_true,Nat.add_zero,d1,d2,hbk1,d4,hA,hS,gset0,gsetk,List.length_set,hi39,hbk,hrv,hcv,hln,kl_get,kl_length,hc2,hap1,hhp1]|refine fsp ?_ ?_<;>intro hb|((refine fw_gdF (g.length) 7 ?_ ?_);(simp (discharger:=decide) only[lg_nil,lg_cons,List.map_cons,List.map_nil,mf_cells,mf_blk,mf_all,ef_new,ef_cells,sft_lit,sft_add,List.length_cons,List.length_nil];kernel_rfl);intro _)|refine fdq ?_|fail))
      rw[←hfl]
      (refine rnd_go (kJ _ _ (tradeG x G',O'++[x],R,i+1) ⟨?_,?_,?_,?_,?_,?_,⟨true,true,_,_,_,rfl,hGl,by simp;omega,by dsimp only;omega,rfl,by simp only[up,Nat.reduceEqDiff,if_false,hrv];exact hrk _,by simp only[up,Nat.reduceEqDiff,if_false,hrv];exact(hrow.sep (by omega)).symm,by simp only[up,Nat.reduceEqDiff,if_false,hrv];exact hrn,by simp,.inr ⟨rfl,g.length+2,false,by simp,by rw[gsetk];simp[BTrade.cells]⟩⟩⟩ ?_);(simp[up,h3]);(simp[up,h4]);(simp[up,h5]);(simp[up,h6]);(simp[up,h8]);(simp[up]);(simp[tradesF,hbk,hno,c1]))
 ·exact⟨by simp[up,ent],by simp[up,ent],by simp[up,ent],by simp[up,ent],by simp[up,ent],by simp[up],⟨_,_,_,_,[],rfl,hG,by simp,by simp,rfl,by simp only[up,Nat.reduceEqDiff,if_false,if_true];exact .inl ⟨rfl,rfl⟩,by simp only[up,Nat.reduceEqDiff,if_false,if_true];exact Sep.nils _,by simp[up],hO,.inl ⟨rfl,rfl⟩⟩⟩
 ·obtain⟨rfl,h6,h8,wG,wo,Ob,ov,g,rfl,hrow,hsp,hrn,hov⟩:=hk
  generalize hr0:tradesF s.cons hr d.trades 0 (G,O,[])=r at *
  obtain⟨G',O',R⟩:=r
  dsimp only at *
  rcases hov with⟨hO2,⟨rfl,rfl⟩|⟨rfl,b,w,rfl,hgb⟩⟩<;>rcases hrow with⟨hR0,h9⟩|⟨b2,w2,h9,hgr⟩
  ·(have hb:=trivial;with_reducible repeat' (first|simp only[hb,Vc.down,seval,TY74.down,h6,h8,h9]|refine fsp ?_ ?_<;>intro hb|refine fd ?_|fail))
   exact⟨wG,false,false,false,.inr (.inl ⟨hO2,List.map_eq_nil_iff.1 hR0,rfl,rfl⟩)⟩
  ·rw[List.length_map]at h9
   (have hb:=trivial;with_reducible repeat' (first|simp only[hb,Vc.down,seval,TY74.down,h6,h8,h9,hgr]|refine fsp ?_ ?_<;>intro hb|refine fd ?_|fail))
   exact⟨wG,false,false,w2,.inr (.inr (.inr ⟨hO2,(fun h=>by have:=hrn h;rw[h9]at this;cases this),rfl,rfl⟩))⟩
  ·(have hb:=trivial;with_reducible repeat' (first|simp only[hb,Vc.down,seval,TY74.down,h6,h8,h9,hgb]|refine fsp ?_ ?_<;>intro hb|refine fd ?_|fail))
   exact⟨wG,false,w,false,.inr (.inl ⟨hO2,List.map_eq_nil_iff.1 hR0,rfl,rfl⟩)⟩
  ·rw[List.length_map]at h9
   have hne1:(b=b2)=False:=eq_false fun e=>hsp _ _ _ _ _ _ _ _ rfl h9 (by omega)
   have hne2:(b2=b)=False:=eq_false fun e=>hsp _ _ _ _ _ _ _ _ rfl h9 (by omega)
   (have hb:=trivial;with_reducible repeat' (first|simp only[hb,Vc.down,seval,TY74.down,h6,h8,h9,hgb,hgr,hne1,hne2]|refine fsp ?_ ?_<;>intro hb|refine fd ?_|fail))
   exact⟨wG,false,w,w2,.inr (.inr (.inr ⟨hO2,(fun h=>by have:=hrn h;rw[h9]at this;cases this),rfl,rfl⟩))⟩
def wantR(c:BCon)(n g:Int):Int:=mxx (mxx (mn (mn n (rateG c g).inn) (IntKind.i64.wrap (c.space-g))) (IntKind.i64.wrap (0-(rateG c g).out))) (IntKind.i64.wrap (0-g))
def wantRS(s:BStore)(d:BDay)(hr:Int)(G:List Int)(i:Nat)(c:BCon):Int:=
 if(decide (0≤cntF s.lead d.noms i hr d.noms (0,-1))&&inB hr c.lo c.hi)=true then wantR c (nomAmt d.noms (cntF s.lead d.noms i hr d.noms (0,-1))) (gI G i)else 0
def wantsRF(s:BStore)(d:BDay)(hr:Int)(G:List Int):List BCon→Nat→List Int
 | [],_=>[]
 |c::rest,i=>wantRS s d hr G i c::wantsRF s d hr G rest (i+1)
theorem wantsRF_length(s:BStore)(d:BDay)(hr:Int)(G:List Int):∀(l:List BCon) (i:Nat),(wantsRF s d hr G l i).length=l.length
 | [],_=>rfl
 |c::rest,i=>by simp[wantsRF,wantsRF_length s d hr G rest]
theorem r_Wants{s:BStore}{d:BDay}{hr own fuel:Int}{nG nL nO:Bool}{G L:List Int}{O:List BTrade}(hl:s.cons.length≤1000)(hne:s.cons≠[])(hn:d.noms.length≤1000)(hG:G.length=s.cons.length)(hc:∀c∈s.cons,ConW c)(hq:∀(i:Nat) c,s.cons[i]?=some c→(rate0 c).fill≤quoW c (gI G i)):
 om'.call (.fn 76) [.agg s.cells,.agg [.int .i64 hr,slv 1 true nG (G.map iv),.int .i64 own,.int .i64 fuel,slv 1 true nL (L.map iv),slv 5 true nO (O.map BTrade.cells)],.agg d.cells] []=
  some (.ret (.slr 1 0 0 s.cons.length),[.live 1 true false ((wantsRF s d hr G s.cons 0).map iv)]):=by
 have hl':s.cons.length≤maxLen:=by unfold maxLen;omega
 (refine ce Tryz.func76 ?_;simp only[Tryz.f76];(have hb:=trivial;with_reducible repeat' (first|simp only[hb,Vc.down,seval,TY76.down,BDay.cells,List.length_map]|refine fsp ?_ ?_<;>intro hb|refine fd ?_|fail)))
 refine fw_ot (lst 80 s.cons (fun i (zz:List Int × Nat) t h=>t 3=.ptr 0 0 0∧t 4=.ptr 1 0 0∧t 5=.ptr 2 0 0∧t 8=.int .i64 i∧(h[0]?=some (.live 6 false false [s.cells])∧h[1]?=some (.live 6 false false [[.int .i64 hr,slv 1 true nG (G.map iv),.int .i64 own,.int .i64 fuel,slv 1 true nL (L.map iv),slv 5 true nO (O.map BTrade.cells)]])∧h[2]?=some (.live 3 false false [d.cells])∧zz.1.length=i∧i=zz.2∧((i=0∧t 7=.nils)∨(0<i∧∃b,3≤b∧t 7=.slr 1 b 0 i∧h[b]?=some (.live 1 true false (zz.1.map iv)))))) (fun rest zz=>zz.1++wantsRF s d hr G rest zz.2) (fun r e t h=>e=.exit 0∧∃b,t 7=.slr 1 b 0 s.cons.length∧h[b]?=some (.live 1 true false (r.map iv))) ?_ ?_ ([],0) _ _ ?_) (fun e t h hk=>?_)
 ·rintro⟨p,k⟩ t h Q' kQ ⟨h3,h4,h5,h8,⟨hS,hX,hD,hp,rfl,hc7⟩⟩
  try dsimp only at *
  (have hb:=trivial;with_reducible repeat' (first|simp only[hb,Vc.down,seval,TY76.down,h3,h4,h5,h8,Int.lt_irrefl,decide_false,hS,List.length_map]|refine fsp ?_ ?_<;>intro hb|refine fd ?_|fail))
  rcases hc7 with⟨hz,_⟩|⟨_,b,hb3,h7,hbb⟩
  ·exact(hne (List.length_eq_zero_iff.1 hz)).elim
  ·exact kQ _ _ _ ⟨rfl,b,by simp[up,h7],by simpa [wantsRF]using hbb⟩
 ·rintro x rest i ⟨p,k⟩ t h J Q' kJ kQ hx hi ⟨h3,h4,h5,h8,⟨hS,hX,hD,hp,rfl,hc7⟩⟩
  have hd:decide ((i:Int)<(s.cons.length:Int))=true:=decide_eq_true (by omega)
  have hw:=wrap_next hi hl'
  try dsimp only at *
  obtain⟨hz,hr0,hrl⟩:=hc x (List.mem_of_getElem? hx)
  have l0:3≤h.length:=by have:=(List.getElem?_eq_some_iff.1 hD).1;omega
  have s0:sftN h.length 3 h.length=1000:=by unfold sftN;rw[if_neg (by omega)];omega
  have s1:sftN h.length 3 (h.length+1)=1001:=by unfold sftN;rw[if_neg (by omega)];omega
  have s2:sftN h.length 3 (h.length+2)=1002:=by unfold sftN;rw[if_neg (by omega)];omega
  have hct:=r_Counts s d.noms d.nn i hr (by unfold maxLen;omega)
  have hac:=r_Active x x.firm hr
  have r00:x.rates[0]?=some (rate0 x):=by unfold rate0;rw[List.getElem?_eq_getElem (List.length_pos_iff.2 hr0)];rfl
  have hrt:=r_Rate x (gI G i) (rate0 x) r00 (hq i x hx) hrl hz
  rw[←rateF_all _ _ _ r00]at hrt
  have hiG:((i:Int)<(G.length:Int))=True:=eq_true (by omega)
  have aG:G[i]?=some (gI G i):=by have:=gI_at (l:=G) (i:=(i:Int)) (by simp;omega);simpa using this
  have hSA:=get_app hS
  have hXA:=get_app hX
  have hDA:=get_app hD
  cases hk:decide (0≤cntF s.lead d.noms i hr d.noms (0,-1))with
  |false=>
   have hw0:wantRS s d hr G i x=0:=by simp[wantRS,hk]
   rcases hc7 with⟨rfl,h7⟩|⟨h0,b,hb3,h7,hbb⟩
   ·simp only[Int.natCast_zero]at *
    (have hb:=trivial;with_reducible repeat' (first|simp only[hb,Vc.down,seval,TY76.down,h3,h4,h5,h7,h8,hd,hx,hw,hS,hX,hD,hSA,hXA,hDA,hct,hk,iv,BCon.cells,List.length_map]|refine fsp ?_ ?_<;>intro hb|refine fd ?_|fail))
    (refine rnd_go (kJ _ _ (p++[wantRS s d hr G 0 x],1) ⟨?_,?_,?_,?_,⟨hSA _,hXA _,hDA _,by simp[hp],rfl,.inr ⟨by omega,h.length+2,by omega,by simp[up],by rw[hp_getk,hw0];simp[iv,List.length_eq_zero_iff.1 hp]⟩⟩⟩ ?_);(simp[up,h3]);(simp[up,h4]);(simp[up,h5]);(simp[up]);(simp[wantsRF]))
   ·have hbl:b<h.length:=(List.getElem?_eq_some_iff.1 hbb).1
    have hAb:=get_app hbb
    have hSb:=set_app hbl
    have hi39:(i+1≤549755813888)=True:=eq_true (by omega)
    (have hb:=trivial;with_reducible repeat' (first|simp only[hb,Vc.down,seval,TY76.down,h3,h4,h5,h7,h8,hd,hx,hw,hS,hX,hD,hSA,hXA,hDA,hct,hk,iv,BCon.cells,List.length_map,hAb,hSb,gset0,gsetk,List.length_set,hi39,hp]|refine fsp ?_ ?_<;>intro hb|refine fd ?_|fail))
    (refine rnd_go (kJ _ _ (p++[wantRS s d hr G i x],i+1) ⟨?_,?_,?_,?_,⟨gset_ne _ (by omega) hS _,gset_ne _ (by omega) hX _,gset_ne _ (by omega) hD _,by simp[hp],rfl,.inr ⟨by omega,h.length+2,by omega,by simp[up],by rw[gsetk,hw0];simp[iv]⟩⟩⟩ ?_);(simp[up,h3]);(simp[up,h4]);(simp[up,h5]);(simp[up]);(simp[wantsRF]))
  |true=>
   cases hact:inB hr x.lo x.hi with
   |false=>
    have hw0:wantRS s d hr G i x=0:=by simp[wantRS,hact]
    rw[hact]at hac
    rcases hc7 with⟨rfl,h7⟩|⟨h0,b,hb3,h7,hbb⟩
    ·simp only[Int.natCast_zero]at *
     (have hb:=trivial;with_reducible repeat' (first|simp only[hb,Vc.down,seval,TY76.down,h3,h4,h5,h7,h8,hd,hx,hw,hS,hX,hD,hSA,hXA,hDA,hct,hk,hac,iv,BCon.cells,List.length_map]|refine fsp ?_ ?_<;>intro hb|refine fd ?_|fail))
     (refine rnd_go (kJ _ _ (p++[wantRS s d hr G 0 x],1) ⟨?_,?_,?_,?_,⟨hSA _,hXA _,hDA _,by simp[hp],rfl,.inr ⟨by omega,h.length+2,by omega,by simp[up],by rw[hp_getk,hw0];simp[iv,List.length_eq_zero_iff.1 hp]⟩⟩⟩ ?_);(simp[up,h3]);(simp[up,h4]);(simp[up,h5]);(simp[up]);(simp[wantsRF]))
    ·have hbl:b<h.length:=(List.getElem?_eq_some_iff.1 hbb).1
     have hAb:=get_app hbb
     have hSb:=set_app hbl
     have hi39:(i+1≤549755813888)=True:=eq_true (by omega)
     (have hb:=trivial;with_reducible repeat' (first|simp only[hb,Vc.down,seval,TY76.down,h3,h4,h5,h7,h8,hd,hx,hw,hS,hX,hD,hSA,hXA,hDA,hct,hk,hac,iv,BCon.cells,List.length_map,hAb,hSb,gset0,gsetk,List.length_set,hi39,hp]|refine fsp ?_ ?_<;>intro hb|refine fd ?_|fail))
     (refine rnd_go (kJ _ _ (p++[wantRS s d hr G i x],i+1) ⟨?_,?_,?_,?_,⟨gset_ne _ (by omega) hS _,gset_ne _ (by omega) hX _,gset_ne _ (by omega) hD _,by simp[hp],rfl,.inr ⟨by omega,h.length+2,by omega,by simp[up],by rw[gsetk,hw0];simp[iv]⟩⟩⟩ ?_);(simp[up,h3]);(simp[up,h4]);(simp[up,h5]);(simp[up]);(simp[wantsRF]))
   |true=>
    rw[hact]at hac
    obtain⟨hk0,nk,hnk⟩:=cnt_at (lead:=s.lead) (l:=d.noms) (c:=i) (h:=hr) (by have:=of_decide_eq_true hk;omega)
    have hk0':(0≤cntF s.lead d.noms i hr d.noms (0,-1))=True:=eq_true hk0
    have hwv:wantRS s d hr G i x=wantR x nk.amount (gI G i):=by simp[wantRS,hact,hk0,nomAmt,hnk]
    rcases hc7 with⟨rfl,h7⟩|⟨h0,b,hb3,h7,hbb⟩
    ·simp only[Int.natCast_zero]at *
     (have hb:=trivial;with_reducible repeat' (first|simp only[hb,Vc.down,seval,TY76.down,h3,h4,h5,h7,h8,hd,hx,hw,hS,hX,hD,hSA,hXA,hDA,hct,hk,hk0',hnk,hac,hrt,aG,hiG,iv,BCon.cells,BNom.cells,BRate.cells,List.length_map]|refine fsp ?_ ?_<;>intro hb|((refine fw_gdF (h.length) 3 ?_ ?_);(simp (discharger:=decide) only[lg_nil,lg_cons,List.map_cons,List.map_nil,mf_cells,mf_blk,mf_all,ef_new,ef_cells,sft_lit,sft_add,List.length_cons,List.length_nil,s0,s1,s2];kernel_rfl);intro _)|refine fdq ?_|fail))
     (refine rnd_go (kJ _ _ (p++[wantRS s d hr G 0 x],1) ⟨?_,?_,?_,?_,⟨hSA _,hXA _,hDA _,by simp[hp],rfl,.inr ⟨by omega,h.length+3,by omega,by simp[up],by rw[hp_getk,hwv,List.length_eq_zero_iff.1 hp];rfl⟩⟩⟩ ?_);(simp[up,h3]);(simp[up,h4]);(simp[up,h5]);(simp[up]);(simp[wantsRF]))
    ·have hbl:b<h.length:=(List.getElem?_eq_some_iff.1 hbb).1
     have hAb:=get_app hbb
     have hSb:=set_app hbl
     have hi39:(i+1≤549755813888)=True:=eq_true (by omega)
     (have hb:=trivial;with_reducible repeat' (first|simp only[hb,Vc.down,seval,TY76.down,h3,h4,h5,h7,h8,hd,hx,hw,hS,hX,hD,hSA,hXA,hDA,hct,hk,hk0',hnk,hac,hrt,aG,hiG,iv,BCon.cells,BNom.cells,BRate.cells,List.length_map,hAb,hSb,gset0,gsetk,List.length_set,hi39,hp]|refine fsp ?_ ?_<;>intro hb|((refine fw_gdF (h.length) 3 ?_ ?_);(simp (discharger:=decide) only[lg_nil,lg_cons,List.map_cons,List.map_nil,mf_cells,mf_blk,mf_all,ef_new,ef_cells,sft_lit,sft_add,List.length_cons,List.length_nil,s0,s1,s2];kernel_rfl);intro _)|refine fdq ?_|fail))
     (refine rnd_go (kJ _ _ (p++[wantRS s d hr G i x],i+1) ⟨?_,?_,?_,?_,⟨gset_ne _ (by omega) hS _,gset_ne _ (by omega) hX _,gset_ne _ (by omega) hD _,by simp[hp],rfl,.inr ⟨by omega,h.length+3,by omega,by simp[up],by rw[gsetk,hwv,List.map_append];rfl⟩⟩⟩ ?_);(simp[up,h3]);(simp[up,h4]);(simp[up,h5]);(simp[up]);(simp[wantsRF]))
 ·exact⟨by simp[up,ent],by simp[up,ent],by simp[up,ent],by simp[up],⟨rfl,rfl,rfl,rfl,rfl,.inl ⟨rfl,by simp[up]⟩⟩⟩
 ·obtain⟨rfl,b,h7,hbb⟩:=hk
  (have hb:=trivial;with_reducible repeat' (first|simp only[hb,Vc.down,seval,TY76.down,h7,hbb]|refine fsp ?_ ?_<;>intro hb|refine fd ?_|fail))
def conD(l:List BCon)(i:Nat):BCon:=(l[i]?).getD ⟨false,0,0,0,false,[],0,0,0,0,0,0⟩
def comeR(f:Int):Int:=mxx 0 f
def goneR(f:Int):Int:=mxx 0 (IntKind.i64.wrap (0-f))
def fuelR(s:BStore)(f:Int):Int:=IntKind.i64.wrap ((IntKind.i64.wrap (comeR f*s.fuel)).tdiv 1000)
def gasR(s:BStore)(f g:Int):Int:=IntKind.i64.wrap (IntKind.i64.wrap (IntKind.i64.wrap (g+comeR f)-fuelR s f)-goneR f)
def chgR(c:BCon)(f b:Int):Int:=IntKind.i64.wrap (IntKind.i64.wrap (IntKind.i64.wrap (b+c.fixed)+IntKind.i64.wrap (c.inn*comeR f))+IntKind.i64.wrap (c.out*goneR f))
def cutR(c:BCon)(w a b:Int):Int:=IntKind.i64.wrap (b-IntKind.i64.wrap (c.cut*mxx (IntKind.i64.wrap (w-a)) (IntKind.i64.wrap (a-w))))
def billR(c:BCon)(hr f w a b:Int):Int:=if c.firm=true then cutR c w a (if inB hr c.lo c.hi=true then chgR c f b else b)else(if inB hr c.lo c.hi=true then chgR c f b else b)
/-- Gas, fuel and bills behind all flows, by the specification. -/
def endF(s:BStore)(hr:Int)(W A:List Int):List Int→Nat→List Int × Int × List Int→List Int × Int × List Int
 | [],_,a=>a
 |f::rest,i,(G,fu,L)=>endF s hr W A rest (i+1) (sI G i (gasR s f (gI G i)),IntKind.i64.wrap (fu+fuelR s f),sI L i (billR (conD s.cons i) hr f (gI W i) (gI A i) (gI L i)))
/-- What the specification reckons. -/
def RG(s:BStore)(hr:Int)(G L:List Int)(O:List BTrade):=retF s.cons hr O (G,L,[])
def RT(s:BStore)(d:BDay)(hr:Int)(G L:List Int)(O:List BTrade):=tradesF s.cons hr d.trades 0 ((RG s hr G L O).1,(RG s hr G L O).2.2,[])
def RW(s:BStore)(d:BDay)(hr:Int)(G L:List Int)(O:List BTrade):=wantsRF s d hr (RT s d hr G L O).1 s.cons 0
def RA(s:BStore)(d:BDay)(hr:Int)(x:BHour)(G L:List Int)(O:List BTrade):=grantAll grantR s.cons (RW s d hr G L O) x.inn x.out
def RF(x:BHour)(A:List Int):List Int:=List.zipWith subW (shareL (mn x.flowIn (sumF (A.map posI) 0)) (A.map posI)) (shareL (mn x.flowOut (sumF (A.map negI) 0)) (A.map negI))
def ROwn(x:BHour)(A:List Int)(own:Int):Int:=IntKind.i64.wrap (IntKind.i64.wrap (IntKind.i64.wrap (IntKind.i64.wrap (own+x.flowIn)-mn x.flowIn (sumF (A.map posI) 0))-x.flowOut)+mn x.flowOut (sumF (A.map negI) 0))
/-- What an hour of the specification asks of its data. -/
structure HourR(s:BStore)(d:BDay)(hr:Int)(x:BHour)(G L:List Int)(O:List BTrade):Prop extends HourOK s d hr x O where
 flat:∀t∈d.trades,t.frm≠t.to∧(t.back= -1∨0≤t.back)
 fill:∀(i:Nat) c,s.cons[i]?=some c→(rate0 c).fill≤quoW c (gI (RT s d hr G L O).1 i)
 left:(RG s hr G L O).2.2.length≤1000
end Go.Proofs.YtdbiogihimdpcaaGreatDoor
