/- The functions of the layer, walked. -/
import Derived.Test.YtfkokgjfpojeoaaGreatDoorPartAE
open List renaming length_map→acQ
set_option linter.unusedSimpArgs false
set_option linter.unusedVariables false
namespace Go.Proofs.YtfkokgjfpojeoaaGreatDoor
open Go.Ev Go
set_option maxRecDepth 100000
set_option maxHeartbeats 16000000
theorem alJ.cons{h:aaP}{st:Nat}{fl w:Bool}{rows:List (List AV)}(a:alJ h):alJ (.live st fl w rows::h):=fun c hc=>(List.mem_cons.1 hc).elim (fun e=>⟨_,_,_,_,e⟩) (a c)
theorem aJN(hk:om'.call (.fn 6) [] []=some (.ret (.bool true),[]))(m:ad5)(hs:m.small){nn:Bool}{l:List ac6}(hl:l.length≤maxLen)(hy:∀y∈l,y.reads.length≤maxLen):
 om'.call (.fn 4) [.agg [slv 3 true m.nS (m.sens.map ak7.cells),slv 4 false m.nV (m.votes.map acT.cells),slv 5 false m.nM (m.moves.map acS.cells),.int .i64 m.states,.int .i64 m.cmds,.int .i64 m.bgn,slv 1 true m.nO (m.opn.map iv)],slv 2 false nn (l.map ac6.cells)] []=some (.ret (.bool true),[]):=by
 have hsh:=aXL m hs
 have hrm:=aOI m hs
 have hlg:=aX1 m (nn:=nn) hl hy
 cases cS:ayA m with
 |false=>
  rw[cS]at hsh
  (refine ce Tryz.func4 ?_;simp only[Tryz.f4];(have hb:=trivial;with_reducible repeat' (first|simp only[hb,Va.down,seval,TY4.down,hsh,hk,hrm,hlg,acQ]|refine fsp ?_ ?_<;>intro hb|refine fd ?_|fail)))
 |true=>
 rw[cS]at hsh
 cases cL:decide ((10:Int)<(l.length:Int))with
 |true=>
  (refine ce Tryz.func4 ?_;simp only[Tryz.f4];(have hb:=trivial;with_reducible repeat' (first|simp only[hb,Va.down,seval,TY4.down,hsh,hk,hrm,hlg,acQ,cL]|refine fsp ?_ ?_<;>intro hb|refine fd ?_|fail)))
 |false=>
 cases cM:an4 m with
 |false=>
  rw[cM]at hrm
  (refine ce Tryz.func4 ?_;simp only[Tryz.f4];(have hb:=trivial;with_reducible repeat' (first|simp only[hb,Va.down,seval,TY4.down,hsh,hk,hrm,hlg,acQ,cL]|refine fsp ?_ ?_<;>intro hb|refine fd ?_|fail)))
 |true=>
 rw[cM]at hrm
 cases cG:l.all (ar7 m)with
 |false=>
  rw[cG]at hlg
  (refine ce Tryz.func4 ?_;simp only[Tryz.f4];(have hb:=trivial;with_reducible repeat' (first|simp only[hb,Va.down,seval,TY4.down,hsh,hk,hrm,hlg,acQ,cL]|refine fsp ?_ ?_<;>intro hb|refine fd ?_|fail)))
 |true=>
 rw[cG]at hlg
 have ht:=aKU cS
 have ho:=aIV cM
 have hst:=aF8 cM
 have hne:m.opn≠[]:=fun e=>by rw[e]at ho;simp at ho;omega
 have a1:(m.sens=[]∧∀h,apO Tryz.prog 22 h (some .nils) (some (slv 3 true m.nS (m.sens.map ak7.cells)))=some (.ret .nils,[]))∨(m.sens≠[]∧∀h,apO Tryz.prog 22 h (some .nils) (some (slv 3 true m.nS (m.sens.map ak7.cells)))=some (.ret (.slr 3 h.length 0 m.sens.length),[.new h.length (.live 3 true false (m.sens.map ak7.cells))])):=by
  have h0:=fun h=>aZK h m.nS (rows:=m.sens.map ak7.cells) (by simpa using ht.sens)
  by_cases e:m.sens=[]
  ·exact .inl ⟨e,fun h=>(h0 h).trans (if_pos (by simp[e]))⟩
  ·exact .inr ⟨e,fun h=>(h0 h).trans ((if_neg (by simpa using e)).trans (by simp))⟩
 have a2:(m.votes=[]∧∀h,apO Tryz.prog 23 h (some .nils) (some (slv 4 false m.nV (m.votes.map acT.cells)))=some (.ret .nils,[]))∨(m.votes≠[]∧∀h,apO Tryz.prog 23 h (some .nils) (some (slv 4 false m.nV (m.votes.map acT.cells)))=some (.ret (.slr 4 h.length 0 m.votes.length),[.new h.length (.live 4 false false (m.votes.map acT.cells))])):=by
  have h0:=fun h=>aYO h m.nV (rows:=m.votes.map acT.cells) (by simpa using ht.votes)
  by_cases e:m.votes=[]
  ·exact .inl ⟨e,fun h=>(h0 h).trans (if_pos (by simp[e]))⟩
  ·exact .inr ⟨e,fun h=>(h0 h).trans ((if_neg (by simpa using e)).trans (by simp))⟩
 have a3:(m.moves=[]∧∀h,apO Tryz.prog 24 h (some .nils) (some (slv 5 false m.nM (m.moves.map acS.cells)))=some (.ret .nils,[]))∨(m.moves≠[]∧∀h,apO Tryz.prog 24 h (some .nils) (some (slv 5 false m.nM (m.moves.map acS.cells)))=some (.ret (.slr 5 h.length 0 m.moves.length),[.new h.length (.live 5 false false (m.moves.map acS.cells))])):=by
  have h0:=fun h=>aYC h m.nM (rows:=m.moves.map acS.cells) (by simpa using ht.moves)
  by_cases e:m.moves=[]
  ·exact .inl ⟨e,fun h=>(h0 h).trans (if_pos (by simp[e]))⟩
  ·exact .inr ⟨e,fun h=>(h0 h).trans ((if_neg (by simpa using e)).trans (by simp))⟩
 have a4:∀h,apO Tryz.prog 25 h (some .nils) (some (slv 1 true m.nO (m.opn.map iv)))=some (.ret (.slr 1 h.length 0 m.opn.length),[.new h.length (.live 1 true false (m.opn.map iv))]):=fun h=>(aLG h m.nO (rows:=m.opn.map iv) (by simpa using ht.opn)).trans ((if_neg (by simpa using hne)).trans (by simp))
 refine ce Tryz.func4 ?_
 simp only[Tryz.f4]
 have key:∀(t:Tm) (h:aaP) (sv vv mv ov:AV) (vb mb:Nat) (Rs Ro:List Nat) (w1:Bool),t 1=slv 2 false nn (l.map ac6.cells)→t 2=.ptr 0 0 0→t 5=.ptr 1 0 0→h[0]?=some (.live 7 false false [[slv 3 true m.nS (m.sens.map ak7.cells),slv 4 false m.nV (m.votes.map acT.cells),slv 5 false m.nM (m.moves.map acS.cells),.int .i64 m.states,.int .i64 m.cmds,.int .i64 m.bgn,slv 1 true m.nO (m.opn.map iv)]])→h[1]?=some (.live 7 false w1 [[sv,vv,mv,.int .i64 m.states,.int .i64 m.cmds,.int .i64 m.bgn,ov]])→
  rd 5 (hf h) sv=some (slv 3 true false (m.sens.map ak7.cells),Rs)→rd 5 (hf h) ov=some (slv 1 true false (m.opn.map iv),Ro)→(∀b∈Rs++Ro,b<h.length∧b≠vb∧b≠mb)→SlS 4 acT.cells m.votes vv vb h→SlS 5 acS.cells m.moves mv mb h→2≤vb→2≤mb→vb≠mb→alJ h→
  FnE Tryz.prog 0 Tryz.f4.results.toList (fun o h=>(o,h)=(.ret (.bool true),[])) (evM om' Tryz.prog 4983 (cAt (Tryz.f4.body.getD .skip) [true,true,true,true,true,true,true]) [] ⟨mk 313 t,h⟩):=by
  intro t h sv vv mv ov vb mb Rs Ro w1 h1 h2 h5 h0 h00 hsv hov hR hv hm hvb hmb hvm hL
  refine aRR m ht t h sv vv mv ov vb mb Rs Ro w1 h1 h2 h5 h0 h00 hsv hov hR hv hm hvb hmb hvm hL (fun t f w R h1 h2 h5 f0 f1 hr hL=>?_)
  refine a0G m hs ht hne cM t f w sv vv mv ov R h1 h2 h5 f0 f1 hr hL (fun t g n j h1 h2 h8 hb0 T0 hn hq=>?_)
  simp only[List.all_eq_true]at cG
  exact a1V hk m hs cM (by have:=of_decide_eq_false cL;omega) cG t g n j h1 h2 h8 hb0 T0 hn hq
 simp only[Tryz.f4,cAt,Option.getD_some]at key
 generalize hC8:Code.seq (Code.seq (Code.region 8 _ _) _) _=C8 at key ⊢
 rcases a1 with⟨eS,a1⟩|⟨eS,a1⟩<;>rcases a2 with⟨eV,a2⟩|⟨eV,a2⟩<;>rcases a3 with⟨eM,a3⟩|⟨eM,a3⟩
 all_goals (have hb:=trivial;with_reducible repeat' (first|simp only[hb,Va.down,seval,TY4.down,hsh,hk,hrm,hlg,cL,a1,a2,a3,a4,acQ]|refine fsp ?_ ?_<;>intro hb|refine fd ?_|fail))
 ·refine key _ _ .nils .nils .nils (.slr 1 2 0 m.opn.length) 100 101 [] [2] true ?_ ?_ ?_ ?_ ?_ ?_ ?_ ?_ ?_ ?_ (by omega) (by omega) (by omega) ?_
  ·simp[up,ent]
  ·simp[up]
  ·simp[up]
  ·rfl
  ·rfl
  ·rw[eS];rfl
  ·rw[ap2 (nn:=false) hne]
   refine apI (d:=4) ?_ ?_
   ·rfl
   ·simp
  ·simp
  ·exact .inl ⟨eV,rfl⟩
  ·exact .inl ⟨eM,rfl⟩
  ·exact(alJ.cons (alJ.cons (alJ.cons alJ.nil)))
 ·refine key _ _ .nils .nils (.slr 5 2 0 m.moves.length) (.slr 1 3 0 m.opn.length) 100 2 [] [3] true ?_ ?_ ?_ ?_ ?_ ?_ ?_ ?_ ?_ ?_ (by omega) (by omega) (by omega) ?_
  ·simp[up,ent]
  ·simp[up]
  ·simp[up]
  ·rfl
  ·rfl
  ·rw[eS];rfl
  ·rw[ap2 (nn:=false) hne]
   refine apI (d:=4) ?_ ?_
   ·rfl
   ·simp
  ·simp
  ·exact .inl ⟨eV,rfl⟩
  ·exact .inr ⟨eM,rfl,_,rfl⟩
  ·exact(alJ.cons (alJ.cons (alJ.cons (alJ.cons alJ.nil))))
 ·refine key _ _ .nils (.slr 4 2 0 m.votes.length) .nils (.slr 1 3 0 m.opn.length) 2 101 [] [3] true ?_ ?_ ?_ ?_ ?_ ?_ ?_ ?_ ?_ ?_ (by omega) (by omega) (by omega) ?_
  ·simp[up,ent]
  ·simp[up]
  ·simp[up]
  ·rfl
  ·rfl
  ·rw[eS];rfl
  ·rw[ap2 (nn:=false) hne]
   refine apI (d:=4) ?_ ?_
   ·rfl
   ·simp
  ·simp
  ·exact .inr ⟨eV,rfl,_,rfl⟩
  ·exact .inl ⟨eM,rfl⟩
  ·exact(alJ.cons (alJ.cons (alJ.cons (alJ.cons alJ.nil))))
 ·refine key _ _ .nils (.slr 4 2 0 m.votes.length) (.slr 5 3 0 m.moves.length) (.slr 1 4 0 m.opn.length) 2 3 [] [4] true ?_ ?_ ?_ ?_ ?_ ?_ ?_ ?_ ?_ ?_ (by omega) (by omega) (by omega) ?_
  ·simp[up,ent]
  ·simp[up]
  ·simp[up]
  ·rfl
  ·rfl
  ·rw[eS];rfl
  ·rw[ap2 (nn:=false) hne]
   refine apI (d:=4) ?_ ?_
   ·rfl
   ·simp
  ·simp
  ·exact .inr ⟨eV,rfl,_,rfl⟩
  ·exact .inr ⟨eM,rfl,_,rfl⟩
  ·exact(alJ.cons (alJ.cons (alJ.cons (alJ.cons (alJ.cons alJ.nil)))))
 ·refine key _ _ (.slr 3 2 0 m.sens.length) .nils .nils (.slr 1 3 0 m.opn.length) 100 101 [2] [3] true ?_ ?_ ?_ ?_ ?_ ?_ ?_ ?_ ?_ ?_ (by omega) (by omega) (by omega) ?_
  ·simp[up,ent]
  ·simp[up]
  ·simp[up]
  ·rfl
  ·rfl
  ·rw[ap2 (nn:=false) eS]
   refine apI (d:=4) ?_ ?_
   ·rfl
   ·simp
  ·rw[ap2 (nn:=false) hne]
   refine apI (d:=4) ?_ ?_
   ·rfl
   ·simp
  ·simp
  ·exact .inl ⟨eV,rfl⟩
  ·exact .inl ⟨eM,rfl⟩
  ·exact(alJ.cons (alJ.cons (alJ.cons (alJ.cons alJ.nil))))
 ·refine key _ _ (.slr 3 2 0 m.sens.length) .nils (.slr 5 3 0 m.moves.length) (.slr 1 4 0 m.opn.length) 100 3 [2] [4] true ?_ ?_ ?_ ?_ ?_ ?_ ?_ ?_ ?_ ?_ (by omega) (by omega) (by omega) ?_
  ·simp[up,ent]
  ·simp[up]
  ·simp[up]
  ·rfl
  ·rfl
  ·rw[ap2 (nn:=false) eS]
   refine apI (d:=4) ?_ ?_
   ·rfl
   ·simp
  ·rw[ap2 (nn:=false) hne]
   refine apI (d:=4) ?_ ?_
   ·rfl
   ·simp
  ·simp
  ·exact .inl ⟨eV,rfl⟩
  ·exact .inr ⟨eM,rfl,_,rfl⟩
  ·exact(alJ.cons (alJ.cons (alJ.cons (alJ.cons (alJ.cons alJ.nil)))))
 ·refine key _ _ (.slr 3 2 0 m.sens.length) (.slr 4 3 0 m.votes.length) .nils (.slr 1 4 0 m.opn.length) 3 101 [2] [4] true ?_ ?_ ?_ ?_ ?_ ?_ ?_ ?_ ?_ ?_ (by omega) (by omega) (by omega) ?_
  ·simp[up,ent]
  ·simp[up]
  ·simp[up]
  ·rfl
  ·rfl
  ·rw[ap2 (nn:=false) eS]
   refine apI (d:=4) ?_ ?_
   ·rfl
   ·simp
  ·rw[ap2 (nn:=false) hne]
   refine apI (d:=4) ?_ ?_
   ·rfl
   ·simp
  ·simp
  ·exact .inr ⟨eV,rfl,_,rfl⟩
  ·exact .inl ⟨eM,rfl⟩
  ·exact(alJ.cons (alJ.cons (alJ.cons (alJ.cons (alJ.cons alJ.nil)))))
 ·refine key _ _ (.slr 3 2 0 m.sens.length) (.slr 4 3 0 m.votes.length) (.slr 5 4 0 m.moves.length) (.slr 1 5 0 m.opn.length) 3 4 [2] [5] true ?_ ?_ ?_ ?_ ?_ ?_ ?_ ?_ ?_ ?_ (by omega) (by omega) (by omega) ?_
  ·simp[up,ent]
  ·simp[up]
  ·simp[up]
  ·rfl
  ·rfl
  ·rw[ap2 (nn:=false) eS]
   refine apI (d:=4) ?_ ?_
   ·rfl
   ·simp
  ·rw[ap2 (nn:=false) hne]
   refine apI (d:=4) ?_ ?_
   ·rfl
   ·simp
  ·simp
  ·exact .inr ⟨eV,rfl,_,rfl⟩
  ·exact .inr ⟨eM,rfl,_,rfl⟩
  ·exact(alJ.cons (alJ.cons (alJ.cons (alJ.cons (alJ.cons (alJ.cons alJ.nil))))))
theorem aJR(hk:om'.call (.fn 6) [] []=some (.ret (.bool true),[])):∀avs,aLN Tryz.prog 7 Tryz.f4.params.toList avs→om'.call (.fn 4) avs []=some (.ret (.bool true),[]):=by
 intro avs h
 rw[show Tryz.f4.params.toList=[27,28]from rfl]at h
 match avs,h with
 | [a,b],h=>
   obtain⟨m,rfl,hs⟩:=aXX h.1
   obtain⟨nn,l,rfl,hl,hy⟩:=aRN h.2.1
   exact aJN hk m hs hl hy
 | [],h=>exact h.elim
 | [_],h=>exact h.2.elim
 |_::_::_::_,h=>exact h.2.2.elim
end Go.Proofs.YtfkokgjfpojeoaaGreatDoor
