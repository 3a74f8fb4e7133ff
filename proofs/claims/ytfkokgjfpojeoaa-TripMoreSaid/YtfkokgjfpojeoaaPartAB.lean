/- The functions of the layer, walked. -/
import Derived.Test.YtfkokgjfpojeoaaPartAA
import Derived.Test.YtfkokgjfpojeoaaLibD
open List renaming length_map→aaT,mem_of_getElem?→abE,mem_cons→abG,all_eq_true→abZ,all_cons→acF,not_mem_nil→agV,getElem?_eq_some_iff→ajN,length_set→aN2,length_cons→aP1,all_eq_not_any_not→aQ0,getElem?_eq_getElem→aRN,getElem?_set_self→aTX,getElem?_eq_none→aUY,length_eq_zero_iff→aU8
open Bool renaming and_eq_true→aa7,eq_false_iff→abJ,true_and→abS,false_and→afW,not_true→azP,not_false→aI7,and_true→aQQ,not_eq_eq_eq_not→aRO,and_false→aR5
open Int renaming lt_irrefl→abB
open Option renaming bind_eq_some_iff→af0,map_eq_some_iff→agC
set_option linter.unusedSimpArgs false
set_option linter.unusedVariables false
namespace Go.Proofs.Ytfkokgjfpojeoaa
open Go.Ev Go
set_option maxRecDepth 100000
set_option maxHeartbeats 16000000
theorem aZV(m:jR)(hs:m.small):om'.call (.fn 15) [.agg [Rr 3 true m.nS (m.sens.map sF.cells),Rr 4 false m.nV (m.votes.map aS.cells),Rr 5 false m.nM (m.moves.map Zw.cells),.int .i64 m.states,.int .i64 m.cmds,.int .i64 m.bgn,Rr 1 true m.nO (m.opn.map iv)]] []=some (.ret (.bool (aaP m)),[]):=by
 have l1:decide ((6:Int)<(m.sens.length:Int))= !decide (m.sens.length≤6):=by rw[←decide_not,decide_eq_decide];omega
 have l2:decide ((6:Int)<(m.votes.length:Int))= !decide (m.votes.length≤6):=by rw[←decide_not,decide_eq_decide];omega
 have l3:decide ((20:Int)<(m.moves.length:Int))= !decide (m.moves.length≤20):=by rw[←decide_not,decide_eq_decide];omega
 have sen:∀x:sF,aXQ x=(!decide (x.lo < -10000)&& !decide (x.hi<x.lo)&& !decide (10000<x.hi)):=fun x=>by
  rw[Bool.eq_iff_iff];simp[aXQ,aQE,inB];omega
 (refine ce Try.func15 ?_;simp only[Try.f15];(have hb:=trivial;with_reducible repeat' (first|simp only[hb,Vc.down,seval,aKD.down,aaT]|refine tQ ?_ ?_<;>intro hb|refine fd ?_|fail)))
 refine acW (lst 126 m.sens (fun i (zz:Unit) t h=>t 1=.ptr 0 0 0∧t 3=.int .i64 i∧(h[0]?=some (.live 7 false false [[Rr 3 true m.nS (m.sens.map sF.cells),Rr 4 false m.nV (m.votes.map aS.cells),Rr 5 false m.nM (m.moves.map Zw.cells),.int .i64 m.states,.int .i64 m.cmds,.int .i64 m.bgn,Rr 1 true m.nO (m.opn.map iv)]]))) (fun rest zz=>rest.all aXQ) (fun r e t h=>(if r=true then e=.exit 0∧t 1=.ptr 0 0 0∧h[0]?=some (.live 7 false false [[Rr 3 true m.nS (m.sens.map sF.cells),Rr 4 false m.nV (m.votes.map aS.cells),Rr 5 false m.nM (m.moves.map Zw.cells),.int .i64 m.states,.int .i64 m.cmds,.int .i64 m.bgn,Rr 1 true m.nO (m.opn.map iv)]])else e=.ret∧t 2=.bool false)) ?_ ?_ () _ _ ?_) (fun e t h hk=>?_)
 ·rintro _ t h Q' kQ ⟨h1,h3,hA⟩
  (have hb:=trivial;with_reducible repeat' (first|simp only[hb,Vc.down,seval,aKD.down,h1,h3,abB,decide_false,hA,aaT]|refine tQ ?_ ?_<;>intro hb|refine fd ?_|fail))
  exact kQ _ _ _ (by rw[if_pos (by rfl)];exact⟨rfl,by simp[up,h1],hA⟩)
 ·rintro x rest i _ t h J Q' kJ kQ hx hi ⟨h1,h3,hA⟩
  have hd:decide ((i:Int)<(m.sens.length:Int))=true:=decide_eq_true (by omega)
  have hw:=sC hi hs.sens
  have hA1:=zB hA
  (have hb:=trivial;with_reducible repeat' (first|simp only[hb,Vc.down,seval,aKD.down,h1,h3,hd,hx,hw,hA,hA1,sF.cells,aaT]|refine tQ ?_ ?_<;>intro hb|refine fd ?_|fail))
  all_goals first
   |exact kQ _ _ _ (by rw[if_neg (by simp_all)];exact⟨rfl,by simp[up]⟩)
   |(refine aaV (kJ _ _ () ⟨?_,?_,hA1 _⟩ ?_);(simp[up,h1]);(simp[up]);(simp_all))
 ·exact⟨by simp[up,ent],by simp[up],rfl⟩
 split at hk
 rotate_left
 ·obtain⟨rfl,h2⟩:=hk
  rename_i hr1
  (have hb:=trivial;with_reducible repeat' (first|simp only[hb,Vc.down,seval,aKD.down,h2]|refine tQ ?_ ?_<;>intro hb|refine fd ?_|fail))
  all_goals simp[aaP,abJ.2 hr1]
 obtain⟨rfl,h1,hA⟩:=hk
 rename_i hr1
 have hA1:=zB hA
 (have hb:=trivial;with_reducible repeat' (first|simp only[hb,Vc.down,seval,aKD.down,h1,hA,hA1,aaT]|refine tQ ?_ ?_<;>intro hb|refine fd ?_|fail))
 refine acW (lst 126 m.votes (fun i (zz:Unit) t h=>t 1=.ptr 0 0 0∧t 5=.int .i64 i∧(h[0]?=some (.live 7 false false [[Rr 3 true m.nS (m.sens.map sF.cells),Rr 4 false m.nV (m.votes.map aS.cells),Rr 5 false m.nM (m.moves.map Zw.cells),.int .i64 m.states,.int .i64 m.cmds,.int .i64 m.bgn,Rr 1 true m.nO (m.opn.map iv)]]))) (fun rest zz=>rest.all (aOE m.sens.length)) (fun r e t h=>(if r=true then e=.exit 2∧t 1=.ptr 0 0 0∧h[0]?=some (.live 7 false false [[Rr 3 true m.nS (m.sens.map sF.cells),Rr 4 false m.nV (m.votes.map aS.cells),Rr 5 false m.nM (m.moves.map Zw.cells),.int .i64 m.states,.int .i64 m.cmds,.int .i64 m.bgn,Rr 1 true m.nO (m.opn.map iv)]])else e=.ret∧t 2=.bool false)) ?_ ?_ () _ _ ?_) (fun e t h hk=>?_)
 ·rintro _ t h Q' kQ ⟨h1,h5,hA⟩
  (have hb:=trivial;with_reducible repeat' (first|simp only[hb,Vc.down,seval,aKD.down,h1,h5,abB,decide_false,hA,aaT]|refine tQ ?_ ?_<;>intro hb|refine fd ?_|fail))
  exact kQ _ _ _ (by rw[if_pos (by rfl)];exact⟨rfl,by simp[up,h1],hA⟩)
 ·rintro x rest i _ t h J Q' kJ kQ hx hi ⟨h1,h5,hA⟩
  have hd:decide ((i:Int)<(m.votes.length:Int))=true:=decide_eq_true (by omega)
  have hw:=sC hi hs.votes
  have hA1:=zB hA
  have hV:=ba1 x m.sens.length (hs.vs x (abE hx))
  (have hb:=trivial;with_reducible repeat' (first|simp only[hb,Vc.down,seval,aKD.down,h1,h5,hd,hx,hw,hA,hA1,hV,aS.cells,aaT]|refine tQ ?_ ?_<;>intro hb|refine fd ?_|fail))
  all_goals first
   |exact kQ _ _ _ (by rw[if_neg (by simp_all)];exact⟨rfl,by simp[up]⟩)
   |(refine aaV (kJ _ _ () ⟨?_,?_,hA⟩ ?_);(simp[up,h1]);(simp[up]);(simp_all))
 ·exact⟨by simp[up,ent,h1],by simp[up],hA⟩
 split at hk
 rotate_left
 ·obtain⟨rfl,h2⟩:=hk
  rename_i hr2
  (have hb:=trivial;with_reducible repeat' (first|simp only[hb,Vc.down,seval,aKD.down,h2]|refine tQ ?_ ?_<;>intro hb|refine fd ?_|fail))
  all_goals simp[aaP,abJ.2 hr2]
 obtain⟨rfl,h1,hA⟩:=hk
 rename_i hr2
 have hA1:=zB hA
 cases hp:afQ m with
 |false=>
  have hp':aaP m=false:=by simp[aaP,hp]
  rw[hp']
  (have hb:=trivial;with_reducible repeat' (first|simp only[hb,Vc.down,seval,aKD.down,h1,hA,hA1,aaT,aRZ,l1,l2,l3]|refine tQ ?_ ?_<;>intro hb|refine fd ?_|fail))
  all_goals first
   |rfl
   |(exfalso;simp_all[afQ];done)
 |true=>
  have hp':=hp
  simp only[afQ,aa7]at hp'
  obtain⟨⟨⟨⟨⟨⟨p1,p2⟩,p3⟩,p4⟩,p5⟩,p6⟩,p7⟩:=hp'
  (have hb:=trivial;with_reducible repeat' (first|simp only[hb,Vc.down,seval,aKD.down,h1,hA,hA1,aaT,aRZ,l1,l2,l3,p1,p2,p3,p4,p5,p6,p7]|refine tQ ?_ ?_<;>intro hb|refine fd ?_|fail))
  refine acW (lst 126 m.opn (fun i (zz:Unit) t h=>t 1=.ptr 0 0 0∧t 6=.int .i64 i∧(h[0]?=some (.live 7 false false [[Rr 3 true m.nS (m.sens.map sF.cells),Rr 4 false m.nV (m.votes.map aS.cells),Rr 5 false m.nM (m.moves.map Zw.cells),.int .i64 m.states,.int .i64 m.cmds,.int .i64 m.bgn,Rr 1 true m.nO (m.opn.map iv)]]))) (fun rest zz=>rest.all (fun n=>inB n 0 255)) (fun r e t h=>(if r=true then e=.exit 4∧t 1=.ptr 0 0 0∧h[0]?=some (.live 7 false false [[Rr 3 true m.nS (m.sens.map sF.cells),Rr 4 false m.nV (m.votes.map aS.cells),Rr 5 false m.nM (m.moves.map Zw.cells),.int .i64 m.states,.int .i64 m.cmds,.int .i64 m.bgn,Rr 1 true m.nO (m.opn.map iv)]])else e=.ret∧t 2=.bool false)) ?_ ?_ () _ _ ?_) (fun e t h hk=>?_)
  ·rintro _ t h Q' kQ ⟨h1,h6,hA⟩
   (have hb:=trivial;with_reducible repeat' (first|simp only[hb,Vc.down,seval,aKD.down,h1,h6,abB,decide_false,hA,aaT]|refine tQ ?_ ?_<;>intro hb|refine fd ?_|fail))
   exact kQ _ _ _ (by rw[if_pos (by rfl)];exact⟨rfl,by simp[up,h1],hA⟩)
  ·rintro x rest i _ t h J Q' kJ kQ hx hi ⟨h1,h6,hA⟩
   have hd:decide ((i:Int)<(m.opn.length:Int))=true:=decide_eq_true (by omega)
   have hw:=sC hi hs.opn
   have hA1:=zB hA
   (have hb:=trivial;with_reducible repeat' (first|simp only[hb,Vc.down,seval,aKD.down,h1,h6,hd,hx,hw,hA,hA1,aRZ,iv,aaT]|refine tQ ?_ ?_<;>intro hb|refine fd ?_|fail))
   all_goals first
    |exact kQ _ _ _ (by rw[if_neg (by simp_all)];exact⟨rfl,by simp[up]⟩)
    |(refine aaV (kJ _ _ () ⟨?_,?_,hA⟩ ?_);(simp[up,h1]);(simp[up]);(simp_all))
  ·exact⟨by simp[up,ent,h1],by simp[up],hA⟩
  split at hk
  rotate_left
  ·obtain⟨rfl,h2⟩:=hk
   rename_i hr3
   (have hb:=trivial;with_reducible repeat' (first|simp only[hb,Vc.down,seval,aKD.down,h2]|refine tQ ?_ ?_<;>intro hb|refine fd ?_|fail))
   all_goals simp[aaP,abJ.2 hr3]
  obtain⟨rfl,h1,hA⟩:=hk
  rename_i hr3
  have hA1:=zB hA
  (have hb:=trivial;with_reducible repeat' (first|simp only[hb,Vc.down,seval,aKD.down,h1,hA,hA1,aaT]|refine tQ ?_ ?_<;>intro hb|refine fd ?_|fail))
  refine acW (lst 126 m.moves (fun i (zz:Unit) t h=>t 1=.ptr 0 0 0∧t 7=.int .i64 i∧(h[0]?=some (.live 7 false false [[Rr 3 true m.nS (m.sens.map sF.cells),Rr 4 false m.nV (m.votes.map aS.cells),Rr 5 false m.nM (m.moves.map Zw.cells),.int .i64 m.states,.int .i64 m.cmds,.int .i64 m.bgn,Rr 1 true m.nO (m.opn.map iv)]]))) (fun rest zz=>rest.all (ae0 m)) (fun r e t h=>(if r=true then e=.exit 6 else e=.ret∧t 2=.bool false)) ?_ ?_ () _ _ ?_) (fun e t h hk=>?_)
  ·rintro _ t h Q' kQ ⟨h1,h7,hA⟩
   (have hb:=trivial;with_reducible repeat' (first|simp only[hb,Vc.down,seval,aKD.down,h1,h7,abB,decide_false,hA,aaT]|refine tQ ?_ ?_<;>intro hb|refine fd ?_|fail))
   exact kQ _ _ _ (by rw[if_pos (by rfl)])
  ·rintro x rest i _ t h J Q' kJ kQ hx hi ⟨h1,h7,hA⟩
   have hd:decide ((i:Int)<(m.moves.length:Int))=true:=decide_eq_true (by omega)
   have hw:=sC hi hs.moves
   have hA1:=zB hA
   have hM:=bbJ m x (hs.ws x (abE hx))
   (have hb:=trivial;with_reducible repeat' (first|simp only[hb,Vc.down,seval,aKD.down,h1,h7,hd,hx,hw,hA,hA1,hM,Zw.cells,aaT]|refine tQ ?_ ?_<;>intro hb|refine fd ?_|fail))
   all_goals first
    |exact kQ _ _ _ (by rw[if_neg (by simp_all)];exact⟨rfl,by simp[up]⟩)
    |(refine aaV (kJ _ _ () ⟨?_,?_,hA⟩ ?_);(simp[up,h1]);(simp[up]);(simp_all))
  ·exact⟨by simp[up,ent,h1],by simp[up],hA⟩
  split at hk
  ·subst hk
   rename_i hr4
   (have hb:=trivial;with_reducible repeat' (first|simp only[hb,Vc.down,seval,aKD.down]|refine tQ ?_ ?_<;>intro hb|refine fd ?_|fail))
   all_goals simp[aaP,hp,hr1,hr2,hr3,hr4]
  ·obtain⟨rfl,h2⟩:=hk
   rename_i hr4
   (have hb:=trivial;with_reducible repeat' (first|simp only[hb,Vc.down,seval,aKD.down,h2]|refine tQ ?_ ?_<;>intro hb|refine fd ?_|fail))
   all_goals simp[aaP,abJ.2 hr4]
def azC(m:jR)(l:List Int):Bool:=((l.length:Int)==(m.sens.length:Int))&&l.all aQE
def aO4(m:jR)(s:axQ):Bool:=azC m s.reads&&inB s.cmd (-1) (IntKind.i64.wrap (m.cmds-1))
theorem a10(m:jR){l:List Int}{nn:Bool}(hl:l.length≤maxLen):om'.call (.fn 62) [.agg [Rr 3 true m.nS (m.sens.map sF.cells),Rr 4 false m.nV (m.votes.map aS.cells),Rr 5 false m.nM (m.moves.map Zw.cells),.int .i64 m.states,.int .i64 m.cmds,.int .i64 m.bgn,Rr 1 true m.nO (m.opn.map iv)],Rr 1 true nn (l.map iv)] []=some (.ret (.bool (azC m l)),[]):=by
 have hc:=aUA (l:=l) (nn:=nn) (g:=82) (cap:=[]) (p:=fun x=> !aQE x) rfl rfl (fun x _=>a7K x) hl
 have q2:l.all aQE= !(l.any fun x=> !aQE x):=aQ0
 (refine ce Try.func62 ?_;simp only[Try.f62];(have hb:=trivial;with_reducible repeat' (first|simp only[hb,Vc.down,seval,bgD.down,aaT,hc]|refine tQ ?_ ?_<;>intro hb|refine fd ?_|fail)))
 all_goals simp only[azC,q2,hb,abS,afW]
theorem aX8(m:jR){l:List Int}{nn:Bool}(hl:l.length≤maxLen):om'.call (.fn 24) [.agg [Rr 3 true m.nS (m.sens.map sF.cells),Rr 4 false m.nV (m.votes.map aS.cells),Rr 5 false m.nM (m.moves.map Zw.cells),.int .i64 m.states,.int .i64 m.cmds,.int .i64 m.bgn,Rr 1 true m.nO (m.opn.map iv)],Rr 1 true nn (l.map iv)] []=some (.ret (.bool (azC m l)),[]):=by
 (refine ce Try.func24 ?_;simp only[Try.f24];(have hb:=trivial;with_reducible repeat' (first|simp only[hb,Vc.down,seval,a3Q.down,aaT]|refine tQ ?_ ?_<;>intro hb|refine fd ?_|fail)))
 refine acW (lst 24 l (fun i (zz:Unit) t h=>t 1=Rr 1 true nn (l.map iv)∧t 2=.ptr 0 0 0∧t 5=.int .i64 i∧(h[0]?=some (.live 7 false false [[Rr 3 true m.nS (m.sens.map sF.cells),Rr 4 false m.nV (m.votes.map aS.cells),Rr 5 false m.nM (m.moves.map Zw.cells),.int .i64 m.states,.int .i64 m.cmds,.int .i64 m.bgn,Rr 1 true m.nO (m.opn.map iv)]]))) (fun rest zz=>rest.all aQE) (fun r e t h=>(if r=true then e=.exit 0∧t 1=Rr 1 true nn (l.map iv)∧t 2=.ptr 0 0 0∧h[0]?=some (.live 7 false false [[Rr 3 true m.nS (m.sens.map sF.cells),Rr 4 false m.nV (m.votes.map aS.cells),Rr 5 false m.nM (m.moves.map Zw.cells),.int .i64 m.states,.int .i64 m.cmds,.int .i64 m.bgn,Rr 1 true m.nO (m.opn.map iv)]])else e=.ret∧t 4=.bool false)) ?_ ?_ () _ _ ?_) (fun e t h hk=>?_)
 ·rintro _ t h Q' kQ ⟨h1,h2,h5,hA⟩
  (have hb:=trivial;with_reducible repeat' (first|simp only[hb,Vc.down,seval,a3Q.down,h1,h2,h5,abB,decide_false,aaT]|refine tQ ?_ ?_<;>intro hb|refine fd ?_|fail))
  exact kQ _ _ _ (by rw[if_pos (by rfl)];exact⟨rfl,by simp[up,h1],by simp[up,h2],hA⟩)
 ·rintro x rest i _ t h J Q' kJ kQ hx hi ⟨h1,h2,h5,hA⟩
  have hd:decide ((i:Int)<(l.length:Int))=true:=decide_eq_true (by omega)
  have hw:=sC hi hl
  have hv:inB x (-10000) 10000=aQE x:=rfl
  (have hb:=trivial;with_reducible repeat' (first|simp only[hb,Vc.down,seval,a3Q.down,h1,h2,h5,hd,hx,hw,aRZ,hv,iv,aaT]|refine tQ ?_ ?_<;>intro hb|refine fd ?_|fail))
  all_goals first
   |exact kQ _ _ _ (by rw[if_neg (by simp_all)];exact⟨rfl,by simp[up]⟩)
   |(refine aaV (kJ _ _ () ⟨?_,?_,?_,hA⟩ ?_);(simp[up,h1]);(simp[up,h2]);(simp[up]);(simp_all))
 ·exact⟨by simp[up,ent],by simp[up,ent],by simp[up],rfl⟩
 split at hk
 ·obtain⟨rfl,h1,h2,hA⟩:=hk
  rename_i hr1
  have hA1:=zB hA
  (have hb:=trivial;with_reducible repeat' (first|simp only[hb,Vc.down,seval,a3Q.down,h1,h2,hA,hA1,aaT]|refine tQ ?_ ?_<;>intro hb|refine fd ?_|fail))
  all_goals simp[azC,hr1]
 ·obtain⟨rfl,h2⟩:=hk
  rename_i hr1
  (have hb:=trivial;with_reducible repeat' (first|simp only[hb,Vc.down,seval,a3Q.down,h2]|refine tQ ?_ ?_<;>intro hb|refine fd ?_|fail))
  all_goals simp[azC,abJ.2 hr1]
theorem aZQ(m:jR)(s:axQ)(hl:s.reads.length≤maxLen):om'.call (.fn 44) [.agg [Rr 3 true m.nS (m.sens.map sF.cells),Rr 4 false m.nV (m.votes.map aS.cells),Rr 5 false m.nM (m.moves.map Zw.cells),.int .i64 m.states,.int .i64 m.cmds,.int .i64 m.bgn,Rr 1 true m.nO (m.opn.map iv)],.agg [Rr 1 true s.nn (s.reads.map iv),.int .i64 s.cmd]] []=some (.ret (.bool (aO4 m s)),[]):=by
 have hr:=a10 m (nn:=s.nn) hl
 (refine ce Try.func44 ?_;simp only[Try.f44];(have hb:=trivial;with_reducible repeat' (first|simp only[hb,Vc.down,seval,bf5.down,hr,aOT]|refine tQ ?_ ?_<;>intro hb|refine fd ?_|fail)))
 all_goals simp_all[aO4]
theorem baP(m:jR)(s:axQ)(hl:s.reads.length≤maxLen):om'.call (.fn 16) [.agg [Rr 3 true m.nS (m.sens.map sF.cells),Rr 4 false m.nV (m.votes.map aS.cells),Rr 5 false m.nM (m.moves.map Zw.cells),.int .i64 m.states,.int .i64 m.cmds,.int .i64 m.bgn,Rr 1 true m.nO (m.opn.map iv)],.agg [Rr 1 true s.nn (s.reads.map iv),.int .i64 s.cmd]] []=some (.ret (.bool (aO4 m s)),[]):=by
 have hr:=aX8 m (nn:=s.nn) hl
 (refine ce Try.func16 ?_;simp only[Try.f16];(have hb:=trivial;with_reducible repeat' (first|simp only[hb,Vc.down,seval,bgQ.down,hr,aRZ]|refine tQ ?_ ?_<;>intro hb|refine fd ?_|fail)))
 all_goals simp_all[aO4]
def sAt(m:jR)(k:Int):sF:=m.sens.getD k.toNat ⟨0,0,false⟩
def rAt(l:List Int)(k:Int):Int:=l.getD k.toNat 0
theorem aUE{m:jR}{k:Int}(h:k.toNat<m.sens.length):m.sens[k.toNat]?=some (sAt m k):=by
 simp[sAt,List.getD,aRN h]
theorem a7P{l:List Int}{k:Int}(h:k.toNat<l.length):l[k.toNat]?=some (rAt l k):=by
 simp[rAt,List.getD,aRN h]
def aRB(m:jR)(v:aS)(l:List Int):List Int→Int→Int
 | [],c=>c
 |k::ks,c=>aRB m v l ks (if aQP (sAt m k) v (rAt l k)=true then IntKind.i64.wrap (c+1)else c)
def adW(m:jR)(l:List Int)(v:aS):Bool:=decide (v.need≤aRB m v l v.sens 0)
def Idx(m:jR)(l:List Int):Prop:=∀k∈l,0≤k∧k.toNat<m.sens.length
theorem aYI{n:Nat}(hn:n≤6):∀{l:List Int} {p:Option Int},ai8 n l p=true→∀k∈l,0≤k∧k.toNat<n
 | [],_,_,k,h=>by cases h
 |x::l,p,h,k,hk=>by
  simp only[ai8,aa7]at h
  rcases abG.1 hk with rfl|hk
  ·have:=h.1.1
   rw[ac8 (by omega) (by omega)]at this
   simp[inB]at this
   omega
  ·exact aYI hn h.2 k hk
theorem aW2{m:jR}(h:aaP m=true):∀v∈m.votes,Idx m v.sens:=fun v hv=>by
 simp only[aaP,afQ,aa7,decide_eq_true_eq,abZ]at h
 have h2:=h.1.1.2 v hv
 simp only[aOE,aa7]at h2
 exact aYI h.1.1.1.1.1.1.1.1.1.1 h2.1.1
def orN(a b:Int):Int:=IntKind.i64.wrap ((BitVec.ofInt 64 a|||BitVec.ofInt 64 b).toNat:Int)
theorem bdN(ty:TypeId)(a b:Int):ad6 Try.prog .or ty (.int .i64 a) (.int .i64 b)=some (.int .i64 (orN a b)):=by
 show(if IntKind.i64=IntKind.i64 then ac2 .or .i64 a b else none)=_
 rw[if_pos rfl];rfl
def aeR(m:jR)(l:List Int):List aS→Nat→Int→Int
 | [],_,b=>b
 |v::vs,i,b=>aeR m l vs (i+1) (if adW m l v=true then orN b (a5P i)else b)
theorem aUZ(m:jR){l:List Int}{nn:Bool}(hl:l.length=m.sens.length)(hs:m.small)(hi:∀v∈m.votes,Idx m v.sens):om'.call (.fn 46) [.agg [Rr 3 true m.nS (m.sens.map sF.cells),Rr 4 false m.nV (m.votes.map aS.cells),Rr 5 false m.nM (m.moves.map Zw.cells),.int .i64 m.states,.int .i64 m.cmds,.int .i64 m.bgn,Rr 1 true m.nO (m.opn.map iv)],Rr 1 true nn (l.map iv)] []=some (.ret (.int .i64 (aeR m l m.votes 0 0)),[]):=by
 have hI:=hi
 clear hi
 (refine ce Try.func46 ?_;simp only[Try.f46];(have hb:=trivial;with_reducible repeat' (first|simp only[hb,Vc.down,seval,aXP.down,aaT]|refine tQ ?_ ?_<;>intro hb|refine fd ?_|fail)))
 refine acW (lst 50 m.votes (fun i (zz:Nat × Int) t h=>t 1=Rr 1 true nn (l.map iv)∧t 2=.ptr 0 0 0∧t 12=Rr 4 false m.nV (m.votes.map aS.cells)∧t 13=.int .i64 m.votes.length∧t 14=.int .i64 i∧t 5=.int .i64 zz.2∧(h[0]?=some (.live 7 false false [[Rr 3 true m.nS (m.sens.map sF.cells),Rr 4 false m.nV (m.votes.map aS.cells),Rr 5 false m.nM (m.moves.map Zw.cells),.int .i64 m.states,.int .i64 m.cmds,.int .i64 m.bgn,Rr 1 true m.nO (m.opn.map iv)]])∧i=zz.1)) (fun rest zz=>aeR m l rest zz.1 zz.2) (fun r e t h=>e=.exit 0∧t 5=.int .i64 r) ?_ ?_ (0,0) _ _ ?_) (fun e t h hk=>?_)
 ·rintro⟨k,b⟩ t h Q' kQ ⟨h1,h2,h12,h13,h14,h5,⟨hA,rfl⟩⟩
  try dsimp only at *
  (have hb:=trivial;with_reducible repeat' (first|simp only[hb,Vc.down,seval,aXP.down,h1,h2,h12,h13,h14,h5,abB,decide_false]|refine tQ ?_ ?_<;>intro hb|refine fd ?_|fail))
  exact kQ _ _ _ ⟨rfl,by simp[up,h5,aeR]⟩
 ·rintro x rest i ⟨k,b⟩ t h J Q' kJ kQ hx hi ⟨h1,h2,h12,h13,h14,h5,⟨hA,rfl⟩⟩
  have hd:decide ((i:Int)<(m.votes.length:Int))=true:=decide_eq_true (by omega)
  have hw:=sC hi hs.votes
  try dsimp only at *
  have hA1:=zB hA
  have hvs:=hs.vs x (abE hx)
  have hIx:=hI x (abE hx)
  obtain⟨w,rfl⟩:∃w,w=x:=⟨_,rfl⟩
  obtain⟨k,rfl⟩:∃k,k=i:=⟨_,rfl⟩
  obtain⟨hL,hLe⟩:∃hL,hL=h.length:=⟨_,rfl⟩
  (have hb:=trivial;with_reducible repeat' (first|simp only[hb,Vc.down,seval,aXP.down,h1,h2,h12,h13,h14,h5,hd,hx,hw,hA1,aS.cells,aaT]|refine tQ ?_ ?_<;>intro hb|refine fd ?_|fail))
  refine acW (lst 50 w.sens (fun i (zz:Int) t h=>t 1=Rr 1 true nn (l.map iv)∧t 2=.ptr 0 0 0∧t 12=Rr 4 false m.nV (m.votes.map aS.cells)∧t 13=.int .i64 m.votes.length∧t 14=.int .i64 (k:Int)∧t 5=.int .i64 b∧t 6=.int .i64 (k:Int)∧t 7=.ptr hL 0 0∧t 20=Rr 1 true w.nn (w.sens.map iv)∧t 21=.int .i64 w.sens.length∧t 22=.int .i64 i∧t 8=.int .i64 zz∧(h[0]?=some (.live 7 false false [[Rr 3 true m.nS (m.sens.map sF.cells),Rr 4 false m.nV (m.votes.map aS.cells),Rr 5 false m.nM (m.moves.map Zw.cells),.int .i64 m.states,.int .i64 m.cmds,.int .i64 m.bgn,Rr 1 true m.nO (m.opn.map iv)]])∧∃wf,h[hL]?=some (.live 4 false wf [[Rr 1 true w.nn (w.sens.map iv),.int .i64 w.need,.int .i64 w.level,.bool w.above]]))) (fun rest zz=>aRB m w l rest zz) (fun r e t h=>e=.exit 2∧t 1=Rr 1 true nn (l.map iv)∧t 2=.ptr 0 0 0∧t 12=Rr 4 false m.nV (m.votes.map aS.cells)∧t 13=.int .i64 m.votes.length∧t 14=.int .i64 (k:Int)∧t 5=.int .i64 b∧t 6=.int .i64 (k:Int)∧t 7=.ptr hL 0 0∧t 8=.int .i64 r∧h[0]?=some (.live 7 false false [[Rr 3 true m.nS (m.sens.map sF.cells),Rr 4 false m.nV (m.votes.map aS.cells),Rr 5 false m.nM (m.moves.map Zw.cells),.int .i64 m.states,.int .i64 m.cmds,.int .i64 m.bgn,Rr 1 true m.nO (m.opn.map iv)]])∧∃wf,h[hL]?=some (.live 4 false wf [[Rr 1 true w.nn (w.sens.map iv),.int .i64 w.need,.int .i64 w.level,.bool w.above]])) ?_ ?_ (0) _ _ ?_) (fun e tC hC hk=>?_)
  ·rintro c t h Q' kQ ⟨h1,h2,h12,h13,h14,h5,h6,h7,h20,h21,h22,h8,⟨hA,wf,hB⟩⟩
   (have hb:=trivial;with_reducible repeat' (first|simp only[hb,Vc.down,seval,aXP.down,h1,h2,h12,h13,h14,h5,h6,h7,h20,h21,h22,h8,abB,decide_false]|refine tQ ?_ ?_<;>intro hb|refine fd ?_|fail))
   exact kQ _ _ _ ⟨rfl,by simp[up,h1],by simp[up,h2],by simp[up,h12],by simp[up,h13],by simp[up,h14],by simp[up,h5],by simp[up,h6],by simp[up,h7],by simp[up,h8,aRB],hA,wf,hB⟩
  ·rintro x rest i c t h J Q' kJ kQ hx hi ⟨h1,h2,h12,h13,h14,h5,h6,h7,h20,h21,h22,h8,⟨hA,wf,hB⟩⟩
   have hd:decide ((i:Int)<(w.sens.length:Int))=true:=decide_eq_true (by omega)
   have hw:=sC hi hvs
   obtain⟨k0,k1⟩:=hIx x (abE hx)
   have hrr:=a7P (l:=l) (k:=x) (by omega)
   have hss:=aUE k1
   have h0':(0≤x)=True:=eq_true k0
   have hS:=bcD (sAt m x) w (rAt l x)
   generalize hq:aQP (sAt m x) w (rAt l x)=q at hS
   generalize sAt m x=s at hss hS
   (have hb:=trivial;with_reducible repeat' (first|simp only[hb,Vc.down,seval,aXP.down,h1,h2,h7,h8,h20,h21,h22,hd,hx,hw,hrr,hss,h0',hA,hB,hS,iv,sF.cells,aaT]|refine tQ ?_ ?_<;>intro hb|refine fd ?_|fail))
   all_goals (refine aaV (kJ _ _ (if q=true then IntKind.i64.wrap (c+1)else c) ⟨?_,?_,?_,?_,?_,?_,?_,?_,?_,?_,?_,?_,⟨hA,wf,hB⟩⟩ ?_);(simp[up,h1]);(simp[up,h2]);(simp[up,h12]);(simp[up,h13]);(simp[up,h14]);(simp[up,h5]);(simp[up,h6]);(simp[up,h7]);(simp[up,h20]);(simp[up,h21]);(simp[up]);(simp[up,h8,hb]);(simp[aRB,hq]))
  ·exact⟨by simp[up,ent,h1,h2,h12,h13,h14,h5,hLe],by simp[up,ent,h1,h2,h12,h13,h14,h5,hLe],by simp[up,ent,h1,h2,h12,h13,h14,h5,hLe],by simp[up,ent,h1,h2,h12,h13,h14,h5,hLe],by simp[up,ent,h1,h2,h12,h13,h14,h5,hLe],by simp[up,ent,h1,h2,h12,h13,h14,h5,hLe],by simp[up,ent,h1,h2,h12,h13,h14,h5,hLe],by simp[up,ent,h1,h2,h12,h13,h14,h5,hLe],by simp[up,ent,h1,h2,h12,h13,h14,h5,hLe],by simp[up,ent,h1,h2,h12,h13,h14,h5,hLe],by simp[up],by simp[up,ent,h1,h2,h12,h13,h14,h5,hLe],⟨hA1 _,true,by rw[hLe];simp⟩⟩
  ·obtain⟨rfl,h1,h2,h12,h13,h14,h5,h6,h7,h8,hA,wf,hB⟩:=hk
   have hy:decide (w.need≤aRB m w l w.sens 0)=adW m l w:=rfl
   (have hb:=trivial;with_reducible repeat' (first|simp only[hb,Vc.down,seval,aXP.down,h1,h2,h12,h13,h14,h5,h6,h7,h8,hA,hB,hw,hy,bdN]|refine tQ ?_ ?_<;>intro hb|refine fd ?_|fail))
   all_goals (refine aaV (kJ _ _ (k+1,(if adW m l w=true then orN b (a5P k)else b)) ⟨?_,?_,?_,?_,?_,?_,⟨hA,rfl⟩⟩ ?_);(simp[up,h1]);(simp[up,h2]);(simp[up,h12]);(simp[up,h13]);(simp[up]);(simp[up,h5,hb]);(simp[aeR]))
 ·exact⟨by simp[up,ent],by simp[up,ent],by simp[up,ent],by simp[up,ent],by simp[up],by simp[up,ent],⟨rfl,rfl⟩⟩
 obtain⟨rfl,h5⟩:=hk
 (have hb:=trivial;with_reducible repeat' (first|simp only[hb,Vc.down,seval,aXP.down,h5]|refine tQ ?_ ?_<;>intro hb|refine fd ?_|fail))
def bv(b:Bool):List AV:=[.bool b]
theorem a67{h:Gq}{b:Nat}(hb:b<h.length)(l:Gq)(c:CB):(h++l).set b c=h.set b c++l:=List.set_append_left _ _ hb
theorem aWC{h:Gq}{b:Nat}(c:CB)(l:Gq)(k:Nat):(h.set b c++l)[h.length+k]?=l[k]?:=by
 have:=aY7 (h.set b c) l k
 rwa[aN2]at this
theorem a78{h:Gq}{b b':Nat}{x:CB}(c:CB)(hne:b≠b')(hb:h[b']?=some x)(l:Gq):(h.set b c++l)[b']?=some x:=by
 rw[List.getElem?_append_left (by rw[aN2];exact(ajN.1 hb).1),List.getElem?_set_ne hne];exact hb
def a84(v:AV)(i:Nat)(rows:List (List AV))(h:Gq):Prop:=(i=0∧v=.nils)∨(0<i∧∃b,0<b∧v=.slr 1 b 0 i∧h[b]?=some (.live 1 true false rows))
def aOD:List Bool→Nat→Int→Int
 | [],_,b=>b
 |v::vs,i,b=>aOD vs (i+1) (if v=true then orN b (a5P i)else b)
theorem aPL(m:jR)(l:List Int):∀(vs:List aS) (i:Nat) (b:Int),aeR m l vs i b=aOD (vs.map (adW m l)) i b
 | [],_,_=>rfl
 |v::vs,i,b=>by simp only[aeR,List.map_cons,aOD];exact aPL m l vs _ _
def ac7(b v:Int):Bool:=bbG (a2D b v.toNat)==1
theorem a5C:∀(l:List Bool),l.length≤6→∀i:Nat,i<l.length→l[i]?=some (ac7 (aOD l 0 0) i)
 | [],_,i,h=>by simp at h
 | [a],_,i,h=>by
   have:∀a:Bool,∀i:Fin 1,[a][i.val]?=some (ac7 (aOD [a] 0 0) (i.val:Nat)):=by decide+kernel
   exact this a ⟨i,h⟩
 | [a,b],_,i,h=>by
   have:∀a b:Bool,∀i:Fin 2,[a,b][i.val]?=some (ac7 (aOD [a,b] 0 0) (i.val:Nat)):=by decide+kernel
   exact this a b ⟨i,h⟩
 | [a,b,c],_,i,h=>by
   have:∀a b c:Bool,∀i:Fin 3,[a,b,c][i.val]?=some (ac7 (aOD [a,b,c] 0 0) (i.val:Nat)):=by decide+kernel
   exact this a b c ⟨i,h⟩
 | [a,b,c,d],_,i,h=>by
   have:∀a b c d:Bool,∀i:Fin 4,[a,b,c,d][i.val]?=some (ac7 (aOD [a,b,c,d] 0 0) (i.val:Nat)):=by decide+kernel
   exact this a b c d ⟨i,h⟩
 | [a,b,c,d,e],_,i,h=>by
   have:∀a b c d e:Bool,∀i:Fin 5,[a,b,c,d,e][i.val]?=some (ac7 (aOD [a,b,c,d,e] 0 0) (i.val:Nat)):=by decide+kernel
   exact this a b c d e ⟨i,h⟩
 | [a,b,c,d,e,f],_,i,h=>by
   have:∀a b c d e f:Bool,∀i:Fin 6,[a,b,c,d,e,f][i.val]?=some (ac7 (aOD [a,b,c,d,e,f] 0 0) (i.val:Nat)):=by decide+kernel
   exact this a b c d e f ⟨i,h⟩
 |_::_::_::_::_::_::_::_,h,_,_=>by simp only[aP1]at h;omega
theorem baX(a b:Bool):ad6 Try.prog .neq 4 (.bool a) (.bool b)=some (.bool (!(a==b))):=by cases a<;>cases b<;>kernel_rfl
structure aOH where
 frm:Int
 to:Int
 nn:Bool
 wants:List cI
 cmd:Int
 after:Int
 st:Int
 ag:Int
 bits:Int
 com:Int
theorem a9Y(n:aOH):om'.call (.fn 92) [.agg [.int .i64 n.frm,.int .i64 n.to,Rr 2 true n.nn (n.wants.map cI.cells),.int .i64 n.cmd,.int .i64 n.after,.int .i64 n.st,.int .i64 n.ag,.int .i64 n.bits,.int .i64 n.com]] []=some (.ret (.bool (n.frm==n.st)),[]):=by
 (refine ce Try.func92 ?_;simp only[Try.f92];(have hb:=trivial;with_reducible repeat' (first|simp only[hb,Vc.down,seval,bgI.down]|refine tQ ?_ ?_<;>intro hb|refine fd ?_|fail)))
theorem bd7(n:aOH):om'.call (.fn 93) [.agg [.int .i64 n.frm,.int .i64 n.to,Rr 2 true n.nn (n.wants.map cI.cells),.int .i64 n.cmd,.int .i64 n.after,.int .i64 n.st,.int .i64 n.ag,.int .i64 n.bits,.int .i64 n.com]] []=some (.ret (.bool (decide (n.after≤n.ag))),[]):=by
 (refine ce Try.func93 ?_;simp only[Try.f93];(have hb:=trivial;with_reducible repeat' (first|simp only[hb,Vc.down,seval,bgJ.down]|refine tQ ?_ ?_<;>intro hb|refine fd ?_|fail)))
theorem bcC(n:aOH):om'.call (.fn 95) [.agg [.int .i64 n.frm,.int .i64 n.to,Rr 2 true n.nn (n.wants.map cI.cells),.int .i64 n.cmd,.int .i64 n.after,.int .i64 n.st,.int .i64 n.ag,.int .i64 n.bits,.int .i64 n.com]] []=some (.ret (.bool (n.cmd== -1||n.cmd==n.com)),[]):=by
 (refine ce Try.func95 ?_;simp only[Try.f95];(have hb:=trivial;with_reducible repeat' (first|simp only[hb,Vc.down,seval,bgG.down]|refine tQ ?_ ?_<;>intro hb|refine fd ?_|fail)))
 all_goals simp_all
theorem aZW(n:aOH)(w:cI)(h0:0≤w.vote):om'.call (.fn 99) [.agg [.int .i64 w.vote,.bool w.is],.ptr 0 0 0] [.live 9 false false [[.int .i64 n.frm,.int .i64 n.to,Rr 2 true n.nn (n.wants.map cI.cells),.int .i64 n.cmd,.int .i64 n.after,.int .i64 n.st,.int .i64 n.ag,.int .i64 n.bits,.int .i64 n.com]]]=some (.ret (.bool (!(ac7 n.bits w.vote==w.is))),[.live 9 false false [[.int .i64 n.frm,.int .i64 n.to,Rr 2 true n.nn (n.wants.map cI.cells),.int .i64 n.cmd,.int .i64 n.after,.int .i64 n.st,.int .i64 n.ag,.int .i64 n.bits,.int .i64 n.com]]]):=by
 obtain⟨v,is⟩:=w
 obtain⟨k,hk⟩:∃k:Nat,v=k:=⟨v.toNat,by simp at h0;omega⟩
 subst hk
 (refine ce Try.func99 ?_;simp only[Try.f99];(have hb:=trivial;with_reducible repeat' (first|simp only[hb,Vc.down,seval,bgO.down,baX]|refine tQ ?_ ?_<;>intro hb|refine fd ?_|fail)))
 all_goals simp[ac7]
theorem aYA{l:List cI}{nn:Bool}{g:Nat}{ndq:aOH}{p:cI→Bool}(hp:∀x∈l,om'.call (.fn g) (.agg [.int .i64 x.vote,.bool x.is]::[.ptr 0 0 0]) [.live 9 false false [[.int .i64 ndq.frm,.int .i64 ndq.to,Rr 2 true ndq.nn (ndq.wants.map cI.cells),.int .i64 ndq.cmd,.int .i64 ndq.after,.int .i64 ndq.st,.int .i64 ndq.ag,.int .i64 ndq.bits,.int .i64 ndq.com]]]=some (.ret (.bool (p x)),[.live 9 false false [[.int .i64 ndq.frm,.int .i64 ndq.to,Rr 2 true ndq.nn (ndq.wants.map cI.cells),.int .i64 ndq.cmd,.int .i64 ndq.after,.int .i64 ndq.st,.int .i64 ndq.ag,.int .i64 ndq.bits,.int .i64 ndq.com]]]))(hl:l.length≤maxLen):
 om'.call (.fn 98) [Rr 2 true nn (l.map cI.cells),.func (.func g) [] [.ptr 0 0 0]] [.live 9 false false [[.int .i64 ndq.frm,.int .i64 ndq.to,Rr 2 true ndq.nn (ndq.wants.map cI.cells),.int .i64 ndq.cmd,.int .i64 ndq.after,.int .i64 ndq.st,.int .i64 ndq.ag,.int .i64 ndq.bits,.int .i64 ndq.com]]]=some (.ret (.int .i64 (idx p l 0)),[.live 9 false false [[.int .i64 ndq.frm,.int .i64 ndq.to,Rr 2 true ndq.nn (ndq.wants.map cI.cells),.int .i64 ndq.cmd,.int .i64 ndq.after,.int .i64 ndq.st,.int .i64 ndq.ag,.int .i64 ndq.bits,.int .i64 ndq.com]]]):=by
 (refine ce Try.func98 ?_;simp only[Try.f98];(have hb:=trivial;with_reducible repeat' (first|simp only[hb,Vc.down,seval,aTL.down,aaT]|refine tQ ?_ ?_<;>intro hb|refine fd ?_|fail)))
 refine acW (lst 19 l (fun i (s:Int) t h=>s=i∧h=[.live 9 false false [[.int .i64 ndq.frm,.int .i64 ndq.to,Rr 2 true ndq.nn (ndq.wants.map cI.cells),.int .i64 ndq.cmd,.int .i64 ndq.after,.int .i64 ndq.st,.int .i64 ndq.ag,.int .i64 ndq.bits,.int .i64 ndq.com]]]∧t 0=Rr 2 true nn (l.map cI.cells)∧t 1=.func (.func g) [] [.ptr 0 0 0]∧t 7=.int .i64 l.length∧t 8=.int .i64 i)
  (fun rest s=>idx p rest s) (fun r e t h=>h=[.live 9 false false [[.int .i64 ndq.frm,.int .i64 ndq.to,Rr 2 true ndq.nn (ndq.wants.map cI.cells),.int .i64 ndq.cmd,.int .i64 ndq.after,.int .i64 ndq.st,.int .i64 ndq.ag,.int .i64 ndq.bits,.int .i64 ndq.com]]]∧((e=.exit 0∧r= -1)∨(e=.ret∧t 4=.int .i64 r))) ?_ ?_ 0 _ _ ?_) (fun e t h hk=>?_)
 ·rintro s t h Q' kQ ⟨rfl,rfl,h0,h1,h7,h8⟩
  (have hb:=trivial;with_reducible repeat' (first|simp only[hb,Vc.down,seval,aTL.down,h0,h1,h7,h8,abB,decide_false]|refine tQ ?_ ?_<;>intro hb|refine fd ?_|fail))
  exact kQ _ _ _ ⟨rfl,.inl ⟨rfl,rfl⟩⟩
 ·rintro x rest i s t h J Q' kJ kQ hx hi ⟨rfl,rfl,h0,h1,h7,h8⟩
  have hpx:=hp x (abE hx)
  have hd:decide ((i:Int)<(l.length:Int))=true:=by simpa using hi
  (have hb:=trivial;with_reducible repeat' (first|simp only[hb,Vc.down,seval,aTL.down,h0,h1,h7,h8,hd,hx,cI.cells,hpx,sC hi hl]|refine tQ ?_ ?_<;>intro hb|refine fd ?_|fail))
  ·exact kQ _ _ _ ⟨rfl,.inr ⟨rfl,by simp[up,idx,hb]⟩⟩
  ·exact aaV (kJ _ _ (i+1) ⟨by simp,rfl,by simp[up,h0],by simp[up,h1],by simp[up,h7],by simp[up]⟩ (by simp[idx,hb]))
 ·exact⟨rfl,rfl,by simp[up,ent],by simp[up,ent],by simp[up],by simp[up]⟩
 ·obtain⟨rfl,⟨rfl,hi⟩|⟨rfl,hi⟩⟩:=hk
  ·(have hb:=trivial;with_reducible repeat' (first|simp only[hb,Vc.down,seval,aTL.down]|refine tQ ?_ ?_<;>intro hb|refine fd ?_|fail))
   rw[hi]
  ·(have hb:=trivial;with_reducible repeat' (first|simp only[hb,Vc.down,seval,aTL.down,hi]|refine tQ ?_ ?_<;>intro hb|refine fd ?_|fail))
theorem aVQ{l:List cI}{nn:Bool}{g:Nat}{ndq:aOH}{p:cI→Bool}(hp:∀x∈l,om'.call (.fn g) (.agg [.int .i64 x.vote,.bool x.is]::[.ptr 0 0 0]) [.live 9 false false [[.int .i64 ndq.frm,.int .i64 ndq.to,Rr 2 true ndq.nn (ndq.wants.map cI.cells),.int .i64 ndq.cmd,.int .i64 ndq.after,.int .i64 ndq.st,.int .i64 ndq.ag,.int .i64 ndq.bits,.int .i64 ndq.com]]]=some (.ret (.bool (p x)),[.live 9 false false [[.int .i64 ndq.frm,.int .i64 ndq.to,Rr 2 true ndq.nn (ndq.wants.map cI.cells),.int .i64 ndq.cmd,.int .i64 ndq.after,.int .i64 ndq.st,.int .i64 ndq.ag,.int .i64 ndq.bits,.int .i64 ndq.com]]]))(hl:l.length≤maxLen):
 om'.call (.fn 89) [Rr 2 true nn (l.map cI.cells),.func (.func g) [] [.ptr 0 0 0]] [.live 9 false false [[.int .i64 ndq.frm,.int .i64 ndq.to,Rr 2 true ndq.nn (ndq.wants.map cI.cells),.int .i64 ndq.cmd,.int .i64 ndq.after,.int .i64 ndq.st,.int .i64 ndq.ag,.int .i64 ndq.bits,.int .i64 ndq.com]]]=some (.ret (.bool (l.any p)),[.live 9 false false [[.int .i64 ndq.frm,.int .i64 ndq.to,Rr 2 true ndq.nn (ndq.wants.map cI.cells),.int .i64 ndq.cmd,.int .i64 ndq.after,.int .i64 ndq.st,.int .i64 ndq.ag,.int .i64 ndq.bits,.int .i64 ndq.com]]]):=by
 (refine ce Try.func89 ?_;simp only[Try.f89];(have hb:=trivial;with_reducible repeat' (first|simp only[hb,Vc.down,seval,aYA hp hl,aPH p l 0 (Int.le_refl 0)]|refine tQ ?_ ?_<;>intro hb|refine fd ?_|fail)))
def aRJ(bits:Int)(l:List cI):Bool:=l.all fun w=>ac7 bits w.vote==w.is
theorem a4P(n:aOH)(hl:n.wants.length≤maxLen)(h0:∀w∈n.wants,0≤w.vote):om'.call (.fn 94) [.agg [.int .i64 n.frm,.int .i64 n.to,Rr 2 true n.nn (n.wants.map cI.cells),.int .i64 n.cmd,.int .i64 n.after,.int .i64 n.st,.int .i64 n.ag,.int .i64 n.bits,.int .i64 n.com]] []=some (.ret (.bool (aRJ n.bits n.wants)),[]):=by
 have hc:=aVQ (ndq:=n) (l:=n.wants) (nn:=n.nn) (g:=99) (p:=fun w=> !(ac7 n.bits w.vote==w.is)) (fun w hw=>aZW n w (h0 w hw)) hl
 have q1:aRJ n.bits n.wants= !(n.wants.any fun w=> !(ac7 n.bits w.vote==w.is)):=aQ0
 (refine ce Try.func94 ?_;simp only[Try.f94];(have hb:=trivial;with_reducible repeat' (first|simp only[hb,Vc.down,seval,bgE.down,hc]|refine tQ ?_ ?_<;>intro hb|refine fd ?_|fail)))
 all_goals simp[q1]
theorem be5(f0 f1 f2 f3:Fn)(a0 a1 a2 a3 c0 c1 c2 c3:List AV):ai9 Try.prog 155 [(0,.func f0 a0 c0),(1,.func f1 a1 c1),(2,.func f2 a2 c2),(3,.func f3 a3 c3)]=some (.agg [.func f0 a0 c0,.func f1 a1 c1,.func f2 a2 c2,.func f3 a3 c3]):=by kernel_rfl
theorem a8S(a b c d:AV):aM5 Try.prog 155 (.agg [a,b,c,d]) (.int .i64 0)=some a:=by kernel_rfl
theorem a8L(a b c d:AV):aM5 Try.prog 155 (.agg [a,b,c,d]) (.int .i64 1)=some b:=by kernel_rfl
theorem a8K(a b c d:AV):aM5 Try.prog 155 (.agg [a,b,c,d]) (.int .i64 2)=some c:=by kernel_rfl
theorem a8O(a b c d:AV):aM5 Try.prog 155 (.agg [a,b,c,d]) (.int .i64 3)=some d:=by kernel_rfl
def aXH(n:aOH):Bool:=(n.frm==n.st)&&decide (n.after≤n.ag)&&aRJ n.bits n.wants&&(n.cmd== -1||n.cmd==n.com)
theorem w2:IntKind.i64.wrap 2=2:=Eq.trans rfl rfl
theorem w3:IntKind.i64.wrap 3=3:=Eq.trans rfl rfl
theorem w4:IntKind.i64.wrap 4=4:=Eq.trans rfl rfl
theorem a0N(n:aOH)(hl:n.wants.length≤maxLen)(h0:∀w∈n.wants,0≤w.vote):om'.call (.fn 75) [.agg [.int .i64 n.frm,.int .i64 n.to,Rr 2 true n.nn (n.wants.map cI.cells),.int .i64 n.cmd,.int .i64 n.after,.int .i64 n.st,.int .i64 n.ag,.int .i64 n.bits,.int .i64 n.com]] []=some (.ret (.bool (aXH n)),[]):=by
 have q1:=a9Y n
 have q2:=bd7 n
 have q3:=a4P n hl h0
 have q4:=bcC n
 (refine ce Try.func75 ?_;simp only[Try.f75];(have hb:=trivial;with_reducible repeat' (first|simp only[hb,Vc.down,seval,bdX.down,be5,a8S,a8L,a8K,a8O,q1,q2,q3,q4,w2,w3,w4]|refine tQ ?_ ?_<;>intro hb|refine fd ?_|fail)))
 (have hb:=trivial;with_reducible repeat' (first|simp only[hb,Vc.down,seval,bdX.down,be5,a8S,a8L,a8K,a8O,q1,q2,q3,q4,w2,w3,w4]|refine tQ ?_ ?_<;>intro hb|refine fd ?_|refine bfK ?_|fail))
 all_goals (refine congrArg (fun b=>(Out.ret (AV.bool b),([]:Gq))) ?_;symm;((try simp only[aRO,azP,aI7]at *);simp only[aXH, *,aR5,afW,aQQ,abS,Bool.and_self,Bool.not_not,azP,aI7,acF,List.all_nil]))
def nd(x:Zw)(st ag bits com:Int):aOH:=⟨x.frm,x.to,x.nn,x.wants,x.cmd,x.after,st,ag,bits,com⟩
def baS(a:Int):Int:=if IntKind.i64.wrap (a+1)<10 then IntKind.i64.wrap (a+1)else 10
def aOM(st ag bits com:Int):List Zw→Int × Int
 | []=>(st,baS ag)
 |x::l=>if aXH (nd x st ag bits com)=true then(x.to,0)else aOM st ag bits com l
theorem a3D(m:jR)(st ag bits com:Int)(hs:m.small)(h0:∀x∈m.moves,∀w∈x.wants,0≤w.vote):
 om'.call (.fn 45) [.agg [Rr 3 true m.nS (m.sens.map sF.cells),Rr 4 false m.nV (m.votes.map aS.cells),Rr 5 false m.nM (m.moves.map Zw.cells),.int .i64 m.states,.int .i64 m.cmds,.int .i64 m.bgn,Rr 1 true m.nO (m.opn.map iv)],.agg [.int .i64 st,.int .i64 ag],.agg [.int .i64 bits,.int .i64 com]] []=some (.ret (.agg [.int .i64 (aOM st ag bits com m.moves).1,.int .i64 (aOM st ag bits com m.moves).2]),[]):=by
 (refine ce Try.func45 ?_;simp only[Try.f45];(have hb:=trivial;with_reducible repeat' (first|simp only[hb,Vc.down,seval,a16.down,aaT]|refine tQ ?_ ?_<;>intro hb|refine fd ?_|fail)))
 refine acW (lst 32 m.moves (fun i (zz:Unit) t h=>t 4=.ptr 1 0 0∧t 5=.ptr 2 0 0∧t 6=.ptr 3 0 0∧t 10=Rr 5 false m.nM (m.moves.map Zw.cells)∧t 11=.int .i64 m.moves.length∧t 12=.int .i64 i∧(h[1]?=some (.live 2 true false [[.int .i64 st,.int .i64 ag]])∧h[2]?=some (.live 2 true false [[.int .i64 bits,.int .i64 com]])∧h[3]?=some (.live 2 true false [[.int .i64 0,.int .i64 0]]))) (fun rest zz=>aOM st ag bits com rest) (fun r e t h=>(e=.exit 0∧t 4=.ptr 1 0 0∧t 6=.ptr 3 0 0∧h[1]?=some (.live 2 true false [[.int .i64 st,.int .i64 ag]])∧h[3]?=some (.live 2 true false [[.int .i64 0,.int .i64 0]])∧r=(st,baS ag))∨(e=.ret∧t 6=.ptr 3 0 0∧h[3]?=some (.live 2 true true [[.int .i64 r.1,.int .i64 r.2]]))) ?_ ?_ () _ _ ?_) (fun e t h hk=>?_)
 ·rintro _ t h Q' kQ ⟨h4,h5,h6,h10,h11,h12,⟨hA,hB,hC⟩⟩
  (have hb:=trivial;with_reducible repeat' (first|simp only[hb,Vc.down,seval,a16.down,h4,h5,h6,h10,h11,h12,abB,decide_false]|refine tQ ?_ ?_<;>intro hb|refine fd ?_|fail))
  exact kQ _ _ _ (.inl ⟨rfl,by simp[up,h4],by simp[up,h6],hA,hC,rfl⟩)
 ·rintro x rest i _ t h J Q' kJ kQ hx hi ⟨h4,h5,h6,h10,h11,h12,⟨hA,hB,hC⟩⟩
  have hd:decide ((i:Int)<(m.moves.length:Int))=true:=decide_eq_true (by omega)
  have hw:=sC hi hs.moves
  have hA1:=zB hA
  have hB1:=zB hB
  have hC1:=zB hC
  have hap:=a0N (nd x st ag bits com) (hs.ws x (abE hx)) (h0 x (abE hx))
  have h3l:3<h.length:=(ajN.1 hC).1
  generalize hq:aXH (nd x st ag bits com)=q at hap
  simp only[nd]at hap
  (have hb:=trivial;with_reducible repeat' (first|simp only[hb,Vc.down,seval,a16.down,h4,h5,h6,h10,h11,h12,hd,hx,hw,hA1,hB1,hC1,hap,Zw.cells,aaT]|refine tQ ?_ ?_<;>intro hb|refine fd ?_|fail))
  ·exact kQ _ _ _ (.inr ⟨rfl,by simp[up,h6],by rw[aTX (by simp;omega)];simp[aOM,hq,hb]⟩)
  ·(refine aaV (kJ _ _ () ⟨?_,?_,?_,?_,?_,?_,⟨hA1 _,hB1 _,hC1 _⟩⟩ ?_);(simp[up,h4]);(simp[up,h5]);(simp[up,h6]);(simp[up,h10]);(simp[up,h11]);(simp[up]);(simp[aOM,hq,hb]))
 ·exact⟨by simp[up,ent],by simp[up,ent],by simp[up,ent],by simp[up,ent],by simp[up,ent],by simp[up],⟨rfl,rfl,rfl⟩⟩
 rcases hk with⟨rfl,h4,h6,hA,hC,hr⟩|⟨rfl,h6,hC⟩
 ·have hA1:=zB hA
  have hC1:=zB hC
  have h3l:3<h.length:=(ajN.1 hC).1
  have hset:∀c:CB,(h.set 3 c)[3]?=some c:=fun c=>aTX h3l
  have hmt:(if IntKind.i64.wrap (ag+1)<10 then IntKind.i64.wrap (ag+1)else 10)=baS ag:=rfl
  rw[hr]
  (have hb:=trivial;with_reducible repeat' (first|simp only[hb,Vc.down,seval,a16.down,h4,h6,hA,hC,hA1,hC1,hset,hmt]|refine tQ ?_ ?_<;>intro hb|refine fd ?_|fail))
 ·(have hb:=trivial;with_reducible repeat' (first|simp only[hb,Vc.down,seval,a16.down,h6,hC]|refine tQ ?_ ?_<;>intro hb|refine fd ?_|fail))
theorem aZB{m:jR}(h:aaP m=true):∀x∈m.moves,∀w∈x.wants,0≤w.vote∧w.vote.toNat<m.votes.length:=fun x hx w hw=>by
 simp only[aaP,afQ,aa7,decide_eq_true_eq,abZ]at h
 have h2:=h.1.2 x hx
 simp only[ae0,aa7]at h2
 have h3:=h2.1.1.1.1.1
 have h6:m.votes.length≤6:=h.1.1.1.1.1.1.1.1.1.2
 have key:∀(l p:List cI),aeD m.votes.length p l=true→w∈l→0≤w.vote∧w.vote.toNat<m.votes.length:=by
  intro l
  induction l with
  |nil=>intro p _ h;cases h
  |cons y l ih=>
   intro p h hm
   simp only[aeD,aa7]at h
   rcases abG.1 hm with rfl|hm
   ·have:=h.1.1
    rw[ac8 (by omega) (by omega)]at this
    simp[inB]at this
    omega
   ·exact ih _ h.2 hm
 exact key x.wants [] h3 hw
def aLN(m:jR)(st ag:Int)(s:axQ):Int × Int:=aOM st ag (aeR m s.reads m.votes 0 0) s.cmd m.moves
def okB(m:jR)(st ag:Int)(s:axQ):Bool:=aaP m&&inB st 0 (IntKind.i64.wrap (m.states-1))&&inB ag 0 10&&aO4 m s
theorem aV9{m:jR}{l:List Int}(h:azC m l=true):l.length=m.sens.length:=by
 simp only[azC,aa7,beq_iff_eq]at h
 omega
theorem a17(m:jR)(st ag:Int)(s:axQ)(hs:m.small)(hl:s.reads.length≤maxLen):om'.call (.fn 14) [.agg [Rr 3 true m.nS (m.sens.map sF.cells),Rr 4 false m.nV (m.votes.map aS.cells),Rr 5 false m.nM (m.moves.map Zw.cells),.int .i64 m.states,.int .i64 m.cmds,.int .i64 m.bgn,Rr 1 true m.nO (m.opn.map iv)],.int .i64 st,.int .i64 ag,.agg [Rr 1 true s.nn (s.reads.map iv),.int .i64 s.cmd]] []=
 some (.ret (if okB m st ag s=true then .tup [.int .i64 (aLN m st ag s).1,.int .i64 (aLN m st ag s).2,.int .i64 0]else .tup [.int .i64 0,.int .i64 0,.int .i64 2]),[]):=by
 have hv:=aUJ m hs
 have hsc:=aZQ m s hl
 cases hok:okB m st ag s with
 |false=>
  (refine ce Try.func14 ?_;simp only[Try.f14];(have hb:=trivial;with_reducible repeat' (first|simp only[hb,Vc.down,seval,bfG.down,hv,hsc,aOT]|refine tQ ?_ ?_<;>intro hb|refine fd ?_|fail)))
  all_goals first
   |rfl
   |(exfalso;simp_all[okB];done)
 |true=>
  have hok':=hok
  simp only[okB,aa7]at hok'
  obtain⟨⟨⟨o1,o2⟩,o3⟩,o4⟩:=hok'
  have o5:=o4
  simp only[aO4,aa7]at o5
  have hbits:=aUZ m (l:=s.reads) (nn:=s.nn) (aV9 o5.1) hs (aW2 o1)
  have hst:=a3D m st ag (aeR m s.reads m.votes 0 0) s.cmd hs (fun x hx w hw=>(aZB o1 x hx w hw).1)
  rw[o1]at hv
  rw[o4]at hsc
  (refine ce Try.func14 ?_;simp only[Try.f14];(have hb:=trivial;with_reducible repeat' (first|simp only[hb,Vc.down,seval,bfG.down,hv,hsc,aOT,o2,o3,hbits,hst]|refine tQ ?_ ?_<;>intro hb|refine fd ?_|fail)))
  all_goals rfl
theorem aPF{m:jR}(h:aaP m=true):m.votes.length≤6:=by
 simp only[aaP,afQ,aa7,decide_eq_true_eq]at h
 exact h.1.1.1.1.1.1.1.1.1.2
def aRX(m:jR):Bool:=m.votes.all (fun v=>decide (v.sens.length≤10))&&m.moves.all (fun x=>decide (x.wants.length≤10))&&decide (m.sens.length≤10)&&decide (m.votes.length≤10)&&decide (m.moves.length≤30)&&decide (m.opn.length≤20)
theorem a6D(m:jR)(hs:m.small):om'.call (.fn 12) [.agg [Rr 3 true m.nS (m.sens.map sF.cells),Rr 4 false m.nV (m.votes.map aS.cells),Rr 5 false m.nM (m.moves.map Zw.cells),.int .i64 m.states,.int .i64 m.cmds,.int .i64 m.bgn,Rr 1 true m.nO (m.opn.map iv)]] []=some (.ret (.bool (aRX m)),[]):=by
 have l1:decide ((m.sens.length:Int)≤10)=decide (m.sens.length≤10):=by rw[decide_eq_decide];omega
 have l2:decide ((m.votes.length:Int)≤10)=decide (m.votes.length≤10):=by rw[decide_eq_decide];omega
 have l3:decide ((m.moves.length:Int)≤30)=decide (m.moves.length≤30):=by rw[decide_eq_decide];omega
 have l4:decide ((m.opn.length:Int)≤20)=decide (m.opn.length≤20):=by rw[decide_eq_decide];omega
 (refine ce Try.func12 ?_;simp only[Try.f12];(have hb:=trivial;with_reducible repeat' (first|simp only[hb,Vc.down,seval,aR3.down,aaT]|refine tQ ?_ ?_<;>intro hb|refine fd ?_|fail)))
 refine acW (lst 57 m.votes (fun i (zz:Unit) t h=>t 1=.ptr 0 0 0∧t 3=.int .i64 i∧(h=[.live 7 false false [[Rr 3 true m.nS (m.sens.map sF.cells),Rr 4 false m.nV (m.votes.map aS.cells),Rr 5 false m.nM (m.moves.map Zw.cells),.int .i64 m.states,.int .i64 m.cmds,.int .i64 m.bgn,Rr 1 true m.nO (m.opn.map iv)]]])) (fun rest zz=>rest.all (fun v=>decide (v.sens.length≤10))) (fun r e t h=>(if r=true then e=.exit 0∧t 1=.ptr 0 0 0∧h=[.live 7 false false [[Rr 3 true m.nS (m.sens.map sF.cells),Rr 4 false m.nV (m.votes.map aS.cells),Rr 5 false m.nM (m.moves.map Zw.cells),.int .i64 m.states,.int .i64 m.cmds,.int .i64 m.bgn,Rr 1 true m.nO (m.opn.map iv)]]]else e=.ret∧t 2=.bool false)) ?_ ?_ () _ _ ?_) (fun e t h hk=>?_)
 ·rintro _ t h Q' kQ ⟨h1,h3,rfl⟩
  (have hb:=trivial;with_reducible repeat' (first|simp only[hb,Vc.down,seval,aR3.down,h1,h3,abB,decide_false,aaT]|refine tQ ?_ ?_<;>intro hb|refine fd ?_|fail))
  exact kQ _ _ _ (by rw[if_pos (by rfl)];exact⟨rfl,by simp[up,h1],rfl⟩)
 ·rintro x rest i _ t h J Q' kJ kQ hx hi ⟨h1,h3,rfl⟩
  have hd:decide ((i:Int)<(m.votes.length:Int))=true:=decide_eq_true (by omega)
  have hw:=sC hi hs.votes
  have lx:decide ((10:Int)<(x.sens.length:Int))= !decide (x.sens.length≤10):=by rw[←decide_not,decide_eq_decide];omega
  cases c1:decide (x.sens.length≤10)with
  |false=>
   (have hb:=trivial;with_reducible repeat' (first|simp only[hb,Vc.down,seval,aR3.down,h1,h3,hd,hx,hw,lx,c1,aS.cells,aaT]|refine tQ ?_ ?_<;>intro hb|refine fd ?_|fail))
   exact kQ _ _ _ (by rw[if_neg (by simp only[acF,c1,afW];simp)];exact⟨rfl,by simp[up]⟩)
  |true=>
   (have hb:=trivial;with_reducible repeat' (first|simp only[hb,Vc.down,seval,aR3.down,h1,h3,hd,hx,hw,lx,c1,aS.cells,aaT]|refine tQ ?_ ?_<;>intro hb|refine fd ?_|fail))
   (refine aaV (kJ _ _ () ⟨?_,?_,rfl⟩ ?_);(simp[up,h1]);(simp[up]);(simp only[acF,c1,abS]))
 ·exact⟨by simp[up,ent],by simp[up],rfl⟩
 split at hk
 rotate_left
 ·obtain⟨rfl,h2⟩:=hk
  rename_i hr1
  (have hb:=trivial;with_reducible repeat' (first|simp only[hb,Vc.down,seval,aR3.down,h2]|refine tQ ?_ ?_<;>intro hb|refine fd ?_|fail))
  all_goals simp[aRX,abJ.2 hr1]
 obtain⟨rfl,h1,rfl⟩:=hk
 rename_i hr1
 (have hb:=trivial;with_reducible repeat' (first|simp only[hb,Vc.down,seval,aR3.down,h1,aaT]|refine tQ ?_ ?_<;>intro hb|refine fd ?_|fail))
 refine acW (lst 57 m.moves (fun i (zz:Unit) t h=>t 1=.ptr 0 0 0∧t 4=.int .i64 i∧(h=[.live 7 false false [[Rr 3 true m.nS (m.sens.map sF.cells),Rr 4 false m.nV (m.votes.map aS.cells),Rr 5 false m.nM (m.moves.map Zw.cells),.int .i64 m.states,.int .i64 m.cmds,.int .i64 m.bgn,Rr 1 true m.nO (m.opn.map iv)]]])) (fun rest zz=>rest.all (fun x=>decide (x.wants.length≤10))) (fun r e t h=>(if r=true then e=.exit 2∧t 1=.ptr 0 0 0∧h=[.live 7 false false [[Rr 3 true m.nS (m.sens.map sF.cells),Rr 4 false m.nV (m.votes.map aS.cells),Rr 5 false m.nM (m.moves.map Zw.cells),.int .i64 m.states,.int .i64 m.cmds,.int .i64 m.bgn,Rr 1 true m.nO (m.opn.map iv)]]]else e=.ret∧t 2=.bool false)) ?_ ?_ () _ _ ?_) (fun e t h hk=>?_)
 ·rintro _ t h Q' kQ ⟨h1,h4,rfl⟩
  (have hb:=trivial;with_reducible repeat' (first|simp only[hb,Vc.down,seval,aR3.down,h1,h4,abB,decide_false,aaT]|refine tQ ?_ ?_<;>intro hb|refine fd ?_|fail))
  exact kQ _ _ _ (by rw[if_pos (by rfl)];exact⟨rfl,by simp[up,h1],rfl⟩)
 ·rintro x rest i _ t h J Q' kJ kQ hx hi ⟨h1,h4,rfl⟩
  have hd:decide ((i:Int)<(m.moves.length:Int))=true:=decide_eq_true (by omega)
  have hw:=sC hi hs.moves
  have lx:decide ((10:Int)<(x.wants.length:Int))= !decide (x.wants.length≤10):=by rw[←decide_not,decide_eq_decide];omega
  cases c1:decide (x.wants.length≤10)with
  |false=>
   (have hb:=trivial;with_reducible repeat' (first|simp only[hb,Vc.down,seval,aR3.down,h1,h4,hd,hx,hw,lx,c1,Zw.cells,aaT]|refine tQ ?_ ?_<;>intro hb|refine fd ?_|fail))
   exact kQ _ _ _ (by rw[if_neg (by simp only[acF,c1,afW];simp)];exact⟨rfl,by simp[up]⟩)
  |true=>
   (have hb:=trivial;with_reducible repeat' (first|simp only[hb,Vc.down,seval,aR3.down,h1,h4,hd,hx,hw,lx,c1,Zw.cells,aaT]|refine tQ ?_ ?_<;>intro hb|refine fd ?_|fail))
   (refine aaV (kJ _ _ () ⟨?_,?_,rfl⟩ ?_);(simp[up,h1]);(simp[up]);(simp only[acF,c1,abS]))
 ·exact⟨by simp[up,ent,h1],by simp[up],rfl⟩
 split at hk
 rotate_left
 ·obtain⟨rfl,h2⟩:=hk
  rename_i hr2
  (have hb:=trivial;with_reducible repeat' (first|simp only[hb,Vc.down,seval,aR3.down,h2]|refine tQ ?_ ?_<;>intro hb|refine fd ?_|fail))
  all_goals simp[aRX,abJ.2 hr2]
 obtain⟨rfl,h1,rfl⟩:=hk
 rename_i hr2
 (have hb:=trivial;with_reducible repeat' (first|simp only[hb,Vc.down,seval,aR3.down,h1,aaT,l1,l2,l3,l4]|refine tQ ?_ ?_<;>intro hb|refine fd ?_|fail))
 all_goals (refine congrArg (fun b=>(Out.ret (AV.bool b),([]:Gq))) ?_;symm;((try simp only[aRO,azP,aI7]at *);simp only[aRX, *,aR5,afW,aQQ,abS,Bool.and_self,Bool.not_not,azP,aI7,acF,List.all_nil]))
theorem aV0{α:Type}{d:List AV→Option α}{f:α→List AV}(hd:∀cs x,d cs=some x→cs=f x):∀{rows:List (List AV)} {l:List α},sU d rows=some l→rows=l.map f
 | [],l,h=>by simp[sU]at h;subst h;rfl
 |r::rows,l,h=>by
  simp only[sU,af0,agC]at h
  obtain⟨x,h1,l',h2,rfl⟩:=h
  rw[hd r x h1,aV0 hd h2];rfl
def dSl{α:Type}(n:Nat)(fl:Bool)(d:List AV→Option α):AV→Option (Bool × List α)
 | .nils=>some (false,[])
 | .imm n' fl' rows=>if n'=n∧fl'=fl then(sU d rows).map fun l=>(true,l)else none
 |_=>none
theorem aO1{α:Type}{n:Nat}{fl:Bool}{d:List AV→Option α}{f:α→List AV}(hd:∀cs x,d cs=some x→cs=f x){v:AV}{x:Bool × List α}(h:dSl n fl d v=some x):v=Rr n fl x.1 (x.2.map f):=by
 unfold dSl at h
 split at h
 ·cases h;rfl
 ·split at h
  ·rename_i hq
   obtain⟨rfl,rfl⟩:=hq
   obtain⟨l,h1,rfl⟩:=agC.1 h
   rw[aV0 hd h1]
   cases l<;>rfl
  ·cases h
 ·cases h
def a3J:List AV→Option Int
 | [.int .i64 a]=>some a
 |_=>none
theorem aUL(cs:List AV)(x:Int)(h:a3J cs=some x):cs=iv x:=by
 unfold a3J at h
 split at h
 ·cases h;rfl
 ·cases h
def bbO:List AV→Option sF
 | [.int .i64 a,.int .i64 b,.bool c]=>some ⟨a,b,c⟩
 |_=>none
theorem a6M(cs:List AV)(x:sF)(h:bbO cs=some x):cs=x.cells:=by
 unfold bbO at h
 split at h
 ·cases h;rfl
 ·cases h
def a5N:List AV→Option aS
 | [l,.int .i64 a,.int .i64 b,.bool c]=>(dSl 1 true a3J l).map fun x=>⟨x.1,x.2,a,b,c⟩
 |_=>none
theorem a3B(cs:List AV)(x:aS)(h:a5N cs=some x):cs=x.cells:=by
 unfold a5N at h
 split at h
 ·obtain⟨y,h1,rfl⟩:=agC.1 h
  rw[aO1 aUL h1];rfl
 ·cases h
def a4V:List AV→Option cI
 | [.int .i64 a,.bool c]=>some ⟨a,c⟩
 |_=>none
theorem a25(cs:List AV)(x:cI)(h:a4V cs=some x):cs=x.cells:=by
 unfold a4V at h
 split at h
 ·cases h;rfl
 ·cases h
def a49:List AV→Option Zw
 | [.int .i64 a,.int .i64 b,l,.int .i64 c,.int .i64 d]=>(dSl 2 true a4V l).map fun x=>⟨a,b,x.1,x.2,c,d⟩
 |_=>none
theorem a5M(cs:List AV)(x:Zw)(h:a49 cs=some x):cs=x.cells:=by
 unfold a49 at h
 split at h
 ·obtain⟨y,h1,rfl⟩:=agC.1 h
  rw[aO1 a25 h1];rfl
 ·cases h
def aVE:List AV→Option jR
 | [s,v,x,.int .i64 a,.int .i64 b,.int .i64 c,o]=>(dSl 3 true bbO s).bind fun s=>(dSl 4 false a5N v).bind fun v=>(dSl 5 false a49 x).bind fun x=>(dSl 1 true a3J o).map fun o=>⟨s.1,s.2,v.1,v.2,x.1,x.2,a,b,c,o.1,o.2⟩
 |_=>none
theorem aS3(cs:List AV)(x:jR)(h:aVE cs=some x):cs=x.cells:=by
 unfold aVE at h
 split at h
 ·simp only[af0,agC]at h
  obtain⟨s,h1,v,h2,y,h3,o,h4,rfl⟩:=h
  rw[aO1 a6M h1,aO1 a3B h2,aO1 a5M h3,aO1 aUL h4]
 ·cases h
def aRU(m:jR):Bool:=decide (m.sens.length≤1000)&&decide (m.votes.length≤1000)&&decide (m.moves.length≤1000)&&decide (m.opn.length≤1000)&&m.votes.all (fun v=>decide (v.sens.length≤1000))&&m.moves.all (fun x=>decide (x.wants.length≤1000))
theorem aQD{m:jR}(h:aRU m=true):m.small:=by
 simp only[aRU,aa7,decide_eq_true_eq,abZ]at h
 obtain⟨⟨⟨⟨⟨a,b⟩,c⟩,d⟩,e⟩,f⟩:=h
 exact⟨by unfold maxLen;omega,by unfold maxLen;omega,by unfold maxLen;omega,by unfold maxLen;omega,fun v hv=>by have:=e v hv;unfold maxLen;omega,fun v hv=>by have:=f v hv;unfold maxLen;omega⟩
def a3W:List AV→Gq→Option (Out × Gq)
 | [.agg cs],[]=>(aVE cs).bind fun m=>if aRU m=true then some (.ret (.bool (aaP m)),[])else none
 |_,_=>none
def a8Q:List AV→Gq→Option (Out × Gq)
 | [.agg cs,.agg [.int .i64 st,.int .i64 ag],.agg [.int .i64 bits,.int .i64 com]],[]=>(aVE cs).bind fun m=>if(aRU m&&m.moves.all fun x=>x.wants.all fun w=>decide (0≤w.vote))=true then
     (match aOM st ag bits com m.moves with
       |(a,b)=>some (.ret (.agg [.int .i64 a,.int .i64 b]),[]))else none
 |_,_=>none
def a1Y:List AV→Gq→Option (Out × Gq)
 | [.agg cs,l],[]=>(aVE cs).bind fun m=>(dSl 1 true a3J l).bind fun l=>if(aRU m&&decide (l.2.length=m.sens.length)&&m.votes.all fun v=>v.sens.all fun k=>decide (0≤k)&&decide (k.toNat<m.sens.length))=true then
     some (.ret (.int .i64 (aeR m l.2 m.votes 0 0)),[])else none
 |_,_=>none
def pr2:acG:=⟨fun f=>if f=42 then some a3W else if f=45 then some a8Q else if f=46 then some a1Y else pr f,pr.md⟩
theorem a82(f:Nat)(h:pr2 f=none):pr f=none:=by
 simp only[pr2]at h
 split at h
 ·cases h
 ·split at h
  ·cases h
  ·split at h
   ·cases h
   ·exact h
theorem aWB{tab:List Ent}(f:Nat)(h:aPY pr2 tab f=none):pr f=none:=by
 simp only[aPY]at h
 split at h
 ·cases h
 ·exact a82 f h
theorem aP2:∀f p,pr2 f=some p→∀a h r,p a h=some r→om'.call (.fn f) a h=some r:=by
 intro f p hp a h r hr
 simp only[pr2]at hp
 split at hp
 ·rename_i hf
  subst hf
  cases hp
  unfold a3W at hr
  split at hr
  ·rename_i cs
   obtain⟨s,h1,h2⟩:=af0.1 hr
   split at h2
   ·rename_i hs
    cases h2
    rw[aS3 _ _ h1]
    exact aUJ s (aQD hs)
   ·cases h2
  ·cases hr
 ·split at hp
  ·rename_i hf
   subst hf
   cases hp
   unfold a8Q at hr
   split at hr
   ·rename_i cs st ag bits com
    obtain⟨s,h1,h2⟩:=af0.1 hr
    split at h2
    ·rename_i hs
     simp only[aa7,abZ,decide_eq_true_eq]at hs
     cases h2
     rw[aS3 _ _ h1]
     exact a3D s st ag bits com (aQD hs.1) hs.2
    ·cases h2
   ·cases hr
  ·split at hp
   ·rename_i hf
    subst hf
    cases hp
    unfold a1Y at hr
    split at hr
    ·rename_i cs l
     simp only[af0]at hr
     obtain⟨s,h1,y,h2,h3⟩:=hr
     split at h3
     ·rename_i hs
      simp only[aa7,abZ,decide_eq_true_eq]at hs
      cases h3
      rw[aS3 _ _ h1,aO1 aUL h2]
      exact aUZ s hs.1.2 (aQD hs.1.1) (fun v hv k hk=>hs.2 v hv k hk)
     ·cases h3
    ·cases hr
   ·exact a6J hp hr
def exA:AV:=.agg [.imm 3 true [[.int .i64 0,.int .i64 100,.bool false],[.int .i64 0,.int .i64 100,.bool false],[.int .i64 0,.int .i64 100,.bool false]],.imm 4 false [[.imm 1 true [[.int .i64 0],[.int .i64 1],[.int .i64 2]],.int .i64 2,.int .i64 80,.bool true]],.imm 5 false [[.int .i64 0,.int .i64 1,.imm 2 true [[.int .i64 0,.bool true]],.int .i64 (-1),.int .i64 0],[.int .i64 1,.int .i64 2,.nils,.int .i64 (-1),.int .i64 1],[.int .i64 2,.int .i64 0,.imm 2 true [[.int .i64 0,.bool false]],.int .i64 0,.int .i64 2]],.int .i64 3,.int .i64 1,.int .i64 0,.imm 1 true [[.int .i64 3],[.int .i64 1],[.int .i64 0]]]
def exS:AV:=.imm 2 true [[.int .i64 1,.int .i64 (-1)],[.int .i64 1,.int .i64 0],[.int .i64 0,.int .i64 (-1)],[.int .i64 0,.int .i64 0]]
def E0:Ent:=⟨54,[exA],(.ret (.tup [.slr 2 0 0 4,.slr 2 1 0 4]),[.live 2 false false [[.slr 1 2 0 3,.int .i64 (-1)],[.slr 1 3 0 3,.int .i64 0],[.slr 1 4 0 3,.int .i64 (-1)],[.slr 1 5 0 3,.int .i64 0]],.live 2 true false [[.int .i64 1,.int .i64 (-1)],[.int .i64 1,.int .i64 0],[.int .i64 0,.int .i64 (-1)],[.int .i64 0,.int .i64 0]],.live 1 true false [[.int .i64 (-10000)],[.int .i64 (-10000)],[.int .i64 (-10000)]],.live 1 true false [[.int .i64 (-10000)],[.int .i64 (-10000)],[.int .i64 (-10000)]],.live 1 true false [[.int .i64 (-10000)],[.int .i64 0],[.int .i64 0]],.live 1 true false [[.int .i64 (-10000)],[.int .i64 0],[.int .i64 0]]])⟩
def E1:Ent:=⟨55,[exA,exS],(.ret (.tup [.slr 2 0 0 24,.mapr 1]),[.live 2 true false [[.int .i64 0,.int .i64 0],[.int .i64 1,.int .i64 0],[.int .i64 0,.int .i64 1],[.int .i64 1,.int .i64 1],[.int .i64 0,.int .i64 2],[.int .i64 2,.int .i64 0],[.int .i64 0,.int .i64 3],[.int .i64 2,.int .i64 1],[.int .i64 0,.int .i64 4],[.int .i64 2,.int .i64 2],[.int .i64 0,.int .i64 5],[.int .i64 2,.int .i64 3],[.int .i64 0,.int .i64 6],[.int .i64 2,.int .i64 4],[.int .i64 0,.int .i64 7],[.int .i64 2,.int .i64 5],[.int .i64 0,.int .i64 8],[.int .i64 2,.int .i64 6],[.int .i64 0,.int .i64 9],[.int .i64 2,.int .i64 7],[.int .i64 0,.int .i64 10],[.int .i64 2,.int .i64 8],[.int .i64 2,.int .i64 9],[.int .i64 2,.int .i64 10]],.lp [] .skip .skip [.agg [.int .i64 0,.int .i64 0],.agg [.int .i64 0,.int .i64 0,.int .i64 (-1)],.agg [.int .i64 1,.int .i64 0],.agg [.int .i64 0,.int .i64 0,.int .i64 0],.agg [.int .i64 0,.int .i64 1],.agg [.int .i64 0,.int .i64 0,.int .i64 2],.agg [.int .i64 1,.int .i64 1],.agg [.int .i64 1,.int .i64 0,.int .i64 0],.agg [.int .i64 0,.int .i64 2],.agg [.int .i64 0,.int .i64 1,.int .i64 2],.agg [.int .i64 2,.int .i64 0],.agg [.int .i64 1,.int .i64 1,.int .i64 0],.agg [.int .i64 0,.int .i64 3],.agg [.int .i64 0,.int .i64 2,.int .i64 2],.agg [.int .i64 2,.int .i64 1],.agg [.int .i64 2,.int .i64 0,.int .i64 0],.agg [.int .i64 0,.int .i64 4],.agg [.int .i64 0,.int .i64 3,.int .i64 2],.agg [.int .i64 2,.int .i64 2],.agg [.int .i64 2,.int .i64 1,.int .i64 0],.agg [.int .i64 0,.int .i64 5],.agg [.int .i64 0,.int .i64 4,.int .i64 2],.agg [.int .i64 2,.int .i64 3],.agg [.int .i64 2,.int .i64 2,.int .i64 0],.agg [.int .i64 0,.int .i64 6],.agg [.int .i64 0,.int .i64 5,.int .i64 2],.agg [.int .i64 2,.int .i64 4],.agg [.int .i64 2,.int .i64 3,.int .i64 0],.agg [.int .i64 0,.int .i64 7],.agg [.int .i64 0,.int .i64 6,.int .i64 2],.agg [.int .i64 2,.int .i64 5],.agg [.int .i64 2,.int .i64 4,.int .i64 0],.agg [.int .i64 0,.int .i64 8],.agg [.int .i64 0,.int .i64 7,.int .i64 2],.agg [.int .i64 2,.int .i64 6],.agg [.int .i64 2,.int .i64 5,.int .i64 0],.agg [.int .i64 0,.int .i64 9],.agg [.int .i64 0,.int .i64 8,.int .i64 2],.agg [.int .i64 2,.int .i64 7],.agg [.int .i64 2,.int .i64 6,.int .i64 0],.agg [.int .i64 0,.int .i64 10],.agg [.int .i64 0,.int .i64 9,.int .i64 2],.agg [.int .i64 2,.int .i64 8],.agg [.int .i64 2,.int .i64 7,.int .i64 0],.agg [.int .i64 2,.int .i64 9],.agg [.int .i64 2,.int .i64 8,.int .i64 0],.agg [.int .i64 2,.int .i64 10],.agg [.int .i64 2,.int .i64 9,.int .i64 0]] .map])⟩
def E2:Ent:=⟨30,[exA,.int .i64 2],(.ret (.tup [.slr 2 0 0 3,.int .i64 0]),[.live 2 false true [[.slr 1 1 0 3,.int .i64 (-1)],[.slr 1 2 0 3,.int .i64 (-1)],[.slr 1 3 0 3,.int .i64 (-1)]],.live 1 true false [[.int .i64 (-10000)],[.int .i64 (-10000)],[.int .i64 (-10000)]],.live 1 true false [[.int .i64 (-10000)],[.int .i64 (-10000)],[.int .i64 (-10000)]],.live 1 true false [[.int .i64 (-10000)],[.int .i64 (-10000)],[.int .i64 (-10000)]]])⟩
def E3:Ent:=⟨21,[exA,.int .i64 0,.imm 1 true [[.int .i64 2]]],(.ret (.tup [.int .i64 3,.int .i64 0]),[])⟩
def E4:Ent:=⟨21,[exA,.int .i64 0,.imm 1 true [[.int .i64 0]]],(.ret (.tup [.int .i64 0,.int .i64 5]),[])⟩
theorem ba0:(orc Try.prog pr2 400).call (.fn E0.f) E0.args []=some E0.res:=by kernel_rfl
theorem aYX:om'.call (.fn E0.f) E0.args []=some E0.res:=asQ (pr:=pr) (pr2:=pr2) rfl a82 aP2 ba0
def T1:acG:=aPY pr2 [E0]
theorem beO:∀f p,T1 f=some p→∀a h r,p a h=some r→om'.call (.fn f) a h=some r:=aKL aP2 (fun e he=>by
 simp only[abG,agV,or_false]at he
 rcases he with rfl
 ·exact aYX)
theorem bcF:(orc Try.prog T1 400).call (.fn E1.f) E1.args []=some E1.res:=by kernel_rfl
theorem a2G:om'.call (.fn E1.f) E1.args []=some E1.res:=asQ (pr:=pr) (pr2:=T1) rfl aWB beO bcF
def T2:acG:=aPY pr2 [E0,E1]
theorem bd8:∀f p,T2 f=some p→∀a h r,p a h=some r→om'.call (.fn f) a h=some r:=aKL aP2 (fun e he=>by
 simp only[abG,agV,or_false]at he
 rcases he with rfl|rfl
 ·exact aYX
 ·exact a2G)
theorem baF:(orc Try.prog T2 400).call (.fn E2.f) E2.args []=some E2.res:=by kernel_rfl
theorem bd6:om'.call (.fn E2.f) E2.args []=some E2.res:=asQ (pr:=pr) (pr2:=T2) rfl aWB bd8 baF
def T3:acG:=aPY pr2 [E0,E1]
theorem bdP:∀f p,T3 f=some p→∀a h r,p a h=some r→om'.call (.fn f) a h=some r:=aKL aP2 (fun e he=>by
 simp only[abG,agV,or_false]at he
 rcases he with rfl|rfl
 ·exact aYX
 ·exact a2G)
theorem baZ:(orc Try.prog T3 400).call (.fn E3.f) E3.args []=some E3.res:=by kernel_rfl
theorem bdF:om'.call (.fn E3.f) E3.args []=some E3.res:=asQ (pr:=pr) (pr2:=T3) rfl aWB bdP baZ
def T4:acG:=aPY pr2 [E0,E1]
theorem bc9:∀f p,T4 f=some p→∀a h r,p a h=some r→om'.call (.fn f) a h=some r:=aKL aP2 (fun e he=>by
 simp only[abG,agV,or_false]at he
 rcases he with rfl|rfl
 ·exact aYX
 ·exact a2G)
theorem bb9:(orc Try.prog T4 400).call (.fn E4.f) E4.args []=some E4.res:=by kernel_rfl
theorem bdE:om'.call (.fn E4.f) E4.args []=some E4.res:=asQ (pr:=pr) (pr2:=T4) rfl aWB bc9 bb9
def TK:acG:=aPY pr2 [E2,E3,E4]
theorem be6:∀f p,TK f=some p→∀a h r,p a h=some r→om'.call (.fn f) a h=some r:=aKL aP2 (fun e he=>by
 simp only[abG,agV,or_false]at he
 rcases he with rfl|rfl|rfl
 ·exact bd6
 ·exact bdF
 ·exact bdE)
theorem a02:(orc Try.prog TK 400).call (.fn 13) [] []=some (.ret (.bool true),[]):=by kernel_rfl
theorem a40:om'.call (.fn 13) [] []=some (.ret (.bool true),[]):=asQ (pr:=pr) (pr2:=TK) rfl aWB be6 a02
theorem aNW{α:Type}{f:α→List AV}{p:List AV→Prop}{q:α→Prop}(hf:∀r,p r→∃x,r=f x∧q x):∀{rows:List (List AV)},(∀r∈rows,p r)→∃l:List α,rows=l.map f∧∀x∈l,q x
 | [],_=>⟨[],rfl,fun x hx=>by simp at hx⟩
 |r::rows,h=>by
  obtain⟨x,rfl,hx⟩:=hf r (h r (List.mem_cons_self ..))
  obtain⟨l,rfl,hl⟩:=aNW hf (fun r hr=>h r (List.mem_cons_of_mem _ hr))
  exact⟨x::l,rfl,fun y hy=>by
   rcases abG.1 hy with rfl|hy
   ·exact hx
   ·exact hl y hy⟩
def i64(n:Int):Prop:= -9223372036854775808≤n∧n≤9223372036854775807
theorem adA{n:Nat}{r:List AV}(h:Ty Try.prog (n+1) 3 r):∃x,r=[.int .i64 x]∧i64 x:=by
 simp only[Ty,Try.underlying3]at h
 obtain⟨x,rfl,h1,h2⟩:=h
 exact⟨x,rfl,h1,h2⟩
theorem aU0{n:Nat}{r:List AV}(h:Ty Try.prog (n+1) 4 r):∃x,r=[.bool x]:=by
 simp only[Ty,Try.underlying4]at h
 exact h
theorem aUX{n:Nat}{r:List AV}(h:Ty Try.prog (n+2) 25 r):∃(nn:Bool) (l:List Int),r=[Rr 1 true nn (l.map iv)]∧l.length≤maxLen∧∀x∈l,i64 x:=by
 unfold Ty at h
 simp only[Try.underlying25]at h
 obtain⟨nn,rows,rfl,hl,hrows⟩:=h
 obtain⟨l,rfl,hi⟩:=aNW (f:=iv) (q:=i64) (fun r hr=>by obtain⟨x,rfl,hx⟩:=adA hr;exact⟨x,rfl,hx⟩) hrows
 have e1:Try.prog.cellsOf 3=1:=by kernel_rfl
 have e2:flT Try.prog (n+1) 3=true:=by
  simp only[flT,Try.underlying3]
 rw[e1,e2]
 exact⟨nn,l,rfl,by simpa using hl,hi⟩
theorem bb7{n:Nat}{r:List AV}(h:Ty Try.prog (n+2) 50 r):∃x:sF,r=x.cells∧True:=by
 unfold Ty at h
 simp only[Try.underlying50,aUW]at h
 obtain⟨a0,b0,rfl,h0,a1,b1,rfl,h1,a2,b2,rfl,h2,rfl⟩:=h
 obtain⟨x0,rfl,_⟩:=adA h0
 obtain⟨x1,rfl,_⟩:=adA h1
 obtain⟨x2,rfl⟩:=aU0 h2
 exact⟨⟨x0,x1,x2⟩,rfl,trivial⟩
theorem a63{n:Nat}{r:List AV}(h:Ty Try.prog (n+2) 56 r):∃x:cI,r=x.cells∧True:=by
 unfold Ty at h
 simp only[Try.underlying56,aUW]at h
 obtain⟨a0,b0,rfl,h0,a1,b1,rfl,h1,rfl⟩:=h
 obtain⟨x0,rfl,_⟩:=adA h0
 obtain⟨x1,rfl⟩:=aU0 h1
 exact⟨⟨x0,x1⟩,rfl,trivial⟩
theorem a8I{n:Nat}{r:List AV}(h:Ty Try.prog (n+3) 48 r):∃x:aS,r=x.cells∧x.sens.length≤maxLen:=by
 unfold Ty at h
 simp only[Try.underlying48,aUW]at h
 obtain⟨a0,b0,rfl,h0,a1,b1,rfl,h1,a2,b2,rfl,h2,a3,b3,rfl,h3,rfl⟩:=h
 obtain⟨nn,l,rfl,hl,_⟩:=aUX h0
 obtain⟨x1,rfl,_⟩:=adA h1
 obtain⟨x2,rfl,_⟩:=adA h2
 obtain⟨x3,rfl⟩:=aU0 h3
 exact⟨⟨nn,l,x1,x2,x3⟩,rfl,hl⟩
theorem a7W{n:Nat}{r:List AV}(h:Ty Try.prog (n+4) 59 r):∃x:Zw,r=x.cells∧x.wants.length≤maxLen:=by
 unfold Ty at h
 simp only[Try.underlying59,aUW]at h
 obtain⟨a0,b0,rfl,h0,a1,b1,rfl,h1,a2,b2,rfl,h2,a3,b3,rfl,h3,a4,b4,rfl,h4,rfl⟩:=h
 obtain⟨x0,rfl,_⟩:=adA h0
 obtain⟨x1,rfl,_⟩:=adA h1
 obtain⟨x3,rfl,_⟩:=adA h3
 obtain⟨x4,rfl,_⟩:=adA h4
 unfold Ty at h2
 simp only[Try.underlying57]at h2
 obtain⟨nn,rows,rfl,hl,hrows⟩:=h2
 obtain⟨l,rfl,_⟩:=aNW (fun r hr=>a63 hr) hrows
 have e1:Try.prog.cellsOf 56=2:=by kernel_rfl
 have e2:flT Try.prog (n+2) 56=true:=by
  simp only[flT,Try.underlying56,Try.underlying3,Try.underlying4];rfl
 rw[e1,e2]
 exact⟨⟨x0,x1,nn,l,x3,x4⟩,rfl,by simpa using hl⟩
theorem a6C{n:Nat}{r:List AV}(h:Ty Try.prog (n+6) 27 r):∃m:jR,r=m.cells∧m.small:=by
 unfold Ty at h
 simp only[Try.underlying27,aUW]at h
 obtain⟨a0,b0,rfl,h0,a1,b1,rfl,h1,a2,b2,rfl,h2,a3,b3,rfl,h3,a4,b4,rfl,h4,a5,b5,rfl,h5,a6,b6,rfl,h6,rfl⟩:=h
 obtain⟨x3,rfl,_⟩:=adA h3
 obtain⟨x4,rfl,_⟩:=adA h4
 obtain⟨x5,rfl,_⟩:=adA h5
 obtain⟨n6,l6,rfl,hl6,_⟩:=aUX h6
 unfold Ty at h0 h1 h2
 simp only[Try.underlying22]at h0
 simp only[Try.underlying23]at h1
 simp only[Try.underlying24]at h2
 obtain⟨n0,rows0,rfl,hl0,hrows0⟩:=h0
 obtain⟨n1,rows1,rfl,hl1,hrows1⟩:=h1
 obtain⟨n2,rows2,rfl,hl2,hrows2⟩:=h2
 obtain⟨l0,rfl,_⟩:=aNW (fun r hr=>bb7 hr) hrows0
 obtain⟨l1,rfl,hv⟩:=aNW (fun r hr=>a8I hr) hrows1
 obtain⟨l2,rfl,hm⟩:=aNW (fun r hr=>a7W hr) hrows2
 have e0:Try.prog.cellsOf 50=3:=by kernel_rfl
 have e1:Try.prog.cellsOf 48=4:=by kernel_rfl
 have e2:Try.prog.cellsOf 59=5:=by kernel_rfl
 have f0:flT Try.prog (n+4) 50=true:=by
  simp only[flT,Try.underlying50,Try.underlying3,Try.underlying4];rfl
 have f1:flT Try.prog (n+4) 48=false:=by
  simp only[flT,Try.underlying48,Try.underlying25];simp
 have f2:flT Try.prog (n+4) 59=false:=by
  simp only[flT,Try.underlying59,Try.underlying57];simp
 rw[e0,e1,e2,f0,f1,f2]
 exact⟨⟨n0,l0,n1,l1,n2,l2,x3,x4,x5,n6,l6⟩,rfl,⟨by simpa using hl0,by simpa using hl1,by simpa using hl2,hl6,hv,hm⟩⟩
theorem a6H{n:Nat}{r:List AV}(h:Ty Try.prog (n+3) 29 r):∃x:axQ,r=x.cells∧x.reads.length≤maxLen:=by
 unfold Ty at h
 simp only[Try.underlying29,aUW]at h
 obtain⟨a0,b0,rfl,h0,a1,b1,rfl,h1,rfl⟩:=h
 obtain⟨nn,l,rfl,hl,_⟩:=aUX h0
 obtain⟨x1,rfl,_⟩:=adA h1
 exact⟨⟨nn,l,x1⟩,rfl,hl⟩
theorem a61{av:AV}(h:TyV Try.prog 7 27 av):∃m:jR,av=.agg m.cells∧m.small:=by
 unfold TyV at h
 simp only[Try.underlying27]at h
 obtain⟨cs,rfl,h⟩:=h
 obtain⟨s,rfl,hs⟩:=a6C h
 exact⟨s,rfl,hs⟩
theorem a7T{av:AV}(h:TyV Try.prog 7 29 av):∃x:axQ,av=.agg x.cells∧x.reads.length≤maxLen:=by
 unfold TyV at h
 simp only[Try.underlying29]at h
 obtain⟨cs,rfl,h⟩:=h
 obtain⟨s,rfl,hs⟩:=a6H h
 exact⟨s,rfl,hs⟩
theorem aXM{av:AV}(h:TyV Try.prog 7 3 av):∃x,av=.int .i64 x∧i64 x:=by
 unfold TyV at h
 simp only[Try.underlying3]at h
 obtain⟨x,hx,hi⟩:=adA h
 simp only[List.cons.injEq,and_true]at hx
 exact⟨x,hx,hi⟩
theorem aY9{m:jR}(h:aaP m=true):1≤m.states∧m.states≤8:=by
 simp only[aaP,afQ,aa7,decide_eq_true_eq,inB]at h
 omega
theorem aPD(a:Int):(a==a)=true:=by simp
theorem a3U{m:jR}{st ag:Int}{y:axQ}(h1:aaP m=true)(h0:0≤st)(h2:st<m.states)(h3:0≤ag)(h4:ag≤10)(h5:aO4 m y=true):okB m st ag y=true:=by
 have:=aY9 h1
 simp only[okB,h1,h5,abS,aQQ]
 rw[ac8 (by omega) (by omega)]
 simp only[inB,aa7,decide_eq_true_eq]
 omega
theorem aYU{n:Nat}(hn:n≤6):∀{l:List Int} {p:Option Int},ai8 n l p=true→(match p with|none=>(l.length:Int)≤n|some q=>0≤q→q<n→(l.length:Int)+q+1≤n)
 | [],none,_=>by simp
 | [],some q,_=>fun h0 h1=>by simp;omega
 |x::l,p,h=>by
  simp only[ai8,aa7]at h
  have:=h.1.1
  rw[ac8 (by omega) (by omega)]at this
  simp[inB]at this
  have h2:=aYU hn h.2
  simp only at h2
  have h3:=h2 (by omega) (by omega)
  cases p with
  |none=>simp only[aP1];omega
  |some q=>
   intro h0 h1
   have h4:=h.1.2
   simp at h4
   simp only[aP1];omega
theorem a0I{m:jR}(h:aaP m=true){v:aS}(hv:v∈m.votes):v.sens.length≤6:=by
 simp only[aaP,afQ,aa7,decide_eq_true_eq,abZ]at h
 have h2:=h.1.1.2 v hv
 simp only[aOE,aa7]at h2
 have h6:m.sens.length≤6:=h.1.1.1.1.1.1.1.1.1.1
 have:=aYU h6 h2.1.1
 simp only at this
 omega
def bl(b:Int):Nat→Nat→List Bool
 |_,0=>[]
 |k,n+1=>ac7 b (k:Int)::bl b (k+1) n
theorem a2K(b:Int):∀n k,(bl b k n).length=n
 |0,_=>rfl
 |n+1,k=>by simp[bl,a2K b n]
theorem a5F(b:Int):∀n k i,i<n→(bl b k n)[i]?=some (ac7 b ((k+i:Nat):Int))
 |n+1,k,0,_=>by simp[bl]
 |n+1,k,i+1,h=>by
  simp only[bl,List.getElem?_cons_succ]
  rw[a5F b n (k+1) i (by omega)]
  congr 3;omega
theorem a2X{m:jR}{l:List Int}(h6:m.votes.length≤6):bl (aeR m l m.votes 0 0) 0 m.votes.length=m.votes.map (adW m l):=by
 apply List.ext_getElem?
 intro i
 by_cases hi:i<m.votes.length
 ·rw[a5F _ _ _ _ hi,aPL,a5C _ (by simpa using h6) i (by simpa using hi)]
  simp
 ·rw[aUY (by rw[a2K];omega),aUY (by simp;omega)]
theorem aRK(m:jR){l:List Int}{nn:Bool}(hs:m.small)(hm:aaP m=true)(hr:azC m l=true)(hlm:l.length≤maxLen)(o:Out)(h':Gq)(c0:m.votes=[]→(o,h')=(.ret (.tup [.nils,.int .i64 0]),[]))(c1:m.votes≠[]→(o,h')=(.ret (.tup [.slr 1 0 0 m.votes.length,.int .i64 0]),[.live 1 true false ((m.votes.map (adW m l)).map bv)])):
 om'.call (.fn 25) [.agg [Rr 3 true m.nS (m.sens.map sF.cells),Rr 4 false m.nV (m.votes.map aS.cells),Rr 5 false m.nM (m.moves.map Zw.cells),.int .i64 m.states,.int .i64 m.cmds,.int .i64 m.bgn,Rr 1 true m.nO (m.opn.map iv)],Rr 1 true nn (l.map iv)] []=some (o,h'):=by
 have h1:=aUJ m hs
 have h2:=a10 m (l:=l) (nn:=nn) hlm
 have h3:=aUZ m (l:=l) (nn:=nn) (aV9 hr) hs (aW2 hm)
 rw[hm]at h1
 rw[hr]at h2
 rw[←a2X (m:=m) (l:=l) (aPF hm)]at c1
 generalize aeR m l m.votes 0 0=bits at *
 have hsv:=hs.votes
 have h6v:=aPF hm
 (refine ce Try.func25 ?_;simp only[Try.f25];(have hb:=trivial;with_reducible repeat' (first|simp only[hb,Vc.down,seval,aZI.down,h1,h2,h3,aaT]|refine tQ ?_ ?_<;>intro hb|refine fd ?_|fail)))
 refine acW (lst 37 m.votes (fun i (zz:List Bool) t h=>t 2=.ptr 0 0 0∧t 6=.int .i64 bits∧t 22=Rr 4 false m.nV (m.votes.map aS.cells)∧t 23=.int .i64 m.votes.length∧t 24=.int .i64 i∧(h[0]?=some (.live 7 false false [[Rr 3 true m.nS (m.sens.map sF.cells),Rr 4 false m.nV (m.votes.map aS.cells),Rr 5 false m.nM (m.moves.map Zw.cells),.int .i64 m.states,.int .i64 m.cmds,.int .i64 m.bgn,Rr 1 true m.nO (m.opn.map iv)]])∧zz.length=i∧a84 (t 7) i (zz.map bv) h)) (fun rest zz=>zz++bl bits zz.length rest.length) (fun r e t h=>e=.exit 0∧a84 (t 7) m.votes.length (r.map bv) h) ?_ ?_ ([]) _ _ ?_) (fun e t h hk=>?_)
 ·rintro a t h Q' kQ ⟨h2,h6,h22,h23,h24,⟨hA,hp,hc⟩⟩
  (have hb:=trivial;with_reducible repeat' (first|simp only[hb,Vc.down,seval,aZI.down,h2,h6,h22,h23,h24,abB,decide_false,hA,aaT]|refine tQ ?_ ?_<;>intro hb|refine fd ?_|fail))
  exact kQ _ _ _ ⟨rfl,by simpa [up,bl]using hc⟩
 ·rintro x rest i a t h J Q' kJ kQ hx hi ⟨h2,h6,h22,h23,h24,⟨hA,hp,hc⟩⟩
  have hd:decide ((i:Int)<(m.votes.length:Int))=true:=decide_eq_true (by omega)
  have hw:=sC hi hsv
  have hb1:(bbG (a2D bits i)==1)=ac7 bits (i:Int):=by simp[ac7]
  rcases hc with⟨rfl,ho⟩|⟨h0,b,hb0,ho,hb⟩
  ·simp only[Int.natCast_zero]at hd
   have hs0:ad6 Try.prog .shr 3 (.int .i64 bits) (.int .i64 0)=some (.int .i64 (a2D bits 0)):=a45 _ bits 0
   (have hb:=trivial;with_reducible repeat' (first|simp only[hb,Vc.down,seval,aZI.down,hs0,h2,h6,h22,h23,h24,ho,hd,hw,hA,hb1,aaT]|refine tQ ?_ ?_<;>intro hb|refine fd ?_|fail))
   obtain rfl:a=[]:=aU8.1 hp
   (refine aaV (kJ _ _ [ac7 bits 0] ⟨?_,?_,?_,?_,?_,⟨zB hA _,rfl,.inr ⟨by omega,h.length+1,by omega,by simp[up],by rw[aY7];simp[bv,ac7]⟩⟩⟩ ?_);(simp[up,h2]);(simp[up,h6]);(simp[up,h22]);(simp[up,h23]);(simp[up]);(simp[bl]))
  ·have hbl:b<h.length:=(ajN.1 hb).1
   have hB:=zB hb
   have hS:=a67 hbl
   have hlp:0+i=a.length:=by omega
   have hi39:(i+1≤549755813888)=True:=eq_true (by omega)
   (have hb:=trivial;with_reducible repeat' (first|simp only[hb,Vc.down,seval,aZI.down,h2,h6,h22,h23,h24,ho,hd,hw,hA,hb1,aaT,hB,hS,aWC,aN2,hp,hi39]|refine tQ ?_ ?_<;>intro hb|refine fd ?_|fail))
   (refine aaV (kJ _ _ (a++[ac7 bits (i:Int)]) ⟨?_,?_,?_,?_,?_,⟨a78 _ (by omega) hA _,by simp[hp],.inr ⟨by omega,h.length+1,by omega,by simp[up],by rw[aWC];simp[bv,ac7]⟩⟩⟩ ?_);(simp[up,h2]);(simp[up,h6]);(simp[up,h22]);(simp[up,h23]);(simp[up]);(simp[bl,hp]))
 ·exact⟨by simp[up,ent],by simp[up,ent],by simp[up,ent],by simp[up,ent],by simp[up],⟨rfl,rfl,.inl ⟨rfl,by simp[up]⟩⟩⟩
 obtain⟨rfl,⟨hn,ho⟩|⟨hn,b,hb0,ho,hb⟩⟩:=hk
 ·rw[c0 (aU8.1 hn)]
  (have hb:=trivial;with_reducible repeat' (first|simp only[hb,Vc.down,seval,aZI.down,ho]|refine tQ ?_ ?_<;>intro hb|refine fd ?_|fail))
 ·rw[c1 (fun e=>by rw[e]at hn;simp at hn)]
  simp only[List.nil_append,List.length_nil]at hb
  (with_reducible repeat' (first|simp only[hb,Vc.down,seval,aZI.down,ho,hb]|refine tQ ?_ ?_<;>intro hb|refine fd ?_|fail))
end Go.Proofs.Ytfkokgjfpojeoaa
