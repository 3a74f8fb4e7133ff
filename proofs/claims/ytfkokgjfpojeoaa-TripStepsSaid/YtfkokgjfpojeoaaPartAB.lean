/- The functions of the layer, walked. -/
import Derived.Test.YtfkokgjfpojeoaaPartAA
import Derived.Test.YtfkokgjfpojeoaaLibD
open List renaming length_map→aaJ,mem_of_getElem?→aa4,all_cons→acC,all_eq_true→acJ,getElem?_eq_some_iff→acN,length_set→afO,all_eq_not_any_not→afR,getElem?_eq_getElem→agD,length_eq_zero_iff→agY,getElem?_set_self→akI
open Int renaming lt_irrefl→aaK
open Bool renaming and_eq_true→abL,eq_false_iff→ab2,true_and→acH,false_and→acI,not_true→ac8,not_false→afE,eq_iff_iff→afP,not_eq_eq_eq_not→ahP,and_false→aiP
open Option renaming bind_eq_some_iff→acR,map_eq_some_iff→acV
set_option linter.unusedSimpArgs false
set_option linter.unusedVariables false
namespace Go.Proofs.Ytfkokgjfpojeoaa
open Go.Ev Go
set_option maxRecDepth 100000
set_option maxHeartbeats 16000000
theorem auR(m:aa8)(hs:m.small):om'.call (.fn 15) [.agg [slv 3 true m.nS (m.sens.map aa9.cells),slv 4 false m.nV (m.votes.map aaQ.cells),slv 5 false m.nM (m.moves.map aaP.cells),.int .i64 m.states,.int .i64 m.cmds,.int .i64 m.bgn,slv 1 true m.nO (m.opn.map iv)]] []=some (.ret (.bool (acX m)),[]):=by
 have l1:decide ((6:Int)<(m.sens.length:Int))= !decide (m.sens.length≤6):=by rw[←decide_not,decide_eq_decide];omega
 have l2:decide ((6:Int)<(m.votes.length:Int))= !decide (m.votes.length≤6):=by rw[←decide_not,decide_eq_decide];omega
 have l3:decide ((20:Int)<(m.moves.length:Int))= !decide (m.moves.length≤20):=by rw[←decide_not,decide_eq_decide];omega
 have sen:∀x:aa9,asQ x=(!decide (x.lo < -10000)&& !decide (x.hi<x.lo)&& !decide (10000<x.hi)):=fun x=>by
  rw[afP];simp[asQ,akU,inB];omega
 (refine ce Try.func15 ?_;simp only[Try.f15];(have hb:=trivial;with_reducible repeat' (first|simp only[hb,Vc.down,seval,ahR.down,aaJ]|refine fsp ?_ ?_<;>intro hb|refine fd ?_|fail)))
 refine ac5 (lst 126 m.sens (fun i (zz:Unit) t h=>t 1=.ptr 0 0 0∧t 3=.int .i64 i∧(h[0]?=some (.live 7 false false [[slv 3 true m.nS (m.sens.map aa9.cells),slv 4 false m.nV (m.votes.map aaQ.cells),slv 5 false m.nM (m.moves.map aaP.cells),.int .i64 m.states,.int .i64 m.cmds,.int .i64 m.bgn,slv 1 true m.nO (m.opn.map iv)]]))) (fun rest zz=>rest.all asQ) (fun r e t h=>(if r=true then e=.exit 0∧t 1=.ptr 0 0 0∧h[0]?=some (.live 7 false false [[slv 3 true m.nS (m.sens.map aa9.cells),slv 4 false m.nV (m.votes.map aaQ.cells),slv 5 false m.nM (m.moves.map aaP.cells),.int .i64 m.states,.int .i64 m.cmds,.int .i64 m.bgn,slv 1 true m.nO (m.opn.map iv)]])else e=.ret∧t 2=.bool false)) ?_ ?_ () _ _ ?_) (fun e t h hk=>?_)
 ·rintro _ t h Q' kQ ⟨h1,h3,hA⟩
  (have hb:=trivial;with_reducible repeat' (first|simp only[hb,Vc.down,seval,ahR.down,h1,h3,aaK,decide_false,hA,aaJ]|refine fsp ?_ ?_<;>intro hb|refine fd ?_|fail))
  exact kQ _ _ _ (by rw[if_pos (by rfl)];exact⟨rfl,by simp[up,h1],hA⟩)
 ·rintro x rest i _ t h J Q' kJ kQ hx hi ⟨h1,h3,hA⟩
  have hd:decide ((i:Int)<(m.sens.length:Int))=true:=decide_eq_true (by omega)
  have hw:=aaW hi hs.sens
  have hA1:=abN hA
  (have hb:=trivial;with_reducible repeat' (first|simp only[hb,Vc.down,seval,ahR.down,h1,h3,hd,hx,hw,hA,hA1,aa9.cells,aaJ]|refine fsp ?_ ?_<;>intro hb|refine fd ?_|fail))
  all_goals first
   |exact kQ _ _ _ (by rw[if_neg (by simp_all)];exact⟨rfl,by simp[up]⟩)
   |(refine abX (kJ _ _ () ⟨?_,?_,hA1 _⟩ ?_);(simp[up,h1]);(simp[up]);(simp_all))
 ·exact⟨by simp[up,ent],by simp[up],rfl⟩
 split at hk
 rotate_left
 ·obtain⟨rfl,h2⟩:=hk
  rename_i hr1
  (have hb:=trivial;with_reducible repeat' (first|simp only[hb,Vc.down,seval,ahR.down,h2]|refine fsp ?_ ?_<;>intro hb|refine fd ?_|fail))
  all_goals simp[acX,ab2.2 hr1]
 obtain⟨rfl,h1,hA⟩:=hk
 rename_i hr1
 have hA1:=abN hA
 (have hb:=trivial;with_reducible repeat' (first|simp only[hb,Vc.down,seval,ahR.down,h1,hA,hA1,aaJ]|refine fsp ?_ ?_<;>intro hb|refine fd ?_|fail))
 refine ac5 (lst 126 m.votes (fun i (zz:Unit) t h=>t 1=.ptr 0 0 0∧t 5=.int .i64 i∧(h[0]?=some (.live 7 false false [[slv 3 true m.nS (m.sens.map aa9.cells),slv 4 false m.nV (m.votes.map aaQ.cells),slv 5 false m.nM (m.moves.map aaP.cells),.int .i64 m.states,.int .i64 m.cmds,.int .i64 m.bgn,slv 1 true m.nO (m.opn.map iv)]]))) (fun rest zz=>rest.all (aj9 m.sens.length)) (fun r e t h=>(if r=true then e=.exit 2∧t 1=.ptr 0 0 0∧h[0]?=some (.live 7 false false [[slv 3 true m.nS (m.sens.map aa9.cells),slv 4 false m.nV (m.votes.map aaQ.cells),slv 5 false m.nM (m.moves.map aaP.cells),.int .i64 m.states,.int .i64 m.cmds,.int .i64 m.bgn,slv 1 true m.nO (m.opn.map iv)]])else e=.ret∧t 2=.bool false)) ?_ ?_ () _ _ ?_) (fun e t h hk=>?_)
 ·rintro _ t h Q' kQ ⟨h1,h5,hA⟩
  (have hb:=trivial;with_reducible repeat' (first|simp only[hb,Vc.down,seval,ahR.down,h1,h5,aaK,decide_false,hA,aaJ]|refine fsp ?_ ?_<;>intro hb|refine fd ?_|fail))
  exact kQ _ _ _ (by rw[if_pos (by rfl)];exact⟨rfl,by simp[up,h1],hA⟩)
 ·rintro x rest i _ t h J Q' kJ kQ hx hi ⟨h1,h5,hA⟩
  have hd:decide ((i:Int)<(m.votes.length:Int))=true:=decide_eq_true (by omega)
  have hw:=aaW hi hs.votes
  have hA1:=abN hA
  have hV:=aDU x m.sens.length (hs.vs x (aa4 hx))
  (have hb:=trivial;with_reducible repeat' (first|simp only[hb,Vc.down,seval,ahR.down,h1,h5,hd,hx,hw,hA,hA1,hV,aaQ.cells,aaJ]|refine fsp ?_ ?_<;>intro hb|refine fd ?_|fail))
  all_goals first
   |exact kQ _ _ _ (by rw[if_neg (by simp_all)];exact⟨rfl,by simp[up]⟩)
   |(refine abX (kJ _ _ () ⟨?_,?_,hA⟩ ?_);(simp[up,h1]);(simp[up]);(simp_all))
 ·exact⟨by simp[up,ent,h1],by simp[up],hA⟩
 split at hk
 rotate_left
 ·obtain⟨rfl,h2⟩:=hk
  rename_i hr2
  (have hb:=trivial;with_reducible repeat' (first|simp only[hb,Vc.down,seval,ahR.down,h2]|refine fsp ?_ ?_<;>intro hb|refine fd ?_|fail))
  all_goals simp[acX,ab2.2 hr2]
 obtain⟨rfl,h1,hA⟩:=hk
 rename_i hr2
 have hA1:=abN hA
 cases hp:aiH m with
 |false=>
  have hp':acX m=false:=by simp[acX,hp]
  rw[hp']
  (have hb:=trivial;with_reducible repeat' (first|simp only[hb,Vc.down,seval,ahR.down,h1,hA,hA1,aaJ,am6,l1,l2,l3]|refine fsp ?_ ?_<;>intro hb|refine fd ?_|fail))
  all_goals first
   |rfl
   |(exfalso;simp_all[aiH];done)
 |true=>
  have hp':=hp
  simp only[aiH,abL]at hp'
  obtain⟨⟨⟨⟨⟨⟨p1,p2⟩,p3⟩,p4⟩,p5⟩,p6⟩,p7⟩:=hp'
  (have hb:=trivial;with_reducible repeat' (first|simp only[hb,Vc.down,seval,ahR.down,h1,hA,hA1,aaJ,am6,l1,l2,l3,p1,p2,p3,p4,p5,p6,p7]|refine fsp ?_ ?_<;>intro hb|refine fd ?_|fail))
  refine ac5 (lst 126 m.opn (fun i (zz:Unit) t h=>t 1=.ptr 0 0 0∧t 6=.int .i64 i∧(h[0]?=some (.live 7 false false [[slv 3 true m.nS (m.sens.map aa9.cells),slv 4 false m.nV (m.votes.map aaQ.cells),slv 5 false m.nM (m.moves.map aaP.cells),.int .i64 m.states,.int .i64 m.cmds,.int .i64 m.bgn,slv 1 true m.nO (m.opn.map iv)]]))) (fun rest zz=>rest.all (fun n=>inB n 0 255)) (fun r e t h=>(if r=true then e=.exit 4∧t 1=.ptr 0 0 0∧h[0]?=some (.live 7 false false [[slv 3 true m.nS (m.sens.map aa9.cells),slv 4 false m.nV (m.votes.map aaQ.cells),slv 5 false m.nM (m.moves.map aaP.cells),.int .i64 m.states,.int .i64 m.cmds,.int .i64 m.bgn,slv 1 true m.nO (m.opn.map iv)]])else e=.ret∧t 2=.bool false)) ?_ ?_ () _ _ ?_) (fun e t h hk=>?_)
  ·rintro _ t h Q' kQ ⟨h1,h6,hA⟩
   (have hb:=trivial;with_reducible repeat' (first|simp only[hb,Vc.down,seval,ahR.down,h1,h6,aaK,decide_false,hA,aaJ]|refine fsp ?_ ?_<;>intro hb|refine fd ?_|fail))
   exact kQ _ _ _ (by rw[if_pos (by rfl)];exact⟨rfl,by simp[up,h1],hA⟩)
  ·rintro x rest i _ t h J Q' kJ kQ hx hi ⟨h1,h6,hA⟩
   have hd:decide ((i:Int)<(m.opn.length:Int))=true:=decide_eq_true (by omega)
   have hw:=aaW hi hs.opn
   have hA1:=abN hA
   (have hb:=trivial;with_reducible repeat' (first|simp only[hb,Vc.down,seval,ahR.down,h1,h6,hd,hx,hw,hA,hA1,am6,iv,aaJ]|refine fsp ?_ ?_<;>intro hb|refine fd ?_|fail))
   all_goals first
    |exact kQ _ _ _ (by rw[if_neg (by simp_all)];exact⟨rfl,by simp[up]⟩)
    |(refine abX (kJ _ _ () ⟨?_,?_,hA⟩ ?_);(simp[up,h1]);(simp[up]);(simp_all))
  ·exact⟨by simp[up,ent,h1],by simp[up],hA⟩
  split at hk
  rotate_left
  ·obtain⟨rfl,h2⟩:=hk
   rename_i hr3
   (have hb:=trivial;with_reducible repeat' (first|simp only[hb,Vc.down,seval,ahR.down,h2]|refine fsp ?_ ?_<;>intro hb|refine fd ?_|fail))
   all_goals simp[acX,ab2.2 hr3]
  obtain⟨rfl,h1,hA⟩:=hk
  rename_i hr3
  have hA1:=abN hA
  (have hb:=trivial;with_reducible repeat' (first|simp only[hb,Vc.down,seval,ahR.down,h1,hA,hA1,aaJ]|refine fsp ?_ ?_<;>intro hb|refine fd ?_|fail))
  refine ac5 (lst 126 m.moves (fun i (zz:Unit) t h=>t 1=.ptr 0 0 0∧t 7=.int .i64 i∧(h[0]?=some (.live 7 false false [[slv 3 true m.nS (m.sens.map aa9.cells),slv 4 false m.nV (m.votes.map aaQ.cells),slv 5 false m.nM (m.moves.map aaP.cells),.int .i64 m.states,.int .i64 m.cmds,.int .i64 m.bgn,slv 1 true m.nO (m.opn.map iv)]]))) (fun rest zz=>rest.all (agW m)) (fun r e t h=>(if r=true then e=.exit 6 else e=.ret∧t 2=.bool false)) ?_ ?_ () _ _ ?_) (fun e t h hk=>?_)
  ·rintro _ t h Q' kQ ⟨h1,h7,hA⟩
   (have hb:=trivial;with_reducible repeat' (first|simp only[hb,Vc.down,seval,ahR.down,h1,h7,aaK,decide_false,hA,aaJ]|refine fsp ?_ ?_<;>intro hb|refine fd ?_|fail))
   exact kQ _ _ _ (by rw[if_pos (by rfl)])
  ·rintro x rest i _ t h J Q' kJ kQ hx hi ⟨h1,h7,hA⟩
   have hd:decide ((i:Int)<(m.moves.length:Int))=true:=decide_eq_true (by omega)
   have hw:=aaW hi hs.moves
   have hA1:=abN hA
   have hM:=aFZ m x (hs.ws x (aa4 hx))
   (have hb:=trivial;with_reducible repeat' (first|simp only[hb,Vc.down,seval,ahR.down,h1,h7,hd,hx,hw,hA,hA1,hM,aaP.cells,aaJ]|refine fsp ?_ ?_<;>intro hb|refine fd ?_|fail))
   all_goals first
    |exact kQ _ _ _ (by rw[if_neg (by simp_all)];exact⟨rfl,by simp[up]⟩)
    |(refine abX (kJ _ _ () ⟨?_,?_,hA⟩ ?_);(simp[up,h1]);(simp[up]);(simp_all))
  ·exact⟨by simp[up,ent,h1],by simp[up],hA⟩
  split at hk
  ·subst hk
   rename_i hr4
   (have hb:=trivial;with_reducible repeat' (first|simp only[hb,Vc.down,seval,ahR.down]|refine fsp ?_ ?_<;>intro hb|refine fd ?_|fail))
   all_goals simp[acX,hp,hr1,hr2,hr3,hr4]
  ·obtain⟨rfl,h2⟩:=hk
   rename_i hr4
   (have hb:=trivial;with_reducible repeat' (first|simp only[hb,Vc.down,seval,ahR.down,h2]|refine fsp ?_ ?_<;>intro hb|refine fd ?_|fail))
   all_goals simp[acX,ab2.2 hr4]
def ajZ(m:aa8)(l:List Int):Bool:=((l.length:Int)==(m.sens.length:Int))&&l.all akU
def ajO(m:aa8)(s:agF):Bool:=ajZ m s.reads&&inB s.cmd (-1) (IntKind.i64.wrap (m.cmds-1))
theorem aFS(m:aa8){l:List Int}{nn:Bool}(hl:l.length≤maxLen):om'.call (.fn 62) [.agg [slv 3 true m.nS (m.sens.map aa9.cells),slv 4 false m.nV (m.votes.map aaQ.cells),slv 5 false m.nM (m.moves.map aaP.cells),.int .i64 m.states,.int .i64 m.cmds,.int .i64 m.bgn,slv 1 true m.nO (m.opn.map iv)],slv 1 true nn (l.map iv)] []=some (.ret (.bool (ajZ m l)),[]):=by
 have hc:=an7 (l:=l) (nn:=nn) (g:=82) (cap:=[]) (p:=fun x=> !akU x) rfl rfl (fun x _=>aBD x) hl
 have q2:l.all akU= !(l.any fun x=> !akU x):=afR
 (refine ce Try.func62 ?_;simp only[Try.f62];(have hb:=trivial;with_reducible repeat' (first|simp only[hb,Vc.down,seval,aKC.down,aaJ,hc]|refine fsp ?_ ?_<;>intro hb|refine fd ?_|fail)))
 all_goals simp only[ajZ,q2,hb,acH,acI]
theorem asK(m:aa8){l:List Int}{nn:Bool}(hl:l.length≤maxLen):om'.call (.fn 24) [.agg [slv 3 true m.nS (m.sens.map aa9.cells),slv 4 false m.nV (m.votes.map aaQ.cells),slv 5 false m.nM (m.moves.map aaP.cells),.int .i64 m.states,.int .i64 m.cmds,.int .i64 m.bgn,slv 1 true m.nO (m.opn.map iv)],slv 1 true nn (l.map iv)] []=some (.ret (.bool (ajZ m l)),[]):=by
 (refine ce Try.func24 ?_;simp only[Try.f24];(have hb:=trivial;with_reducible repeat' (first|simp only[hb,Vc.down,seval,ayI.down,aaJ]|refine fsp ?_ ?_<;>intro hb|refine fd ?_|fail)))
 refine ac5 (lst 24 l (fun i (zz:Unit) t h=>t 1=slv 1 true nn (l.map iv)∧t 2=.ptr 0 0 0∧t 5=.int .i64 i∧(h[0]?=some (.live 7 false false [[slv 3 true m.nS (m.sens.map aa9.cells),slv 4 false m.nV (m.votes.map aaQ.cells),slv 5 false m.nM (m.moves.map aaP.cells),.int .i64 m.states,.int .i64 m.cmds,.int .i64 m.bgn,slv 1 true m.nO (m.opn.map iv)]]))) (fun rest zz=>rest.all akU) (fun r e t h=>(if r=true then e=.exit 0∧t 1=slv 1 true nn (l.map iv)∧t 2=.ptr 0 0 0∧h[0]?=some (.live 7 false false [[slv 3 true m.nS (m.sens.map aa9.cells),slv 4 false m.nV (m.votes.map aaQ.cells),slv 5 false m.nM (m.moves.map aaP.cells),.int .i64 m.states,.int .i64 m.cmds,.int .i64 m.bgn,slv 1 true m.nO (m.opn.map iv)]])else e=.ret∧t 4=.bool false)) ?_ ?_ () _ _ ?_) (fun e t h hk=>?_)
 ·rintro _ t h Q' kQ ⟨h1,h2,h5,hA⟩
  (have hb:=trivial;with_reducible repeat' (first|simp only[hb,Vc.down,seval,ayI.down,h1,h2,h5,aaK,decide_false,aaJ]|refine fsp ?_ ?_<;>intro hb|refine fd ?_|fail))
  exact kQ _ _ _ (by rw[if_pos (by rfl)];exact⟨rfl,by simp[up,h1],by simp[up,h2],hA⟩)
 ·rintro x rest i _ t h J Q' kJ kQ hx hi ⟨h1,h2,h5,hA⟩
  have hd:decide ((i:Int)<(l.length:Int))=true:=decide_eq_true (by omega)
  have hw:=aaW hi hl
  have hv:inB x (-10000) 10000=akU x:=rfl
  (have hb:=trivial;with_reducible repeat' (first|simp only[hb,Vc.down,seval,ayI.down,h1,h2,h5,hd,hx,hw,am6,hv,iv,aaJ]|refine fsp ?_ ?_<;>intro hb|refine fd ?_|fail))
  all_goals first
   |exact kQ _ _ _ (by rw[if_neg (by simp_all)];exact⟨rfl,by simp[up]⟩)
   |(refine abX (kJ _ _ () ⟨?_,?_,?_,hA⟩ ?_);(simp[up,h1]);(simp[up,h2]);(simp[up]);(simp_all))
 ·exact⟨by simp[up,ent],by simp[up,ent],by simp[up],rfl⟩
 split at hk
 ·obtain⟨rfl,h1,h2,hA⟩:=hk
  rename_i hr1
  have hA1:=abN hA
  (have hb:=trivial;with_reducible repeat' (first|simp only[hb,Vc.down,seval,ayI.down,h1,h2,hA,hA1,aaJ]|refine fsp ?_ ?_<;>intro hb|refine fd ?_|fail))
  all_goals simp[ajZ,hr1]
 ·obtain⟨rfl,h2⟩:=hk
  rename_i hr1
  (have hb:=trivial;with_reducible repeat' (first|simp only[hb,Vc.down,seval,ayI.down,h2]|refine fsp ?_ ?_<;>intro hb|refine fd ?_|fail))
  all_goals simp[ajZ,ab2.2 hr1]
theorem auH(m:aa8)(s:agF)(hl:s.reads.length≤maxLen):om'.call (.fn 44) [.agg [slv 3 true m.nS (m.sens.map aa9.cells),slv 4 false m.nV (m.votes.map aaQ.cells),slv 5 false m.nM (m.moves.map aaP.cells),.int .i64 m.states,.int .i64 m.cmds,.int .i64 m.bgn,slv 1 true m.nO (m.opn.map iv)],.agg [slv 1 true s.nn (s.reads.map iv),.int .i64 s.cmd]] []=some (.ret (.bool (ajO m s)),[]):=by
 have hr:=aFS m (nn:=s.nn) hl
 (refine ce Try.func44 ?_;simp only[Try.f44];(have hb:=trivial;with_reducible repeat' (first|simp only[hb,Vc.down,seval,aKL.down,hr,ajD]|refine fsp ?_ ?_<;>intro hb|refine fd ?_|fail)))
 all_goals simp_all[ajO]
theorem aDN(m:aa8)(s:agF)(hl:s.reads.length≤maxLen):om'.call (.fn 16) [.agg [slv 3 true m.nS (m.sens.map aa9.cells),slv 4 false m.nV (m.votes.map aaQ.cells),slv 5 false m.nM (m.moves.map aaP.cells),.int .i64 m.states,.int .i64 m.cmds,.int .i64 m.bgn,slv 1 true m.nO (m.opn.map iv)],.agg [slv 1 true s.nn (s.reads.map iv),.int .i64 s.cmd]] []=some (.ret (.bool (ajO m s)),[]):=by
 have hr:=asK m (nn:=s.nn) hl
 (refine ce Try.func16 ?_;simp only[Try.f16];(have hb:=trivial;with_reducible repeat' (first|simp only[hb,Vc.down,seval,aJ3.down,hr,am6]|refine fsp ?_ ?_<;>intro hb|refine fd ?_|fail)))
 all_goals simp_all[ajO]
def sAt(m:aa8)(k:Int):aa9:=m.sens.getD k.toNat ⟨0,0,false⟩
def rAt(l:List Int)(k:Int):Int:=l.getD k.toNat 0
theorem as1{m:aa8}{k:Int}(h:k.toNat<m.sens.length):m.sens[k.toNat]?=some (sAt m k):=by
 simp[sAt,List.getD,agD h]
theorem as7{l:List Int}{k:Int}(h:k.toNat<l.length):l[k.toNat]?=some (rAt l k):=by
 simp[rAt,List.getD,agD h]
def aoZ(m:aa8)(v:aaQ)(l:List Int):List Int→Int→Int
 | [],c=>c
 |k::ks,c=>aoZ m v l ks (if alS (sAt m k) v (rAt l k)=true then IntKind.i64.wrap (c+1)else c)
def ajX(m:aa8)(l:List Int)(v:aaQ):Bool:=decide (v.need≤aoZ m v l v.sens 0)
def Idx(m:aa8)(l:List Int):Prop:=∀k∈l,0≤k∧k.toNat<m.sens.length
theorem atV{n:Nat}(hn:n≤6):∀{l:List Int} {p:Option Int},ahE n l p=true→∀k∈l,0≤k∧k.toNat<n
 | [],_,_,k,h=>by cases h
 |x::l,p,h,k,hk=>by
  simp only[ahE,abL]at h
  rcases List.mem_cons.1 hk with rfl|hk
  ·have:=h.1.1
   rw[ahH (by omega) (by omega)]at this
   simp[inB]at this
   omega
  ·exact atV hn h.2 k hk
theorem ap9{m:aa8}(h:acX m=true):∀v∈m.votes,Idx m v.sens:=fun v hv=>by
 simp only[acX,aiH,abL,decide_eq_true_eq,acJ]at h
 have h2:=h.1.1.2 v hv
 simp only[aj9,abL]at h2
 exact atV h.1.1.1.1.1.1.1.1.1.1 h2.1.1
theorem aF1(m:aa8)(v:aaQ)(k r:Int)(h0:0≤k)(hk:k.toNat<m.sens.length):om'.call (.fn 81) [.agg [slv 3 true m.nS (m.sens.map aa9.cells),slv 4 false m.nV (m.votes.map aaQ.cells),slv 5 false m.nM (m.moves.map aaP.cells),.int .i64 m.states,.int .i64 m.cmds,.int .i64 m.bgn,slv 1 true m.nO (m.opn.map iv)],.agg [slv 1 true v.nn (v.sens.map iv),.int .i64 v.need,.int .i64 v.level,.bool v.above],.int .i64 k,.int .i64 r] []=some (.ret (.bool (alS (sAt m k) v r)),[]):=by
 have hs:=as1 hk
 have h0':(0≤k)=True:=eq_true h0
 have e:alS (sAt m k) v r=(!(sAt m k).byp&&((decide (r<(sAt m k).lo)||decide ((sAt m k).hi<r))||((v.above&&decide (v.level≤r))||(!v.above&&decide (r≤v.level))))):=by
  have q:(!inB r (sAt m k).lo (sAt m k).hi)=(decide (r<(sAt m k).lo)||decide ((sAt m k).hi<r)):=by rw[afP];simp[inB]<;>try omega
  unfold alS
  rw[q]
  cases v.above<;>simp
 rw[e]
 generalize sAt m k=s at hs
 (refine ce Try.func81 ?_;simp only[Try.f81];(have hb:=trivial;with_reducible repeat' (first|simp only[hb,Vc.down,seval,aKB.down,hs,h0',aa9.cells]|refine fsp ?_ ?_<;>intro hb|refine fd ?_|fail)))
 all_goals simp_all
theorem aI8(m:aa8)(v:aaQ){l:List Int}{nn:Bool}(hl:l.length=m.sens.length)(hv:v.sens.length≤maxLen)(hi:Idx m v.sens):om'.call (.fn 60) [.agg [slv 3 true m.nS (m.sens.map aa9.cells),slv 4 false m.nV (m.votes.map aaQ.cells),slv 5 false m.nM (m.moves.map aaP.cells),.int .i64 m.states,.int .i64 m.cmds,.int .i64 m.bgn,slv 1 true m.nO (m.opn.map iv)],.agg [slv 1 true v.nn (v.sens.map iv),.int .i64 v.need,.int .i64 v.level,.bool v.above],slv 1 true nn (l.map iv)] []=some (.ret (.bool (ajX m l v)),[]):=by
 have hI:=hi
 clear hi
 (refine ce Try.func60 ?_;simp only[Try.f60];(have hb:=trivial;with_reducible repeat' (first|simp only[hb,Vc.down,seval,aB4.down,aaJ]|refine fsp ?_ ?_<;>intro hb|refine fd ?_|fail)))
 refine ac5 (lst 38 v.sens (fun i (zz:Int) t h=>t 2=slv 1 true nn (l.map iv)∧t 3=.ptr 0 0 0∧t 4=.ptr 1 0 0∧t 8=.int .i64 i∧t 7=.int .i64 zz∧(h=[.live 7 false false [[slv 3 true m.nS (m.sens.map aa9.cells),slv 4 false m.nV (m.votes.map aaQ.cells),slv 5 false m.nM (m.moves.map aaP.cells),.int .i64 m.states,.int .i64 m.cmds,.int .i64 m.bgn,slv 1 true m.nO (m.opn.map iv)]],.live 4 false false [[slv 1 true v.nn (v.sens.map iv),.int .i64 v.need,.int .i64 v.level,.bool v.above]]])) (fun rest zz=>aoZ m v l rest zz) (fun r e t h=>e=.exit 0∧t 4=.ptr 1 0 0∧t 7=.int .i64 r∧h=[.live 7 false false [[slv 3 true m.nS (m.sens.map aa9.cells),slv 4 false m.nV (m.votes.map aaQ.cells),slv 5 false m.nM (m.moves.map aaP.cells),.int .i64 m.states,.int .i64 m.cmds,.int .i64 m.bgn,slv 1 true m.nO (m.opn.map iv)]],.live 4 false false [[slv 1 true v.nn (v.sens.map iv),.int .i64 v.need,.int .i64 v.level,.bool v.above]]]) ?_ ?_ (0) _ _ ?_) (fun e t h hk=>?_)
 ·rintro c t h Q' kQ ⟨h2,h3,h4,h8,h7,rfl⟩
  (have hb:=trivial;with_reducible repeat' (first|simp only[hb,Vc.down,seval,aB4.down,h2,h3,h4,h8,h7,aaK,decide_false,aaJ]|refine fsp ?_ ?_<;>intro hb|refine fd ?_|fail))
  exact kQ _ _ _ ⟨rfl,by simp[up,h4],by simp[up,h7,aoZ],rfl⟩
 ·rintro x rest i c t h J Q' kJ kQ hx hi ⟨h2,h3,h4,h8,h7,rfl⟩
  have hd:decide ((i:Int)<(v.sens.length:Int))=true:=decide_eq_true (by omega)
  have hw:=aaW hi hv
  obtain⟨k0,k1⟩:=hI x (aa4 hx)
  have hrr:=as7 (l:=l) (k:=x) (by omega)
  have h0':(0≤x)=True:=eq_true k0
  have hS:=aF1 m v x (rAt l x) k0 k1
  generalize hq:alS (sAt m x) v (rAt l x)=q at hS
  (have hb:=trivial;with_reducible repeat' (first|simp only[hb,Vc.down,seval,aB4.down,h2,h3,h4,h7,h8,hd,hx,hw,hrr,h0',hS,iv,aaJ]|refine fsp ?_ ?_<;>intro hb|refine fd ?_|fail))
  all_goals (refine abX (kJ _ _ (if q=true then IntKind.i64.wrap (c+1)else c) ⟨?_,?_,?_,?_,?_,rfl⟩ ?_);(simp[up,h2]);(simp[up,h3]);(simp[up,h4]);(simp[up]);(simp[up,h7,hb]);(simp[aoZ,hq]))
 ·exact⟨by simp[up,ent],by simp[up,ent],by simp[up,ent],by simp[up],by simp[up,ent],rfl⟩
 obtain⟨rfl,h4,h7,rfl⟩:=hk
 (have hb:=trivial;with_reducible repeat' (first|simp only[hb,Vc.down,seval,aB4.down,h4,h7]|refine fsp ?_ ?_<;>intro hb|refine fd ?_|fail))
 rfl
def orN(a b:Int):Int:=IntKind.i64.wrap ((BitVec.ofInt 64 a|||BitVec.ofInt 64 b).toNat:Int)
theorem aIZ(ty:TypeId)(a b:Int):aeI Try.prog .or ty (.int .i64 a) (.int .i64 b)=some (.int .i64 (orN a b)):=by
 show(if IntKind.i64=IntKind.i64 then adP .or .i64 a b else none)=_
 rw[if_pos rfl];rfl
def agK(m:aa8)(l:List Int):List aaQ→Nat→Int→Int
 | [],_,b=>b
 |v::vs,i,b=>agK m l vs (i+1) (if ajX m l v=true then orN b (awA i)else b)
theorem atS(m:aa8){l:List Int}{nn:Bool}(hl:l.length=m.sens.length)(hs:m.small)(hi:∀v∈m.votes,Idx m v.sens):om'.call (.fn 46) [.agg [slv 3 true m.nS (m.sens.map aa9.cells),slv 4 false m.nV (m.votes.map aaQ.cells),slv 5 false m.nM (m.moves.map aaP.cells),.int .i64 m.states,.int .i64 m.cmds,.int .i64 m.bgn,slv 1 true m.nO (m.opn.map iv)],slv 1 true nn (l.map iv)] []=some (.ret (.int .i64 (agK m l m.votes 0 0)),[]):=by
 have hI:=hi
 clear hi
 (refine ce Try.func46 ?_;simp only[Try.f46];(have hb:=trivial;with_reducible repeat' (first|simp only[hb,Vc.down,seval,ar9.down,aaJ]|refine fsp ?_ ?_<;>intro hb|refine fd ?_|fail)))
 refine ac5 (lst 50 m.votes (fun i (zz:Nat × Int) t h=>t 1=slv 1 true nn (l.map iv)∧t 2=.ptr 0 0 0∧t 12=slv 4 false m.nV (m.votes.map aaQ.cells)∧t 13=.int .i64 m.votes.length∧t 14=.int .i64 i∧t 5=.int .i64 zz.2∧(h[0]?=some (.live 7 false false [[slv 3 true m.nS (m.sens.map aa9.cells),slv 4 false m.nV (m.votes.map aaQ.cells),slv 5 false m.nM (m.moves.map aaP.cells),.int .i64 m.states,.int .i64 m.cmds,.int .i64 m.bgn,slv 1 true m.nO (m.opn.map iv)]])∧i=zz.1)) (fun rest zz=>agK m l rest zz.1 zz.2) (fun r e t h=>e=.exit 0∧t 5=.int .i64 r) ?_ ?_ (0,0) _ _ ?_) (fun e t h hk=>?_)
 ·rintro⟨k,b⟩ t h Q' kQ ⟨h1,h2,h12,h13,h14,h5,⟨hA,rfl⟩⟩
  try dsimp only at *
  (have hb:=trivial;with_reducible repeat' (first|simp only[hb,Vc.down,seval,ar9.down,h1,h2,h12,h13,h14,h5,aaK,decide_false]|refine fsp ?_ ?_<;>intro hb|refine fd ?_|fail))
  exact kQ _ _ _ ⟨rfl,by simp[up,h5,agK]⟩
 ·rintro x rest i ⟨k,b⟩ t h J Q' kJ kQ hx hi ⟨h1,h2,h12,h13,h14,h5,⟨hA,rfl⟩⟩
  have hd:decide ((i:Int)<(m.votes.length:Int))=true:=decide_eq_true (by omega)
  have hw:=aaW hi hs.votes
  try dsimp only at *
  have hA1:=abN hA
  have hvs:=hs.vs x (aa4 hx)
  have hIx:=hI x (aa4 hx)
  obtain⟨w,rfl⟩:∃w,w=x:=⟨_,rfl⟩
  obtain⟨k,rfl⟩:∃k,k=i:=⟨_,rfl⟩
  obtain⟨hL,hLe⟩:∃hL,hL=h.length:=⟨_,rfl⟩
  (have hb:=trivial;with_reducible repeat' (first|simp only[hb,Vc.down,seval,ar9.down,h1,h2,h12,h13,h14,h5,hd,hx,hw,hA1,aaQ.cells,aaJ]|refine fsp ?_ ?_<;>intro hb|refine fd ?_|fail))
  refine ac5 (lst 50 w.sens (fun i (zz:Int) t h=>t 1=slv 1 true nn (l.map iv)∧t 2=.ptr 0 0 0∧t 12=slv 4 false m.nV (m.votes.map aaQ.cells)∧t 13=.int .i64 m.votes.length∧t 14=.int .i64 (k:Int)∧t 5=.int .i64 b∧t 6=.int .i64 (k:Int)∧t 7=.ptr hL 0 0∧t 20=slv 1 true w.nn (w.sens.map iv)∧t 21=.int .i64 w.sens.length∧t 22=.int .i64 i∧t 8=.int .i64 zz∧(h[0]?=some (.live 7 false false [[slv 3 true m.nS (m.sens.map aa9.cells),slv 4 false m.nV (m.votes.map aaQ.cells),slv 5 false m.nM (m.moves.map aaP.cells),.int .i64 m.states,.int .i64 m.cmds,.int .i64 m.bgn,slv 1 true m.nO (m.opn.map iv)]])∧∃wf,h[hL]?=some (.live 4 false wf [[slv 1 true w.nn (w.sens.map iv),.int .i64 w.need,.int .i64 w.level,.bool w.above]]))) (fun rest zz=>aoZ m w l rest zz) (fun r e t h=>e=.exit 2∧t 1=slv 1 true nn (l.map iv)∧t 2=.ptr 0 0 0∧t 12=slv 4 false m.nV (m.votes.map aaQ.cells)∧t 13=.int .i64 m.votes.length∧t 14=.int .i64 (k:Int)∧t 5=.int .i64 b∧t 6=.int .i64 (k:Int)∧t 7=.ptr hL 0 0∧t 8=.int .i64 r∧h[0]?=some (.live 7 false false [[slv 3 true m.nS (m.sens.map aa9.cells),slv 4 false m.nV (m.votes.map aaQ.cells),slv 5 false m.nM (m.moves.map aaP.cells),.int .i64 m.states,.int .i64 m.cmds,.int .i64 m.bgn,slv 1 true m.nO (m.opn.map iv)]])∧∃wf,h[hL]?=some (.live 4 false wf [[slv 1 true w.nn (w.sens.map iv),.int .i64 w.need,.int .i64 w.level,.bool w.above]])) ?_ ?_ (0) _ _ ?_) (fun e tC hC hk=>?_)
  ·rintro c t h Q' kQ ⟨h1,h2,h12,h13,h14,h5,h6,h7,h20,h21,h22,h8,⟨hA,wf,hB⟩⟩
   (have hb:=trivial;with_reducible repeat' (first|simp only[hb,Vc.down,seval,ar9.down,h1,h2,h12,h13,h14,h5,h6,h7,h20,h21,h22,h8,aaK,decide_false]|refine fsp ?_ ?_<;>intro hb|refine fd ?_|fail))
   exact kQ _ _ _ ⟨rfl,by simp[up,h1],by simp[up,h2],by simp[up,h12],by simp[up,h13],by simp[up,h14],by simp[up,h5],by simp[up,h6],by simp[up,h7],by simp[up,h8,aoZ],hA,wf,hB⟩
  ·rintro x rest i c t h J Q' kJ kQ hx hi ⟨h1,h2,h12,h13,h14,h5,h6,h7,h20,h21,h22,h8,⟨hA,wf,hB⟩⟩
   have hd:decide ((i:Int)<(w.sens.length:Int))=true:=decide_eq_true (by omega)
   have hw:=aaW hi hvs
   obtain⟨k0,k1⟩:=hIx x (aa4 hx)
   have hrr:=as7 (l:=l) (k:=x) (by omega)
   have hss:=as1 k1
   have h0':(0≤x)=True:=eq_true k0
   have hS:=aF0 (sAt m x) w (rAt l x)
   generalize hq:alS (sAt m x) w (rAt l x)=q at hS
   generalize sAt m x=s at hss hS
   (have hb:=trivial;with_reducible repeat' (first|simp only[hb,Vc.down,seval,ar9.down,h1,h2,h7,h8,h20,h21,h22,hd,hx,hw,hrr,hss,h0',hA,hB,hS,iv,aa9.cells,aaJ]|refine fsp ?_ ?_<;>intro hb|refine fd ?_|fail))
   all_goals (refine abX (kJ _ _ (if q=true then IntKind.i64.wrap (c+1)else c) ⟨?_,?_,?_,?_,?_,?_,?_,?_,?_,?_,?_,?_,⟨hA,wf,hB⟩⟩ ?_);(simp[up,h1]);(simp[up,h2]);(simp[up,h12]);(simp[up,h13]);(simp[up,h14]);(simp[up,h5]);(simp[up,h6]);(simp[up,h7]);(simp[up,h20]);(simp[up,h21]);(simp[up]);(simp[up,h8,hb]);(simp[aoZ,hq]))
  ·exact⟨by simp[up,ent,h1,h2,h12,h13,h14,h5,hLe],by simp[up,ent,h1,h2,h12,h13,h14,h5,hLe],by simp[up,ent,h1,h2,h12,h13,h14,h5,hLe],by simp[up,ent,h1,h2,h12,h13,h14,h5,hLe],by simp[up,ent,h1,h2,h12,h13,h14,h5,hLe],by simp[up,ent,h1,h2,h12,h13,h14,h5,hLe],by simp[up,ent,h1,h2,h12,h13,h14,h5,hLe],by simp[up,ent,h1,h2,h12,h13,h14,h5,hLe],by simp[up,ent,h1,h2,h12,h13,h14,h5,hLe],by simp[up,ent,h1,h2,h12,h13,h14,h5,hLe],by simp[up],by simp[up,ent,h1,h2,h12,h13,h14,h5,hLe],⟨hA1 _,true,by rw[hLe];simp⟩⟩
  ·obtain⟨rfl,h1,h2,h12,h13,h14,h5,h6,h7,h8,hA,wf,hB⟩:=hk
   have hy:decide (w.need≤aoZ m w l w.sens 0)=ajX m l w:=rfl
   (have hb:=trivial;with_reducible repeat' (first|simp only[hb,Vc.down,seval,ar9.down,h1,h2,h12,h13,h14,h5,h6,h7,h8,hA,hB,hw,hy,aIZ]|refine fsp ?_ ?_<;>intro hb|refine fd ?_|fail))
   all_goals (refine abX (kJ _ _ (k+1,(if ajX m l w=true then orN b (awA k)else b)) ⟨?_,?_,?_,?_,?_,?_,⟨hA,rfl⟩⟩ ?_);(simp[up,h1]);(simp[up,h2]);(simp[up,h12]);(simp[up,h13]);(simp[up]);(simp[up,h5,hb]);(simp[agK]))
 ·exact⟨by simp[up,ent],by simp[up,ent],by simp[up,ent],by simp[up,ent],by simp[up],by simp[up,ent],⟨rfl,rfl⟩⟩
 obtain⟨rfl,h5⟩:=hk
 (have hb:=trivial;with_reducible repeat' (first|simp only[hb,Vc.down,seval,ar9.down,h5]|refine fsp ?_ ?_<;>intro hb|refine fd ?_|fail))
def bv(b:Bool):List AV:=[.bool b]
theorem aBU{h:aaA}{b:Nat}(hb:b<h.length)(l:aaA)(c:CB):(h++l).set b c=h.set b c++l:=List.set_append_left _ _ hb
theorem aC0{h:aaA}{b:Nat}(c:CB)(l:aaA)(k:Nat):(h.set b c++l)[h.length+k]?=l[k]?:=by
 have:=as5 (h.set b c) l k
 rwa[afO]at this
theorem aBE{h:aaA}{b b':Nat}{x:CB}(c:CB)(hne:b≠b')(hb:h[b']?=some x)(l:aaA):(h.set b c++l)[b']?=some x:=by
 rw[List.getElem?_append_left (by rw[afO];exact(acN.1 hb).1),List.getElem?_set_ne hne];exact hb
def aCS(v:AV)(i:Nat)(rows:List (List AV))(h:aaA):Prop:=(i=0∧v=.nils)∨(0<i∧∃b,0<b∧v=.slr 1 b 0 i∧h[b]?=some (.live 1 true false rows))
theorem az1(m:aa8){l:List Int}{nn:Bool}(hl:l.length=m.sens.length)(hs:m.small)(h6:m.votes.length≤6)(hi:∀v∈m.votes,Idx m v.sens)(o:Out)(h':aaA)(c0:m.votes=[]→(o,h')=(.ret .nils,[]))(c1:m.votes≠[]→(o,h')=(.ret (.slr 1 0 0 m.votes.length),[.live 1 true false ((m.votes.map (ajX m l)).map bv)])):
 om'.call (.fn 28) [.agg [slv 3 true m.nS (m.sens.map aa9.cells),slv 4 false m.nV (m.votes.map aaQ.cells),slv 5 false m.nM (m.moves.map aaP.cells),.int .i64 m.states,.int .i64 m.cmds,.int .i64 m.bgn,slv 1 true m.nO (m.opn.map iv)],slv 1 true nn (l.map iv)] []=some (o,h'):=by
 have hI:=hi
 clear hi
 (refine ce Try.func28 ?_;simp only[Try.f28];(have hb:=trivial;with_reducible repeat' (first|simp only[hb,Vc.down,seval,avN.down,aaJ]|refine fsp ?_ ?_<;>intro hb|refine fd ?_|fail)))
 refine ac5 (lst 26 m.votes (fun i (zz:List Bool) t h=>t 1=slv 1 true nn (l.map iv)∧t 2=.ptr 0 0 0∧t 6=.int .i64 i∧(h[0]?=some (.live 7 false false [[slv 3 true m.nS (m.sens.map aa9.cells),slv 4 false m.nV (m.votes.map aaQ.cells),slv 5 false m.nM (m.moves.map aaP.cells),.int .i64 m.states,.int .i64 m.cmds,.int .i64 m.bgn,slv 1 true m.nO (m.opn.map iv)]])∧zz.length=i∧aCS (t 5) i (zz.map bv) h)) (fun rest zz=>zz++rest.map (ajX m l)) (fun r e t h=>e=.exit 0∧aCS (t 5) m.votes.length (r.map bv) h) ?_ ?_ ([]) _ _ ?_) (fun e t h hk=>?_)
 ·rintro a t h Q' kQ ⟨h1,h2,h6,⟨hA,hp,hc⟩⟩
  (have hb:=trivial;with_reducible repeat' (first|simp only[hb,Vc.down,seval,avN.down,h1,h2,h6,aaK,decide_false,hA,aaJ]|refine fsp ?_ ?_<;>intro hb|refine fd ?_|fail))
  exact kQ _ _ _ ⟨rfl,by simpa [up]using hc⟩
 ·rintro x rest i a t h J Q' kJ kQ hx hi ⟨h1,h2,h6,⟨hA,hp,hc⟩⟩
  have hd:decide ((i:Int)<(m.votes.length:Int))=true:=decide_eq_true (by omega)
  have hw:=aaW hi hs.votes
  have hV:=aI8 m x (l:=l) (nn:=nn) hl (hs.vs x (aa4 hx)) (hI x (aa4 hx))
  have hA1:=abN hA
  have h0l:0<h.length:=(acN.1 hA).1
  rcases hc with⟨rfl,ho⟩|⟨h0,b,hb0,ho,hb⟩
  ·simp only[Int.natCast_zero]at hd
   (have hb:=trivial;with_reducible repeat' (first|simp only[hb,Vc.down,seval,avN.down,h1,h2,h6,ho,hd,hw,hx,hA,hA1,hV,aaQ.cells,aaJ]|refine fsp ?_ ?_<;>intro hb|refine fd ?_|fail))
   obtain rfl:a=[]:=agY.1 hp
   (refine abX (kJ _ _ [ajX m l x] ⟨?_,?_,?_,⟨hA1 _,rfl,.inr ⟨by omega,h.length+1,by omega,by simp[up],by rw[as5];simp[bv]⟩⟩⟩ ?_);(simp[up,h1]);(simp[up,h2]);(simp[up]);(simp))
  ·have hbl:b<h.length:=(acN.1 hb).1
   have hB:=abN hb
   have hS:=aBU hbl
   have hlp:0+i=a.length:=by omega
   have hi39:(i+1≤549755813888)=True:=eq_true (by omega)
   (have hb:=trivial;with_reducible repeat' (first|simp only[hb,Vc.down,seval,avN.down,h1,h2,h6,ho,hd,hw,hx,hA,hA1,hV,aaQ.cells,aaJ,hB,hS,gset0,aC0,afO,hp,hi39]|refine fsp ?_ ?_<;>intro hb|refine fd ?_|fail))
   (refine abX (kJ _ _ (a++[ajX m l x]) ⟨?_,?_,?_,⟨aBE _ (by omega) hA _,by simp[hp],.inr ⟨by omega,h.length+1,by omega,by simp[up],by rw[aC0];simp[bv]⟩⟩⟩ ?_);(simp[up,h1]);(simp[up,h2]);(simp[up]);(simp))
 ·exact⟨by simp[up,ent],by simp[up,ent],by simp[up],⟨rfl,rfl,.inl ⟨rfl,by simp[up]⟩⟩⟩
 obtain⟨rfl,⟨hn,ho⟩|⟨hn,b,hb0,ho,hb⟩⟩:=hk
 ·rw[c0 (agY.1 hn)]
  (have hb:=trivial;with_reducible repeat' (first|simp only[hb,Vc.down,seval,avN.down,ho]|refine fsp ?_ ?_<;>intro hb|refine fd ?_|fail))
 ·rw[c1 (fun e=>by rw[e]at hn;simp at hn)]
  (with_reducible repeat' (first|simp only[hb,Vc.down,seval,avN.down,ho,hb]|refine fsp ?_ ?_<;>intro hb|refine fd ?_|fail))
def ai3:List Bool→Nat→Int→Int
 | [],_,b=>b
 |v::vs,i,b=>ai3 vs (i+1) (if v=true then orN b (awA i)else b)
theorem atA(m:aa8)(l:List Int):∀(vs:List aaQ) (i:Nat) (b:Int),agK m l vs i b=ai3 (vs.map (ajX m l)) i b
 | [],_,_=>rfl
 |v::vs,i,b=>by simp only[agK,List.map_cons,ai3];exact atA m l vs _ _
def af0(b v:Int):Bool:=aHQ (aEX b v.toNat)==1
theorem aE4:∀(l:List Bool),l.length≤6→∀i:Nat,i<l.length→l[i]?=some (af0 (ai3 l 0 0) i)
 | [],_,i,h=>by simp at h
 | [a],_,i,h=>by
   have:∀a:Bool,∀i:Fin 1,[a][i.val]?=some (af0 (ai3 [a] 0 0) (i.val:Nat)):=by decide+kernel
   exact this a ⟨i,h⟩
 | [a,b],_,i,h=>by
   have:∀a b:Bool,∀i:Fin 2,[a,b][i.val]?=some (af0 (ai3 [a,b] 0 0) (i.val:Nat)):=by decide+kernel
   exact this a b ⟨i,h⟩
 | [a,b,c],_,i,h=>by
   have:∀a b c:Bool,∀i:Fin 3,[a,b,c][i.val]?=some (af0 (ai3 [a,b,c] 0 0) (i.val:Nat)):=by decide+kernel
   exact this a b c ⟨i,h⟩
 | [a,b,c,d],_,i,h=>by
   have:∀a b c d:Bool,∀i:Fin 4,[a,b,c,d][i.val]?=some (af0 (ai3 [a,b,c,d] 0 0) (i.val:Nat)):=by decide+kernel
   exact this a b c d ⟨i,h⟩
 | [a,b,c,d,e],_,i,h=>by
   have:∀a b c d e:Bool,∀i:Fin 5,[a,b,c,d,e][i.val]?=some (af0 (ai3 [a,b,c,d,e] 0 0) (i.val:Nat)):=by decide+kernel
   exact this a b c d e ⟨i,h⟩
 | [a,b,c,d,e,f],_,i,h=>by
   have:∀a b c d e f:Bool,∀i:Fin 6,[a,b,c,d,e,f][i.val]?=some (af0 (ai3 [a,b,c,d,e,f] 0 0) (i.val:Nat)):=by decide+kernel
   exact this a b c d e f ⟨i,h⟩
 |_::_::_::_::_::_::_::_,h,_,_=>by simp only[List.length_cons]at h;omega
theorem axM(a b:Bool):aeI Try.prog .neq 4 (.bool a) (.bool b)=some (.bool (!(a==b))):=by cases a<;>cases b<;>kernel_rfl
structure ai2 where
 frm:Int
 to:Int
 nn:Bool
 wants:List aaR
 cmd:Int
 after:Int
 st:Int
 ag:Int
 bits:Int
 com:Int
theorem aEV(n:ai2):om'.call (.fn 92) [.agg [.int .i64 n.frm,.int .i64 n.to,slv 2 true n.nn (n.wants.map aaR.cells),.int .i64 n.cmd,.int .i64 n.after,.int .i64 n.st,.int .i64 n.ag,.int .i64 n.bits,.int .i64 n.com]] []=some (.ret (.bool (n.frm==n.st)),[]):=by
 (refine ce Try.func92 ?_;simp only[Try.f92];(have hb:=trivial;with_reducible repeat' (first|simp only[hb,Vc.down,seval,aKG.down]|refine fsp ?_ ?_<;>intro hb|refine fd ?_|fail)))
theorem aGU(n:ai2):om'.call (.fn 93) [.agg [.int .i64 n.frm,.int .i64 n.to,slv 2 true n.nn (n.wants.map aaR.cells),.int .i64 n.cmd,.int .i64 n.after,.int .i64 n.st,.int .i64 n.ag,.int .i64 n.bits,.int .i64 n.com]] []=some (.ret (.bool (decide (n.after≤n.ag))),[]):=by
 (refine ce Try.func93 ?_;simp only[Try.f93];(have hb:=trivial;with_reducible repeat' (first|simp only[hb,Vc.down,seval,aKS.down]|refine fsp ?_ ?_<;>intro hb|refine fd ?_|fail)))
theorem aE1(n:ai2):om'.call (.fn 95) [.agg [.int .i64 n.frm,.int .i64 n.to,slv 2 true n.nn (n.wants.map aaR.cells),.int .i64 n.cmd,.int .i64 n.after,.int .i64 n.st,.int .i64 n.ag,.int .i64 n.bits,.int .i64 n.com]] []=some (.ret (.bool (n.cmd== -1||n.cmd==n.com)),[]):=by
 (refine ce Try.func95 ?_;simp only[Try.f95];(have hb:=trivial;with_reducible repeat' (first|simp only[hb,Vc.down,seval,aKN.down]|refine fsp ?_ ?_<;>intro hb|refine fd ?_|fail)))
 all_goals simp_all
theorem at6(n:ai2)(w:aaR)(h0:0≤w.vote):om'.call (.fn 99) [.agg [.int .i64 w.vote,.bool w.is],.ptr 0 0 0] [.live 9 false false [[.int .i64 n.frm,.int .i64 n.to,slv 2 true n.nn (n.wants.map aaR.cells),.int .i64 n.cmd,.int .i64 n.after,.int .i64 n.st,.int .i64 n.ag,.int .i64 n.bits,.int .i64 n.com]]]=some (.ret (.bool (!(af0 n.bits w.vote==w.is))),[.live 9 false false [[.int .i64 n.frm,.int .i64 n.to,slv 2 true n.nn (n.wants.map aaR.cells),.int .i64 n.cmd,.int .i64 n.after,.int .i64 n.st,.int .i64 n.ag,.int .i64 n.bits,.int .i64 n.com]]]):=by
 obtain⟨v,is⟩:=w
 obtain⟨k,hk⟩:∃k:Nat,v=k:=⟨v.toNat,by simp at h0;omega⟩
 subst hk
 (refine ce Try.func99 ?_;simp only[Try.f99];(have hb:=trivial;with_reducible repeat' (first|simp only[hb,Vc.down,seval,aJ0.down,axM]|refine fsp ?_ ?_<;>intro hb|refine fd ?_|fail)))
 all_goals simp[af0]
theorem ar8{l:List aaR}{nn:Bool}{g:Nat}{ndq:ai2}{p:aaR→Bool}(hp:∀x∈l,om'.call (.fn g) (.agg [.int .i64 x.vote,.bool x.is]::[.ptr 0 0 0]) [.live 9 false false [[.int .i64 ndq.frm,.int .i64 ndq.to,slv 2 true ndq.nn (ndq.wants.map aaR.cells),.int .i64 ndq.cmd,.int .i64 ndq.after,.int .i64 ndq.st,.int .i64 ndq.ag,.int .i64 ndq.bits,.int .i64 ndq.com]]]=some (.ret (.bool (p x)),[.live 9 false false [[.int .i64 ndq.frm,.int .i64 ndq.to,slv 2 true ndq.nn (ndq.wants.map aaR.cells),.int .i64 ndq.cmd,.int .i64 ndq.after,.int .i64 ndq.st,.int .i64 ndq.ag,.int .i64 ndq.bits,.int .i64 ndq.com]]]))(hl:l.length≤maxLen):
 om'.call (.fn 98) [slv 2 true nn (l.map aaR.cells),.func (.func g) [] [.ptr 0 0 0]] [.live 9 false false [[.int .i64 ndq.frm,.int .i64 ndq.to,slv 2 true ndq.nn (ndq.wants.map aaR.cells),.int .i64 ndq.cmd,.int .i64 ndq.after,.int .i64 ndq.st,.int .i64 ndq.ag,.int .i64 ndq.bits,.int .i64 ndq.com]]]=some (.ret (.int .i64 (idx p l 0)),[.live 9 false false [[.int .i64 ndq.frm,.int .i64 ndq.to,slv 2 true ndq.nn (ndq.wants.map aaR.cells),.int .i64 ndq.cmd,.int .i64 ndq.after,.int .i64 ndq.st,.int .i64 ndq.ag,.int .i64 ndq.bits,.int .i64 ndq.com]]]):=by
 (refine ce Try.func98 ?_;simp only[Try.f98];(have hb:=trivial;with_reducible repeat' (first|simp only[hb,Vc.down,seval,an2.down,aaJ]|refine fsp ?_ ?_<;>intro hb|refine fd ?_|fail)))
 refine ac5 (lst 19 l (fun i (s:Int) t h=>s=i∧h=[.live 9 false false [[.int .i64 ndq.frm,.int .i64 ndq.to,slv 2 true ndq.nn (ndq.wants.map aaR.cells),.int .i64 ndq.cmd,.int .i64 ndq.after,.int .i64 ndq.st,.int .i64 ndq.ag,.int .i64 ndq.bits,.int .i64 ndq.com]]]∧t 0=slv 2 true nn (l.map aaR.cells)∧t 1=.func (.func g) [] [.ptr 0 0 0]∧t 7=.int .i64 l.length∧t 8=.int .i64 i)
  (fun rest s=>idx p rest s) (fun r e t h=>h=[.live 9 false false [[.int .i64 ndq.frm,.int .i64 ndq.to,slv 2 true ndq.nn (ndq.wants.map aaR.cells),.int .i64 ndq.cmd,.int .i64 ndq.after,.int .i64 ndq.st,.int .i64 ndq.ag,.int .i64 ndq.bits,.int .i64 ndq.com]]]∧((e=.exit 0∧r= -1)∨(e=.ret∧t 4=.int .i64 r))) ?_ ?_ 0 _ _ ?_) (fun e t h hk=>?_)
 ·rintro s t h Q' kQ ⟨rfl,rfl,h0,h1,h7,h8⟩
  (have hb:=trivial;with_reducible repeat' (first|simp only[hb,Vc.down,seval,an2.down,h0,h1,h7,h8,aaK,decide_false]|refine fsp ?_ ?_<;>intro hb|refine fd ?_|fail))
  exact kQ _ _ _ ⟨rfl,.inl ⟨rfl,rfl⟩⟩
 ·rintro x rest i s t h J Q' kJ kQ hx hi ⟨rfl,rfl,h0,h1,h7,h8⟩
  have hpx:=hp x (aa4 hx)
  have hd:decide ((i:Int)<(l.length:Int))=true:=by simpa using hi
  (have hb:=trivial;with_reducible repeat' (first|simp only[hb,Vc.down,seval,an2.down,h0,h1,h7,h8,hd,hx,aaR.cells,hpx,aaW hi hl]|refine fsp ?_ ?_<;>intro hb|refine fd ?_|fail))
  ·exact kQ _ _ _ ⟨rfl,.inr ⟨rfl,by simp[up,idx,hb]⟩⟩
  ·exact abX (kJ _ _ (i+1) ⟨by simp,rfl,by simp[up,h0],by simp[up,h1],by simp[up,h7],by simp[up]⟩ (by simp[idx,hb]))
 ·exact⟨rfl,rfl,by simp[up,ent],by simp[up,ent],by simp[up],by simp[up]⟩
 ·obtain⟨rfl,⟨rfl,hi⟩|⟨rfl,hi⟩⟩:=hk
  ·(have hb:=trivial;with_reducible repeat' (first|simp only[hb,Vc.down,seval,an2.down]|refine fsp ?_ ?_<;>intro hb|refine fd ?_|fail))
   rw[hi]
  ·(have hb:=trivial;with_reducible repeat' (first|simp only[hb,Vc.down,seval,an2.down,hi]|refine fsp ?_ ?_<;>intro hb|refine fd ?_|fail))
theorem arE{l:List aaR}{nn:Bool}{g:Nat}{ndq:ai2}{p:aaR→Bool}(hp:∀x∈l,om'.call (.fn g) (.agg [.int .i64 x.vote,.bool x.is]::[.ptr 0 0 0]) [.live 9 false false [[.int .i64 ndq.frm,.int .i64 ndq.to,slv 2 true ndq.nn (ndq.wants.map aaR.cells),.int .i64 ndq.cmd,.int .i64 ndq.after,.int .i64 ndq.st,.int .i64 ndq.ag,.int .i64 ndq.bits,.int .i64 ndq.com]]]=some (.ret (.bool (p x)),[.live 9 false false [[.int .i64 ndq.frm,.int .i64 ndq.to,slv 2 true ndq.nn (ndq.wants.map aaR.cells),.int .i64 ndq.cmd,.int .i64 ndq.after,.int .i64 ndq.st,.int .i64 ndq.ag,.int .i64 ndq.bits,.int .i64 ndq.com]]]))(hl:l.length≤maxLen):
 om'.call (.fn 89) [slv 2 true nn (l.map aaR.cells),.func (.func g) [] [.ptr 0 0 0]] [.live 9 false false [[.int .i64 ndq.frm,.int .i64 ndq.to,slv 2 true ndq.nn (ndq.wants.map aaR.cells),.int .i64 ndq.cmd,.int .i64 ndq.after,.int .i64 ndq.st,.int .i64 ndq.ag,.int .i64 ndq.bits,.int .i64 ndq.com]]]=some (.ret (.bool (l.any p)),[.live 9 false false [[.int .i64 ndq.frm,.int .i64 ndq.to,slv 2 true ndq.nn (ndq.wants.map aaR.cells),.int .i64 ndq.cmd,.int .i64 ndq.after,.int .i64 ndq.st,.int .i64 ndq.ag,.int .i64 ndq.bits,.int .i64 ndq.com]]]):=by
 (refine ce Try.func89 ?_;simp only[Try.f89];(have hb:=trivial;with_reducible repeat' (first|simp only[hb,Vc.down,seval,ar8 hp hl,akC p l 0 (Int.le_refl 0)]|refine fsp ?_ ?_<;>intro hb|refine fd ?_|fail)))
def aiJ(bits:Int)(l:List aaR):Bool:=l.all fun w=>af0 bits w.vote==w.is
theorem axY(n:ai2)(hl:n.wants.length≤maxLen)(h0:∀w∈n.wants,0≤w.vote):om'.call (.fn 94) [.agg [.int .i64 n.frm,.int .i64 n.to,slv 2 true n.nn (n.wants.map aaR.cells),.int .i64 n.cmd,.int .i64 n.after,.int .i64 n.st,.int .i64 n.ag,.int .i64 n.bits,.int .i64 n.com]] []=some (.ret (.bool (aiJ n.bits n.wants)),[]):=by
 have hc:=arE (ndq:=n) (l:=n.wants) (nn:=n.nn) (g:=99) (p:=fun w=> !(af0 n.bits w.vote==w.is)) (fun w hw=>at6 n w (h0 w hw)) hl
 have q1:aiJ n.bits n.wants= !(n.wants.any fun w=> !(af0 n.bits w.vote==w.is)):=afR
 (refine ce Try.func94 ?_;simp only[Try.f94];(have hb:=trivial;with_reducible repeat' (first|simp only[hb,Vc.down,seval,aKK.down,hc]|refine fsp ?_ ?_<;>intro hb|refine fd ?_|fail)))
 all_goals simp[q1]
theorem aG3(f0 f1 f2 f3:Fn)(a0 a1 a2 a3 c0 c1 c2 c3:List AV):aiD Try.prog 155 [(0,.func f0 a0 c0),(1,.func f1 a1 c1),(2,.func f2 a2 c2),(3,.func f3 a3 c3)]=some (.agg [.func f0 a0 c0,.func f1 a1 c1,.func f2 a2 c2,.func f3 a3 c3]):=by kernel_rfl
theorem aCM(a b c d:AV):ahU Try.prog 155 (.agg [a,b,c,d]) (.int .i64 0)=some a:=by kernel_rfl
theorem aCO(a b c d:AV):ahU Try.prog 155 (.agg [a,b,c,d]) (.int .i64 1)=some b:=by kernel_rfl
theorem aCJ(a b c d:AV):ahU Try.prog 155 (.agg [a,b,c,d]) (.int .i64 2)=some c:=by kernel_rfl
theorem aC2(a b c d:AV):ahU Try.prog 155 (.agg [a,b,c,d]) (.int .i64 3)=some d:=by kernel_rfl
def apL(n:ai2):Bool:=(n.frm==n.st)&&decide (n.after≤n.ag)&&aiJ n.bits n.wants&&(n.cmd== -1||n.cmd==n.com)
theorem w2:IntKind.i64.wrap 2=2:=Eq.trans rfl rfl
theorem w3:IntKind.i64.wrap 3=3:=Eq.trans rfl rfl
theorem w4:IntKind.i64.wrap 4=4:=Eq.trans rfl rfl
theorem avJ(n:ai2)(hl:n.wants.length≤maxLen)(h0:∀w∈n.wants,0≤w.vote):om'.call (.fn 75) [.agg [.int .i64 n.frm,.int .i64 n.to,slv 2 true n.nn (n.wants.map aaR.cells),.int .i64 n.cmd,.int .i64 n.after,.int .i64 n.st,.int .i64 n.ag,.int .i64 n.bits,.int .i64 n.com]] []=some (.ret (.bool (apL n)),[]):=by
 have q1:=aEV n
 have q2:=aGU n
 have q3:=axY n hl h0
 have q4:=aE1 n
 (refine ce Try.func75 ?_;simp only[Try.f75];(have hb:=trivial;with_reducible repeat' (first|simp only[hb,Vc.down,seval,aIL.down,aG3,aCM,aCO,aCJ,aC2,q1,q2,q3,q4,w2,w3,w4]|refine fsp ?_ ?_<;>intro hb|refine fd ?_|fail)))
 (have hb:=trivial;with_reducible repeat' (first|simp only[hb,Vc.down,seval,aIL.down,aG3,aCM,aCO,aCJ,aC2,q1,q2,q3,q4,w2,w3,w4]|refine fsp ?_ ?_<;>intro hb|refine fd ?_|refine aKO ?_|fail))
 all_goals (refine congrArg (fun b=>(Out.ret (AV.bool b),([]:aaA))) ?_;symm;((try simp only[ahP,ac8,afE]at *);simp only[apL, *,aiP,acI,Bool.and_true,acH,Bool.and_self,Bool.not_not,ac8,afE,acC,List.all_nil]))
def nd(x:aaP)(st ag bits com:Int):ai2:=⟨x.frm,x.to,x.nn,x.wants,x.cmd,x.after,st,ag,bits,com⟩
theorem auU(x:aaP)(st ag bits com:Int){bs:List Bool}{nn:Bool}(hl:x.wants.length≤maxLen)(hv:∀w∈x.wants,0≤w.vote∧bs[w.vote.toNat]?=some (af0 bits w.vote)):
 om'.call (.fn 50) [.agg [.int .i64 x.frm,.int .i64 x.to,slv 2 true x.nn (x.wants.map aaR.cells),.int .i64 x.cmd,.int .i64 x.after],.int .i64 st,.int .i64 ag,slv 1 true nn (bs.map bv),.int .i64 com] []=some (.ret (.bool (apL (nd x st ag bits com))),[]):=by
 obtain⟨y,rfl⟩:∃y,y=x:=⟨_,rfl⟩
 (refine ce Try.func50 ?_;simp only[Try.f50];(have hb:=trivial;with_reducible repeat' (first|simp only[hb,Vc.down,seval,azO.down,aaJ]|refine fsp ?_ ?_<;>intro hb|refine fd ?_|fail)))
 refine ac5 (lst 56 y.wants (fun i (zz:Unit) t h=>t 1=.int .i64 st∧t 2=.int .i64 ag∧t 3=slv 1 true nn (bs.map bv)∧t 4=.int .i64 com∧t 5=.ptr 0 0 0∧t 11=.int .i64 i∧(h=[.live 5 false false [[.int .i64 y.frm,.int .i64 y.to,slv 2 true y.nn (y.wants.map aaR.cells),.int .i64 y.cmd,.int .i64 y.after]]])) (fun rest zz=>aiJ bits rest) (fun r e t h=>(if r=true then e=.exit 0∧t 1=.int .i64 st∧t 2=.int .i64 ag∧t 4=.int .i64 com∧t 5=.ptr 0 0 0∧h=[.live 5 false false [[.int .i64 y.frm,.int .i64 y.to,slv 2 true y.nn (y.wants.map aaR.cells),.int .i64 y.cmd,.int .i64 y.after]]]else e=.ret∧t 10=.bool false)) ?_ ?_ () _ _ ?_) (fun e t h hk=>?_)
 ·rintro _ t h Q' kQ ⟨h1,h2,h3,h4,h5,h11,rfl⟩
  (have hb:=trivial;with_reducible repeat' (first|simp only[hb,Vc.down,seval,azO.down,h1,h2,h3,h4,h5,h11,aaK,decide_false,aaJ]|refine fsp ?_ ?_<;>intro hb|refine fd ?_|fail))
  exact kQ _ _ _ (by rw[if_pos (by rfl)];exact⟨rfl,by simp[up,h1],by simp[up,h2],by simp[up,h4],by simp[up,h5],rfl⟩)
 ·rintro x rest i _ t h J Q' kJ kQ hx hi ⟨h1,h2,h3,h4,h5,h11,rfl⟩
  have hd:decide ((i:Int)<(y.wants.length:Int))=true:=decide_eq_true (by omega)
  have hw:=aaW hi hl
  obtain⟨k0,k1⟩:=hv x (aa4 hx)
  have h0':(0≤x.vote)=True:=eq_true k0
  (have hb:=trivial;with_reducible repeat' (first|simp only[hb,Vc.down,seval,azO.down,h1,h2,h3,h4,h5,h11,hd,hx,hw,k1,h0',axM,bv,aaR.cells,aaJ]|refine fsp ?_ ?_<;>intro hb|refine fd ?_|fail))
  all_goals first
   |exact kQ _ _ _ (by rw[if_neg (by simp_all[aiJ])];exact⟨rfl,by simp[up]⟩)
   |(refine abX (kJ _ _ () ⟨?_,?_,?_,?_,?_,?_,rfl⟩ ?_);(simp[up,h1]);(simp[up,h2]);(simp[up,h3]);(simp[up,h4]);(simp[up,h5]);(simp[up]);(simp_all[aiJ]))
 ·exact⟨by simp[up,ent],by simp[up,ent],by simp[up,ent],by simp[up,ent],by simp[up,ent],by simp[up],rfl⟩
 split at hk
 ·obtain⟨rfl,h1,h2,h4,h5,rfl⟩:=hk
  rename_i hr1
  (have hb:=trivial;with_reducible repeat' (first|simp only[hb,Vc.down,seval,azO.down,h1,h2,h4,h5]|refine fsp ?_ ?_<;>intro hb|refine fd ?_|fail))
  all_goals (refine congrArg (fun b=>(Out.ret (AV.bool b),([]:aaA))) ?_;symm;simp only[apL,nd];(try have q9:=hr1);simp_all<;>try (intro q7;exfalso;have:=of_decide_eq_true q7;omega))
 ·obtain⟨rfl,h2⟩:=hk
  rename_i hr1
  (have hb:=trivial;with_reducible repeat' (first|simp only[hb,Vc.down,seval,azO.down,h2]|refine fsp ?_ ?_<;>intro hb|refine fd ?_|fail))
  all_goals simp_all[apL,nd]
def au0(a:Int):Int:=if IntKind.i64.wrap (a+1)<10 then IntKind.i64.wrap (a+1)else 10
def ae3(st ag bits com:Int):List aaP→Int × Int
 | []=>(st,au0 ag)
 |x::l=>if apL (nd x st ag bits com)=true then(x.to,0)else ae3 st ag bits com l
theorem axA(m:aa8)(st ag bits com:Int)(hs:m.small)(h0:∀x∈m.moves,∀w∈x.wants,0≤w.vote):
 om'.call (.fn 45) [.agg [slv 3 true m.nS (m.sens.map aa9.cells),slv 4 false m.nV (m.votes.map aaQ.cells),slv 5 false m.nM (m.moves.map aaP.cells),.int .i64 m.states,.int .i64 m.cmds,.int .i64 m.bgn,slv 1 true m.nO (m.opn.map iv)],.agg [.int .i64 st,.int .i64 ag],.agg [.int .i64 bits,.int .i64 com]] []=some (.ret (.agg [.int .i64 (ae3 st ag bits com m.moves).1,.int .i64 (ae3 st ag bits com m.moves).2]),[]):=by
 (refine ce Try.func45 ?_;simp only[Try.f45];(have hb:=trivial;with_reducible repeat' (first|simp only[hb,Vc.down,seval,ayG.down,aaJ]|refine fsp ?_ ?_<;>intro hb|refine fd ?_|fail)))
 refine ac5 (lst 32 m.moves (fun i (zz:Unit) t h=>t 4=.ptr 1 0 0∧t 5=.ptr 2 0 0∧t 6=.ptr 3 0 0∧t 10=slv 5 false m.nM (m.moves.map aaP.cells)∧t 11=.int .i64 m.moves.length∧t 12=.int .i64 i∧(h[1]?=some (.live 2 true false [[.int .i64 st,.int .i64 ag]])∧h[2]?=some (.live 2 true false [[.int .i64 bits,.int .i64 com]])∧h[3]?=some (.live 2 true false [[.int .i64 0,.int .i64 0]]))) (fun rest zz=>ae3 st ag bits com rest) (fun r e t h=>(e=.exit 0∧t 4=.ptr 1 0 0∧t 6=.ptr 3 0 0∧h[1]?=some (.live 2 true false [[.int .i64 st,.int .i64 ag]])∧h[3]?=some (.live 2 true false [[.int .i64 0,.int .i64 0]])∧r=(st,au0 ag))∨(e=.ret∧t 6=.ptr 3 0 0∧h[3]?=some (.live 2 true true [[.int .i64 r.1,.int .i64 r.2]]))) ?_ ?_ () _ _ ?_) (fun e t h hk=>?_)
 ·rintro _ t h Q' kQ ⟨h4,h5,h6,h10,h11,h12,⟨hA,hB,hC⟩⟩
  (have hb:=trivial;with_reducible repeat' (first|simp only[hb,Vc.down,seval,ayG.down,h4,h5,h6,h10,h11,h12,aaK,decide_false]|refine fsp ?_ ?_<;>intro hb|refine fd ?_|fail))
  exact kQ _ _ _ (.inl ⟨rfl,by simp[up,h4],by simp[up,h6],hA,hC,rfl⟩)
 ·rintro x rest i _ t h J Q' kJ kQ hx hi ⟨h4,h5,h6,h10,h11,h12,⟨hA,hB,hC⟩⟩
  have hd:decide ((i:Int)<(m.moves.length:Int))=true:=decide_eq_true (by omega)
  have hw:=aaW hi hs.moves
  have hA1:=abN hA
  have hB1:=abN hB
  have hC1:=abN hC
  have hap:=avJ (nd x st ag bits com) (hs.ws x (aa4 hx)) (h0 x (aa4 hx))
  have h3l:3<h.length:=(acN.1 hC).1
  generalize hq:apL (nd x st ag bits com)=q at hap
  simp only[nd]at hap
  (have hb:=trivial;with_reducible repeat' (first|simp only[hb,Vc.down,seval,ayG.down,h4,h5,h6,h10,h11,h12,hd,hx,hw,hA1,hB1,hC1,hap,aaP.cells,aaJ]|refine fsp ?_ ?_<;>intro hb|refine fd ?_|fail))
  ·exact kQ _ _ _ (.inr ⟨rfl,by simp[up,h6],by rw[akI (by simp;omega)];simp[ae3,hq,hb]⟩)
  ·(refine abX (kJ _ _ () ⟨?_,?_,?_,?_,?_,?_,⟨hA1 _,hB1 _,hC1 _⟩⟩ ?_);(simp[up,h4]);(simp[up,h5]);(simp[up,h6]);(simp[up,h10]);(simp[up,h11]);(simp[up]);(simp[ae3,hq,hb]))
 ·exact⟨by simp[up,ent],by simp[up,ent],by simp[up,ent],by simp[up,ent],by simp[up,ent],by simp[up],⟨rfl,rfl,rfl⟩⟩
 rcases hk with⟨rfl,h4,h6,hA,hC,hr⟩|⟨rfl,h6,hC⟩
 ·have hA1:=abN hA
  have hC1:=abN hC
  have h3l:3<h.length:=(acN.1 hC).1
  have hset:∀c:CB,(h.set 3 c)[3]?=some c:=fun c=>akI h3l
  have hmt:(if IntKind.i64.wrap (ag+1)<10 then IntKind.i64.wrap (ag+1)else 10)=au0 ag:=rfl
  rw[hr]
  (have hb:=trivial;with_reducible repeat' (first|simp only[hb,Vc.down,seval,ayG.down,h4,h6,hA,hC,hA1,hC1,hset,hmt]|refine fsp ?_ ?_<;>intro hb|refine fd ?_|fail))
 ·(have hb:=trivial;with_reducible repeat' (first|simp only[hb,Vc.down,seval,ayG.down,h6,hC]|refine fsp ?_ ?_<;>intro hb|refine fd ?_|fail))
theorem aoJ{m:aa8}(h:acX m=true):∀x∈m.moves,∀w∈x.wants,0≤w.vote∧w.vote.toNat<m.votes.length:=fun x hx w hw=>by
 simp only[acX,aiH,abL,decide_eq_true_eq,acJ]at h
 have h2:=h.1.2 x hx
 simp only[agW,abL]at h2
 have h3:=h2.1.1.1.1.1
 have h6:m.votes.length≤6:=h.1.1.1.1.1.1.1.1.1.2
 have key:∀(l p:List aaR),ae2 m.votes.length p l=true→w∈l→0≤w.vote∧w.vote.toNat<m.votes.length:=by
  intro l
  induction l with
  |nil=>intro p _ h;cases h
  |cons y l ih=>
   intro p h hm
   simp only[ae2,abL]at h
   rcases List.mem_cons.1 hm with rfl|hm
   ·have:=h.1.1
    rw[ahH (by omega) (by omega)]at this
    simp[inB]at this
    omega
   ·exact ih _ h.2 hm
 exact key x.wants [] h3 hw
def apW(m:aa8)(st ag:Int)(s:agF):Int × Int:=ae3 st ag (agK m s.reads m.votes 0 0) s.cmd m.moves
def okB(m:aa8)(st ag:Int)(s:agF):Bool:=acX m&&inB st 0 (IntKind.i64.wrap (m.states-1))&&inB ag 0 10&&ajO m s
theorem arM{m:aa8}{l:List Int}(h:ajZ m l=true):l.length=m.sens.length:=by
 simp only[ajZ,abL,beq_iff_eq]at h
 omega
theorem aE8(m:aa8)(st ag:Int)(s:agF)(hs:m.small)(hl:s.reads.length≤maxLen):om'.call (.fn 14) [.agg [slv 3 true m.nS (m.sens.map aa9.cells),slv 4 false m.nV (m.votes.map aaQ.cells),slv 5 false m.nM (m.moves.map aaP.cells),.int .i64 m.states,.int .i64 m.cmds,.int .i64 m.bgn,slv 1 true m.nO (m.opn.map iv)],.int .i64 st,.int .i64 ag,.agg [slv 1 true s.nn (s.reads.map iv),.int .i64 s.cmd]] []=
 some (.ret (if okB m st ag s=true then .tup [.int .i64 (apW m st ag s).1,.int .i64 (apW m st ag s).2,.int .i64 0]else .tup [.int .i64 0,.int .i64 0,.int .i64 2]),[]):=by
 have hv:=as8 m hs
 have hsc:=auH m s hl
 cases hok:okB m st ag s with
 |false=>
  (refine ce Try.func14 ?_;simp only[Try.f14];(have hb:=trivial;with_reducible repeat' (first|simp only[hb,Vc.down,seval,aIH.down,hv,hsc,ajD]|refine fsp ?_ ?_<;>intro hb|refine fd ?_|fail)))
  all_goals first
   |rfl
   |(exfalso;simp_all[okB];done)
 |true=>
  have hok':=hok
  simp only[okB,abL]at hok'
  obtain⟨⟨⟨o1,o2⟩,o3⟩,o4⟩:=hok'
  have o5:=o4
  simp only[ajO,abL]at o5
  have hbits:=atS m (l:=s.reads) (nn:=s.nn) (arM o5.1) hs (ap9 o1)
  have hst:=axA m st ag (agK m s.reads m.votes 0 0) s.cmd hs (fun x hx w hw=>(aoJ o1 x hx w hw).1)
  rw[o1]at hv
  rw[o4]at hsc
  (refine ce Try.func14 ?_;simp only[Try.f14];(have hb:=trivial;with_reducible repeat' (first|simp only[hb,Vc.down,seval,aIH.down,hv,hsc,ajD,o2,o3,hbits,hst]|refine fsp ?_ ?_<;>intro hb|refine fd ?_|fail)))
  all_goals rfl
theorem aBY{m:aa8}(h:acX m=true):m.votes.length≤6:=by
 simp only[acX,aiH,abL,decide_eq_true_eq]at h
 exact h.1.1.1.1.1.1.1.1.1.2
theorem aDH(m:aa8)(st ag:Int)(y:agF)(hs:m.small)(hm:acX m=true)(hr:ajZ m y.reads=true):om'.call (.fn 17) [.agg [slv 3 true m.nS (m.sens.map aa9.cells),slv 4 false m.nV (m.votes.map aaQ.cells),slv 5 false m.nM (m.moves.map aaP.cells),.int .i64 m.states,.int .i64 m.cmds,.int .i64 m.bgn,slv 1 true m.nO (m.opn.map iv)],.int .i64 st,.int .i64 ag,.agg [slv 1 true y.nn (y.reads.map iv),.int .i64 y.cmd]] []=
 some (.ret (.tup [.int .i64 (apW m st ag y).1,.int .i64 (apW m st ag y).2]),[]):=by
 have h6:=aBY hm
 have hV:=az1 m (l:=y.reads) (nn:=y.nn) (arM hr) hs h6 (ap9 hm)
 have hw0:=aoJ hm
 have hbs:∀x∈m.moves,∀w∈x.wants,0≤w.vote∧(m.votes.map (ajX m y.reads))[w.vote.toNat]?=some (af0 (agK m y.reads m.votes 0 0) w.vote):=fun x hx w hw=>by
  obtain⟨a,b⟩:=hw0 x hx w hw
  refine⟨a,?_⟩
  rw[atA,aE4 _ (by simpa using h6) _ (by simpa using b)]
  congr 2;omega
 have hA:=fun(nn:Bool) x (hx:x∈m.moves)=>auU x st ag (agK m y.reads m.votes 0 0) y.cmd (bs:=m.votes.map (ajX m y.reads)) (nn:=nn) (hs.ws x hx) (hbs x hx)
 unfold apW
 generalize agK m y.reads m.votes 0 0=bits at hA
 clear hbs hw0
 have hmt:(if IntKind.i64.wrap (ag+1)<10 then IntKind.i64.wrap (ag+1)else 10)=au0 ag:=rfl
 have htk:((m.votes.map (ajX m y.reads)).map bv).take m.votes.length=(m.votes.map (ajX m y.reads)).map bv:=List.take_of_length_le (by simp)
 by_cases hn:m.votes=[]
 ·have hV':=hV _ _ (fun _=>rfl) (fun h=>(h hn).elim)
  have hA:=hA false
  rw[hn]at hA;simp only[List.map_nil,aA5]at hA
  (refine ce Try.func17 ?_;simp only[Try.f17];(have hb:=trivial;with_reducible repeat' (first|simp only[hb,Vc.down,seval,anZ.down,hV',aaJ]|refine fsp ?_ ?_<;>intro hb|refine fd ?_|fail)))
  refine ac5 (lst 44 m.moves (fun i (zz:Unit) t h=>t 1=.int .i64 st∧t 2=.int .i64 ag∧t 4=.ptr 0 0 0∧t 7=.ptr 1 0 0∧t 10=.nils∧t 11=.int .i64 i∧(h=[.live 7 false false [[slv 3 true m.nS (m.sens.map aa9.cells),slv 4 false m.nV (m.votes.map aaQ.cells),slv 5 false m.nM (m.moves.map aaP.cells),.int .i64 m.states,.int .i64 m.cmds,.int .i64 m.bgn,slv 1 true m.nO (m.opn.map iv)]],.live 2 false false [[slv 1 true y.nn (y.reads.map iv),.int .i64 y.cmd]]])) (fun rest zz=>ae3 st ag bits y.cmd rest) (fun r e t h=>(e=.exit 0∧t 1=.int .i64 st∧t 2=.int .i64 ag∧r=(st,au0 ag))∨(e=.ret∧t 8=.int .i64 r.1∧t 9=.int .i64 r.2)) ?_ ?_ () _ _ ?_) (fun e t h hk=>?_)
  ·rintro _ t h Q' kQ ⟨h1,h2,h4,h7,h10,h11,rfl⟩
   (have hb:=trivial;with_reducible repeat' (first|simp only[hb,Vc.down,seval,anZ.down,h1,h2,h4,h7,h10,h11,aaK,decide_false,aaJ]|refine fsp ?_ ?_<;>intro hb|refine fd ?_|fail))
   exact kQ _ _ _ (.inl ⟨rfl,by simp[up,h1],by simp[up,h2],rfl⟩)
  ·rintro x rest i _ t h J Q' kJ kQ hx hi ⟨h1,h2,h4,h7,h10,h11,rfl⟩
   have hd:decide ((i:Int)<(m.moves.length:Int))=true:=decide_eq_true (by omega)
   have hw:=aaW hi hs.moves
   have hap:=hA x (aa4 hx)
   generalize hq:apL (nd x st ag bits y.cmd)=q at hap
   (have hb:=trivial;with_reducible repeat' (first|simp only[hb,Vc.down,seval,anZ.down,h1,h2,h4,h7,h10,h11,hd,hx,hw,hap,htk,aaP.cells,aaJ]|refine fsp ?_ ?_<;>intro hb|refine fd ?_|fail))
   ·exact kQ _ _ _ (.inr ⟨rfl,by simp[up,ae3,hq,hb],by simp[up,ae3,hq,hb]⟩)
   ·(refine abX (kJ _ _ () ⟨?_,?_,?_,?_,?_,?_,rfl⟩ ?_);(simp[up,h1]);(simp[up,h2]);(simp[up,h4]);(simp[up,h7]);(simp[up,h10]);(simp[up]);(simp[ae3,hq,hb]))
  ·exact⟨by simp[up,ent],by simp[up,ent],by simp[up,ent],by simp[up,ent],by simp[up,ent],by simp[up],rfl⟩
  rcases hk with⟨rfl,h1,h2,hr⟩|⟨rfl,h8,h9⟩
  ·rw[hr]
   (have hb:=trivial;with_reducible repeat' (first|simp only[hb,Vc.down,seval,anZ.down,h1,h2,hmt]|refine fsp ?_ ?_<;>intro hb|refine fd ?_|fail))
  ·(have hb:=trivial;with_reducible repeat' (first|simp only[hb,Vc.down,seval,anZ.down,h8,h9]|refine fsp ?_ ?_<;>intro hb|refine fd ?_|fail))
 ·have hV':=hV _ _ (fun h=>(hn h).elim) (fun _=>rfl)
  have hA:=hA true
  simp only[aqB]at hA
  (refine ce Try.func17 ?_;simp only[Try.f17];(have hb:=trivial;with_reducible repeat' (first|simp only[hb,Vc.down,seval,anZ.down,hV',aaJ]|refine fsp ?_ ?_<;>intro hb|refine fd ?_|fail)))
  refine ac5 (lst 44 m.moves (fun i (zz:Unit) t h=>t 1=.int .i64 st∧t 2=.int .i64 ag∧t 4=.ptr 0 0 0∧t 7=.ptr 1 0 0∧t 10=.slr 1 2 0 m.votes.length∧t 11=.int .i64 i∧(h=[.live 7 false false [[slv 3 true m.nS (m.sens.map aa9.cells),slv 4 false m.nV (m.votes.map aaQ.cells),slv 5 false m.nM (m.moves.map aaP.cells),.int .i64 m.states,.int .i64 m.cmds,.int .i64 m.bgn,slv 1 true m.nO (m.opn.map iv)]],.live 2 false false [[slv 1 true y.nn (y.reads.map iv),.int .i64 y.cmd]],.live 1 true false ((m.votes.map (ajX m y.reads)).map bv)])) (fun rest zz=>ae3 st ag bits y.cmd rest) (fun r e t h=>(e=.exit 0∧t 1=.int .i64 st∧t 2=.int .i64 ag∧r=(st,au0 ag))∨(e=.ret∧t 8=.int .i64 r.1∧t 9=.int .i64 r.2)) ?_ ?_ () _ _ ?_) (fun e t h hk=>?_)
  ·rintro _ t h Q' kQ ⟨h1,h2,h4,h7,h10,h11,rfl⟩
   (have hb:=trivial;with_reducible repeat' (first|simp only[hb,Vc.down,seval,anZ.down,h1,h2,h4,h7,h10,h11,aaK,decide_false,aaJ]|refine fsp ?_ ?_<;>intro hb|refine fd ?_|fail))
   exact kQ _ _ _ (.inl ⟨rfl,by simp[up,h1],by simp[up,h2],rfl⟩)
  ·rintro x rest i _ t h J Q' kJ kQ hx hi ⟨h1,h2,h4,h7,h10,h11,rfl⟩
   have hd:decide ((i:Int)<(m.moves.length:Int))=true:=decide_eq_true (by omega)
   have hw:=aaW hi hs.moves
   have hap:=hA x (aa4 hx)
   generalize hq:apL (nd x st ag bits y.cmd)=q at hap
   (have hb:=trivial;with_reducible repeat' (first|simp only[hb,Vc.down,seval,anZ.down,h1,h2,h4,h7,h10,h11,hd,hx,hw,hap,htk,aaP.cells,aaJ]|refine fsp ?_ ?_<;>intro hb|refine fd ?_|fail))
   ·exact kQ _ _ _ (.inr ⟨rfl,by simp[up,ae3,hq,hb],by simp[up,ae3,hq,hb]⟩)
   ·(refine abX (kJ _ _ () ⟨?_,?_,?_,?_,?_,?_,rfl⟩ ?_);(simp[up,h1]);(simp[up,h2]);(simp[up,h4]);(simp[up,h7]);(simp[up,h10]);(simp[up]);(simp[ae3,hq,hb]))
  ·exact⟨by simp[up,ent],by simp[up,ent],by simp[up,ent],by simp[up,ent],by simp[up,ent],by simp[up],rfl⟩
  rcases hk with⟨rfl,h1,h2,hr⟩|⟨rfl,h8,h9⟩
  ·rw[hr]
   (have hb:=trivial;with_reducible repeat' (first|simp only[hb,Vc.down,seval,anZ.down,h1,h2,hmt]|refine fsp ?_ ?_<;>intro hb|refine fd ?_|fail))
  ·(have hb:=trivial;with_reducible repeat' (first|simp only[hb,Vc.down,seval,anZ.down,h8,h9]|refine fsp ?_ ?_<;>intro hb|refine fd ?_|fail))
def amN(m:aa8):Bool:=m.votes.all (fun v=>decide (v.sens.length≤10))&&m.moves.all (fun x=>decide (x.wants.length≤10))&&decide (m.sens.length≤10)&&decide (m.votes.length≤10)&&decide (m.moves.length≤30)&&decide (m.opn.length≤20)
theorem az3(m:aa8)(hs:m.small):om'.call (.fn 12) [.agg [slv 3 true m.nS (m.sens.map aa9.cells),slv 4 false m.nV (m.votes.map aaQ.cells),slv 5 false m.nM (m.moves.map aaP.cells),.int .i64 m.states,.int .i64 m.cmds,.int .i64 m.bgn,slv 1 true m.nO (m.opn.map iv)]] []=some (.ret (.bool (amN m)),[]):=by
 have l1:decide ((m.sens.length:Int)≤10)=decide (m.sens.length≤10):=by rw[decide_eq_decide];omega
 have l2:decide ((m.votes.length:Int)≤10)=decide (m.votes.length≤10):=by rw[decide_eq_decide];omega
 have l3:decide ((m.moves.length:Int)≤30)=decide (m.moves.length≤30):=by rw[decide_eq_decide];omega
 have l4:decide ((m.opn.length:Int)≤20)=decide (m.opn.length≤20):=by rw[decide_eq_decide];omega
 (refine ce Try.func12 ?_;simp only[Try.f12];(have hb:=trivial;with_reducible repeat' (first|simp only[hb,Vc.down,seval,amX.down,aaJ]|refine fsp ?_ ?_<;>intro hb|refine fd ?_|fail)))
 refine ac5 (lst 57 m.votes (fun i (zz:Unit) t h=>t 1=.ptr 0 0 0∧t 3=.int .i64 i∧(h=[.live 7 false false [[slv 3 true m.nS (m.sens.map aa9.cells),slv 4 false m.nV (m.votes.map aaQ.cells),slv 5 false m.nM (m.moves.map aaP.cells),.int .i64 m.states,.int .i64 m.cmds,.int .i64 m.bgn,slv 1 true m.nO (m.opn.map iv)]]])) (fun rest zz=>rest.all (fun v=>decide (v.sens.length≤10))) (fun r e t h=>(if r=true then e=.exit 0∧t 1=.ptr 0 0 0∧h=[.live 7 false false [[slv 3 true m.nS (m.sens.map aa9.cells),slv 4 false m.nV (m.votes.map aaQ.cells),slv 5 false m.nM (m.moves.map aaP.cells),.int .i64 m.states,.int .i64 m.cmds,.int .i64 m.bgn,slv 1 true m.nO (m.opn.map iv)]]]else e=.ret∧t 2=.bool false)) ?_ ?_ () _ _ ?_) (fun e t h hk=>?_)
 ·rintro _ t h Q' kQ ⟨h1,h3,rfl⟩
  (have hb:=trivial;with_reducible repeat' (first|simp only[hb,Vc.down,seval,amX.down,h1,h3,aaK,decide_false,aaJ]|refine fsp ?_ ?_<;>intro hb|refine fd ?_|fail))
  exact kQ _ _ _ (by rw[if_pos (by rfl)];exact⟨rfl,by simp[up,h1],rfl⟩)
 ·rintro x rest i _ t h J Q' kJ kQ hx hi ⟨h1,h3,rfl⟩
  have hd:decide ((i:Int)<(m.votes.length:Int))=true:=decide_eq_true (by omega)
  have hw:=aaW hi hs.votes
  have lx:decide ((10:Int)<(x.sens.length:Int))= !decide (x.sens.length≤10):=by rw[←decide_not,decide_eq_decide];omega
  cases c1:decide (x.sens.length≤10)with
  |false=>
   (have hb:=trivial;with_reducible repeat' (first|simp only[hb,Vc.down,seval,amX.down,h1,h3,hd,hx,hw,lx,c1,aaQ.cells,aaJ]|refine fsp ?_ ?_<;>intro hb|refine fd ?_|fail))
   exact kQ _ _ _ (by rw[if_neg (by simp only[acC,c1,acI];simp)];exact⟨rfl,by simp[up]⟩)
  |true=>
   (have hb:=trivial;with_reducible repeat' (first|simp only[hb,Vc.down,seval,amX.down,h1,h3,hd,hx,hw,lx,c1,aaQ.cells,aaJ]|refine fsp ?_ ?_<;>intro hb|refine fd ?_|fail))
   (refine abX (kJ _ _ () ⟨?_,?_,rfl⟩ ?_);(simp[up,h1]);(simp[up]);(simp only[acC,c1,acH]))
 ·exact⟨by simp[up,ent],by simp[up],rfl⟩
 split at hk
 rotate_left
 ·obtain⟨rfl,h2⟩:=hk
  rename_i hr1
  (have hb:=trivial;with_reducible repeat' (first|simp only[hb,Vc.down,seval,amX.down,h2]|refine fsp ?_ ?_<;>intro hb|refine fd ?_|fail))
  all_goals simp[amN,ab2.2 hr1]
 obtain⟨rfl,h1,rfl⟩:=hk
 rename_i hr1
 (have hb:=trivial;with_reducible repeat' (first|simp only[hb,Vc.down,seval,amX.down,h1,aaJ]|refine fsp ?_ ?_<;>intro hb|refine fd ?_|fail))
 refine ac5 (lst 57 m.moves (fun i (zz:Unit) t h=>t 1=.ptr 0 0 0∧t 4=.int .i64 i∧(h=[.live 7 false false [[slv 3 true m.nS (m.sens.map aa9.cells),slv 4 false m.nV (m.votes.map aaQ.cells),slv 5 false m.nM (m.moves.map aaP.cells),.int .i64 m.states,.int .i64 m.cmds,.int .i64 m.bgn,slv 1 true m.nO (m.opn.map iv)]]])) (fun rest zz=>rest.all (fun x=>decide (x.wants.length≤10))) (fun r e t h=>(if r=true then e=.exit 2∧t 1=.ptr 0 0 0∧h=[.live 7 false false [[slv 3 true m.nS (m.sens.map aa9.cells),slv 4 false m.nV (m.votes.map aaQ.cells),slv 5 false m.nM (m.moves.map aaP.cells),.int .i64 m.states,.int .i64 m.cmds,.int .i64 m.bgn,slv 1 true m.nO (m.opn.map iv)]]]else e=.ret∧t 2=.bool false)) ?_ ?_ () _ _ ?_) (fun e t h hk=>?_)
 ·rintro _ t h Q' kQ ⟨h1,h4,rfl⟩
  (have hb:=trivial;with_reducible repeat' (first|simp only[hb,Vc.down,seval,amX.down,h1,h4,aaK,decide_false,aaJ]|refine fsp ?_ ?_<;>intro hb|refine fd ?_|fail))
  exact kQ _ _ _ (by rw[if_pos (by rfl)];exact⟨rfl,by simp[up,h1],rfl⟩)
 ·rintro x rest i _ t h J Q' kJ kQ hx hi ⟨h1,h4,rfl⟩
  have hd:decide ((i:Int)<(m.moves.length:Int))=true:=decide_eq_true (by omega)
  have hw:=aaW hi hs.moves
  have lx:decide ((10:Int)<(x.wants.length:Int))= !decide (x.wants.length≤10):=by rw[←decide_not,decide_eq_decide];omega
  cases c1:decide (x.wants.length≤10)with
  |false=>
   (have hb:=trivial;with_reducible repeat' (first|simp only[hb,Vc.down,seval,amX.down,h1,h4,hd,hx,hw,lx,c1,aaP.cells,aaJ]|refine fsp ?_ ?_<;>intro hb|refine fd ?_|fail))
   exact kQ _ _ _ (by rw[if_neg (by simp only[acC,c1,acI];simp)];exact⟨rfl,by simp[up]⟩)
  |true=>
   (have hb:=trivial;with_reducible repeat' (first|simp only[hb,Vc.down,seval,amX.down,h1,h4,hd,hx,hw,lx,c1,aaP.cells,aaJ]|refine fsp ?_ ?_<;>intro hb|refine fd ?_|fail))
   (refine abX (kJ _ _ () ⟨?_,?_,rfl⟩ ?_);(simp[up,h1]);(simp[up]);(simp only[acC,c1,acH]))
 ·exact⟨by simp[up,ent,h1],by simp[up],rfl⟩
 split at hk
 rotate_left
 ·obtain⟨rfl,h2⟩:=hk
  rename_i hr2
  (have hb:=trivial;with_reducible repeat' (first|simp only[hb,Vc.down,seval,amX.down,h2]|refine fsp ?_ ?_<;>intro hb|refine fd ?_|fail))
  all_goals simp[amN,ab2.2 hr2]
 obtain⟨rfl,h1,rfl⟩:=hk
 rename_i hr2
 (have hb:=trivial;with_reducible repeat' (first|simp only[hb,Vc.down,seval,amX.down,h1,aaJ,l1,l2,l3,l4]|refine fsp ?_ ?_<;>intro hb|refine fd ?_|fail))
 all_goals (refine congrArg (fun b=>(Out.ret (AV.bool b),([]:aaA))) ?_;symm;((try simp only[ahP,ac8,afE]at *);simp only[amN, *,aiP,acI,Bool.and_true,acH,Bool.and_self,Bool.not_not,ac8,afE,acC,List.all_nil]))
theorem aqF{α:Type}{d:List AV→Option α}{f:α→List AV}(hd:∀cs x,d cs=some x→cs=f x):∀{rows:List (List AV)} {l:List α},abI d rows=some l→rows=l.map f
 | [],l,h=>by simp[abI]at h;subst h;rfl
 |r::rows,l,h=>by
  simp only[abI,acR,acV]at h
  obtain⟨x,h1,l',h2,rfl⟩:=h
  rw[hd r x h1,aqF hd h2];rfl
def dSl{α:Type}(n:Nat)(fl:Bool)(d:List AV→Option α):AV→Option (Bool × List α)
 | .nils=>some (false,[])
 | .imm n' fl' rows=>if n'=n∧fl'=fl then(abI d rows).map fun l=>(true,l)else none
 |_=>none
theorem ajG{α:Type}{n:Nat}{fl:Bool}{d:List AV→Option α}{f:α→List AV}(hd:∀cs x,d cs=some x→cs=f x){v:AV}{x:Bool × List α}(h:dSl n fl d v=some x):v=slv n fl x.1 (x.2.map f):=by
 unfold dSl at h
 split at h
 ·cases h;rfl
 ·split at h
  ·rename_i hq
   obtain⟨rfl,rfl⟩:=hq
   obtain⟨l,h1,rfl⟩:=acV.1 h
   rw[aqF hd h1]
   cases l<;>rfl
  ·cases h
 ·cases h
def azR:List AV→Option Int
 | [.int .i64 a]=>some a
 |_=>none
theorem ao6(cs:List AV)(x:Int)(h:azR cs=some x):cs=iv x:=by
 unfold azR at h
 split at h
 ·cases h;rfl
 ·cases h
def aEE:List AV→Option aa9
 | [.int .i64 a,.int .i64 b,.bool c]=>some ⟨a,b,c⟩
 |_=>none
theorem aA9(cs:List AV)(x:aa9)(h:aEE cs=some x):cs=x.cells:=by
 unfold aEE at h
 split at h
 ·cases h;rfl
 ·cases h
def ay4:List AV→Option aaQ
 | [l,.int .i64 a,.int .i64 b,.bool c]=>(dSl 1 true azR l).map fun x=>⟨x.1,x.2,a,b,c⟩
 |_=>none
theorem ay3(cs:List AV)(x:aaQ)(h:ay4 cs=some x):cs=x.cells:=by
 unfold ay4 at h
 split at h
 ·obtain⟨y,h1,rfl⟩:=acV.1 h
  rw[ajG ao6 h1];rfl
 ·cases h
def ayC:List AV→Option aaR
 | [.int .i64 a,.bool c]=>some ⟨a,c⟩
 |_=>none
theorem axJ(cs:List AV)(x:aaR)(h:ayC cs=some x):cs=x.cells:=by
 unfold ayC at h
 split at h
 ·cases h;rfl
 ·cases h
def awZ:List AV→Option aaP
 | [.int .i64 a,.int .i64 b,l,.int .i64 c,.int .i64 d]=>(dSl 2 true ayC l).map fun x=>⟨a,b,x.1,x.2,c,d⟩
 |_=>none
theorem awM(cs:List AV)(x:aaP)(h:awZ cs=some x):cs=x.cells:=by
 unfold awZ at h
 split at h
 ·obtain⟨y,h1,rfl⟩:=acV.1 h
  rw[ajG axJ h1];rfl
 ·cases h
def arH:List AV→Option aa8
 | [s,v,x,.int .i64 a,.int .i64 b,.int .i64 c,o]=>(dSl 3 true aEE s).bind fun s=>(dSl 4 false ay4 v).bind fun v=>(dSl 5 false awZ x).bind fun x=>(dSl 1 true azR o).map fun o=>⟨s.1,s.2,v.1,v.2,x.1,x.2,a,b,c,o.1,o.2⟩
 |_=>none
theorem al7(cs:List AV)(x:aa8)(h:arH cs=some x):cs=x.cells:=by
 unfold arH at h
 split at h
 ·simp only[acR,acV]at h
  obtain⟨s,h1,v,h2,y,h3,o,h4,rfl⟩:=h
  rw[ajG aA9 h1,ajG ay3 h2,ajG awM h3,ajG ao6 h4]
 ·cases h
def am1(m:aa8):Bool:=decide (m.sens.length≤1000)&&decide (m.votes.length≤1000)&&decide (m.moves.length≤1000)&&decide (m.opn.length≤1000)&&m.votes.all (fun v=>decide (v.sens.length≤1000))&&m.moves.all (fun x=>decide (x.wants.length≤1000))
theorem akY{m:aa8}(h:am1 m=true):m.small:=by
 simp only[am1,abL,decide_eq_true_eq,acJ]at h
 obtain⟨⟨⟨⟨⟨a,b⟩,c⟩,d⟩,e⟩,f⟩:=h
 exact⟨by unfold maxLen;omega,by unfold maxLen;omega,by unfold maxLen;omega,by unfold maxLen;omega,fun v hv=>by have:=e v hv;unfold maxLen;omega,fun v hv=>by have:=f v hv;unfold maxLen;omega⟩
def ayK:List AV→aaA→Option (Out × aaA)
 | [.agg cs],[]=>(arH cs).bind fun m=>if am1 m=true then some (.ret (.bool (acX m)),[])else none
 |_,_=>none
def aCV:List AV→aaA→Option (Out × aaA)
 | [.agg cs,.agg [.int .i64 st,.int .i64 ag],.agg [.int .i64 bits,.int .i64 com]],[]=>(arH cs).bind fun m=>if(am1 m&&m.moves.all fun x=>x.wants.all fun w=>decide (0≤w.vote))=true then
     (match ae3 st ag bits com m.moves with
       |(a,b)=>some (.ret (.agg [.int .i64 a,.int .i64 b]),[]))else none
 |_,_=>none
def azM:List AV→aaA→Option (Out × aaA)
 | [.agg cs,l],[]=>(arH cs).bind fun m=>(dSl 1 true azR l).bind fun l=>if(am1 m&&decide (l.2.length=m.sens.length)&&m.votes.all fun v=>v.sens.all fun k=>decide (0≤k)&&decide (k.toNat<m.sens.length))=true then
     some (.ret (.int .i64 (agK m l.2 m.votes 0 0)),[])else none
 |_,_=>none
def pr2:adC:=⟨fun f=>if f=42 then some ayK else if f=45 then some aCV else if f=46 then some azM else pr f,pr.md⟩
theorem akJ:∀f p,pr2 f=some p→∀a h r,p a h=some r→om'.call (.fn f) a h=some r:=by
 intro f p hp a h r hr
 simp only[pr2]at hp
 split at hp
 ·rename_i hf
  subst hf
  cases hp
  unfold ayK at hr
  split at hr
  ·rename_i cs
   obtain⟨s,h1,h2⟩:=acR.1 hr
   split at h2
   ·rename_i hs
    cases h2
    rw[al7 _ _ h1]
    exact as8 s (akY hs)
   ·cases h2
  ·cases hr
 ·split at hp
  ·rename_i hf
   subst hf
   cases hp
   unfold aCV at hr
   split at hr
   ·rename_i cs st ag bits com
    obtain⟨s,h1,h2⟩:=acR.1 hr
    split at h2
    ·rename_i hs
     simp only[abL,acJ,decide_eq_true_eq]at hs
     cases h2
     rw[al7 _ _ h1]
     exact axA s st ag bits com (akY hs.1) hs.2
    ·cases h2
   ·cases hr
  ·split at hp
   ·rename_i hf
    subst hf
    cases hp
    unfold azM at hr
    split at hr
    ·rename_i cs l
     simp only[acR]at hr
     obtain⟨s,h1,y,h2,h3⟩:=hr
     split at h3
     ·rename_i hs
      simp only[abL,acJ,decide_eq_true_eq]at hs
      cases h3
      rw[al7 _ _ h1,ajG ao6 h2]
      exact atS s hs.1.2 (akY hs.1.1) (fun v hv k hk=>hs.2 v hv k hk)
     ·cases h3
    ·cases hr
   ·cases hp
end Go.Proofs.Ytfkokgjfpojeoaa
