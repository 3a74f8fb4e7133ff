/- The functions of the layer, walked. -/
import Derived.Test.YtfkokgjfpojeoaaPartAA
import Derived.Test.YtfkokgjfpojeoaaLibD
open List renaming length_map→abJ,mem_of_getElem?→acX,all_cons→aeF,all_eq_true→aeM,getElem?_eq_some_iff→aeQ,length_set→ahQ,all_eq_not_any_not→ah6,getElem?_eq_getElem→aiA,length_eq_zero_iff→aiY,getElem?_set_self→amG
open Int renaming lt_irrefl→abT
open Bool renaming and_eq_true→ac9,eq_false_iff→ad5,true_and→aeK,false_and→aeL,not_true→afA,not_false→ahM,eq_iff_iff→ahR,not_eq_eq_eq_not→ajO,and_false→akO
open Option renaming bind_eq_some_iff→aeT,map_eq_some_iff→aeZ
set_option linter.unusedSimpArgs false
set_option linter.unusedVariables false
namespace Go.Proofs.Ytfkokgjfpojeoaa
open Go.Ev Go
set_option maxRecDepth 100000
set_option maxHeartbeats 16000000
theorem av7(m:acZ)(hs:m.small):om'.call (.fn 15) [.agg [slv 3 true m.nS (m.sens.map ac3.cells),slv 4 false m.nV (m.votes.map acO.cells),slv 5 false m.nM (m.moves.map acN.cells),.int .i64 m.states,.int .i64 m.cmds,.int .i64 m.bgn,slv 1 true m.nO (m.opn.map iv)]] []=some (.ret (.bool (ae0 m)),[]):=by
 have l1:decide ((6:Int)<(m.sens.length:Int))= !decide (m.sens.length≤6):=by rw[←decide_not,decide_eq_decide];omega
 have l2:decide ((6:Int)<(m.votes.length:Int))= !decide (m.votes.length≤6):=by rw[←decide_not,decide_eq_decide];omega
 have l3:decide ((20:Int)<(m.moves.length:Int))= !decide (m.moves.length≤20):=by rw[←decide_not,decide_eq_decide];omega
 have sen:∀x:ac3,auA x=(!decide (x.lo < -10000)&& !decide (x.hi<x.lo)&& !decide (10000<x.hi)):=fun x=>by
  rw[ahR];simp[auA,amS,inB];omega
 (refine ce Try.func15 ?_;simp only[Try.f15];(have hb:=trivial;with_reducible repeat' (first|simp only[hb,Vc.down,seval,ajQ.down,abJ]|refine fsp ?_ ?_<;>intro hb|refine fd ?_|fail)))
 refine ae4 (lst 126 m.sens (fun i (zz:Unit) t h=>t 1=.ptr 0 0 0∧t 3=.int .i64 i∧(h[0]?=some (.live 7 false false [[slv 3 true m.nS (m.sens.map ac3.cells),slv 4 false m.nV (m.votes.map acO.cells),slv 5 false m.nM (m.moves.map acN.cells),.int .i64 m.states,.int .i64 m.cmds,.int .i64 m.bgn,slv 1 true m.nO (m.opn.map iv)]]))) (fun rest zz=>rest.all auA) (fun r e t h=>(if r=true then e=.exit 0∧t 1=.ptr 0 0 0∧h[0]?=some (.live 7 false false [[slv 3 true m.nS (m.sens.map ac3.cells),slv 4 false m.nV (m.votes.map acO.cells),slv 5 false m.nM (m.moves.map acN.cells),.int .i64 m.states,.int .i64 m.cmds,.int .i64 m.bgn,slv 1 true m.nO (m.opn.map iv)]])else e=.ret∧t 2=.bool false)) ?_ ?_ () _ _ ?_) (fun e t h hk=>?_)
 ·rintro _ t h Q' kQ ⟨h1,h3,hA⟩
  (have hb:=trivial;with_reducible repeat' (first|simp only[hb,Vc.down,seval,ajQ.down,h1,h3,abT,decide_false,hA,abJ]|refine fsp ?_ ?_<;>intro hb|refine fd ?_|fail))
  exact kQ _ _ _ (by rw[if_pos (by rfl)];exact⟨rfl,by simp[up,h1],hA⟩)
 ·rintro x rest i _ t h J Q' kJ kQ hx hi ⟨h1,h3,hA⟩
  have hd:decide ((i:Int)<(m.sens.length:Int))=true:=decide_eq_true (by omega)
  have hw:=acT hi hs.sens
  have hA1:=adK hA
  (have hb:=trivial;with_reducible repeat' (first|simp only[hb,Vc.down,seval,ajQ.down,h1,h3,hd,hx,hw,hA,hA1,ac3.cells,abJ]|refine fsp ?_ ?_<;>intro hb|refine fd ?_|fail))
  all_goals first
   |exact kQ _ _ _ (by rw[if_neg (by simp_all)];exact⟨rfl,by simp[up]⟩)
   |(refine adY (kJ _ _ () ⟨?_,?_,hA1 _⟩ ?_);(simp[up,h1]);(simp[up]);(simp_all))
 ·exact⟨by simp[up,ent],by simp[up],rfl⟩
 split at hk
 rotate_left
 ·obtain⟨rfl,h2⟩:=hk
  rename_i hr1
  (have hb:=trivial;with_reducible repeat' (first|simp only[hb,Vc.down,seval,ajQ.down,h2]|refine fsp ?_ ?_<;>intro hb|refine fd ?_|fail))
  all_goals simp[ae0,ad5.2 hr1]
 obtain⟨rfl,h1,hA⟩:=hk
 rename_i hr1
 have hA1:=adK hA
 (have hb:=trivial;with_reducible repeat' (first|simp only[hb,Vc.down,seval,ajQ.down,h1,hA,hA1,abJ]|refine fsp ?_ ?_<;>intro hb|refine fd ?_|fail))
 refine ae4 (lst 126 m.votes (fun i (zz:Unit) t h=>t 1=.ptr 0 0 0∧t 5=.int .i64 i∧(h[0]?=some (.live 7 false false [[slv 3 true m.nS (m.sens.map ac3.cells),slv 4 false m.nV (m.votes.map acO.cells),slv 5 false m.nM (m.moves.map acN.cells),.int .i64 m.states,.int .i64 m.cmds,.int .i64 m.bgn,slv 1 true m.nO (m.opn.map iv)]]))) (fun rest zz=>rest.all (al3 m.sens.length)) (fun r e t h=>(if r=true then e=.exit 2∧t 1=.ptr 0 0 0∧h[0]?=some (.live 7 false false [[slv 3 true m.nS (m.sens.map ac3.cells),slv 4 false m.nV (m.votes.map acO.cells),slv 5 false m.nM (m.moves.map acN.cells),.int .i64 m.states,.int .i64 m.cmds,.int .i64 m.bgn,slv 1 true m.nO (m.opn.map iv)]])else e=.ret∧t 2=.bool false)) ?_ ?_ () _ _ ?_) (fun e t h hk=>?_)
 ·rintro _ t h Q' kQ ⟨h1,h5,hA⟩
  (have hb:=trivial;with_reducible repeat' (first|simp only[hb,Vc.down,seval,ajQ.down,h1,h5,abT,decide_false,hA,abJ]|refine fsp ?_ ?_<;>intro hb|refine fd ?_|fail))
  exact kQ _ _ _ (by rw[if_pos (by rfl)];exact⟨rfl,by simp[up,h1],hA⟩)
 ·rintro x rest i _ t h J Q' kJ kQ hx hi ⟨h1,h5,hA⟩
  have hd:decide ((i:Int)<(m.votes.length:Int))=true:=decide_eq_true (by omega)
  have hw:=acT hi hs.votes
  have hA1:=adK hA
  have hV:=aEY x m.sens.length (hs.vs x (acX hx))
  (have hb:=trivial;with_reducible repeat' (first|simp only[hb,Vc.down,seval,ajQ.down,h1,h5,hd,hx,hw,hA,hA1,hV,acO.cells,abJ]|refine fsp ?_ ?_<;>intro hb|refine fd ?_|fail))
  all_goals first
   |exact kQ _ _ _ (by rw[if_neg (by simp_all)];exact⟨rfl,by simp[up]⟩)
   |(refine adY (kJ _ _ () ⟨?_,?_,hA⟩ ?_);(simp[up,h1]);(simp[up]);(simp_all))
 ·exact⟨by simp[up,ent,h1],by simp[up],hA⟩
 split at hk
 rotate_left
 ·obtain⟨rfl,h2⟩:=hk
  rename_i hr2
  (have hb:=trivial;with_reducible repeat' (first|simp only[hb,Vc.down,seval,ajQ.down,h2]|refine fsp ?_ ?_<;>intro hb|refine fd ?_|fail))
  all_goals simp[ae0,ad5.2 hr2]
 obtain⟨rfl,h1,hA⟩:=hk
 rename_i hr2
 have hA1:=adK hA
 cases hp:aj9 m with
 |false=>
  have hp':ae0 m=false:=by simp[ae0,hp]
  rw[hp']
  (have hb:=trivial;with_reducible repeat' (first|simp only[hb,Vc.down,seval,ajQ.down,h1,hA,hA1,abJ,aoH,l1,l2,l3]|refine fsp ?_ ?_<;>intro hb|refine fd ?_|fail))
  all_goals first
   |rfl
   |(exfalso;simp_all[aj9];done)
 |true=>
  have hp':=hp
  simp only[aj9,ac9]at hp'
  obtain⟨⟨⟨⟨⟨⟨p1,p2⟩,p3⟩,p4⟩,p5⟩,p6⟩,p7⟩:=hp'
  (have hb:=trivial;with_reducible repeat' (first|simp only[hb,Vc.down,seval,ajQ.down,h1,hA,hA1,abJ,aoH,l1,l2,l3,p1,p2,p3,p4,p5,p6,p7]|refine fsp ?_ ?_<;>intro hb|refine fd ?_|fail))
  refine ae4 (lst 126 m.opn (fun i (zz:Unit) t h=>t 1=.ptr 0 0 0∧t 6=.int .i64 i∧(h[0]?=some (.live 7 false false [[slv 3 true m.nS (m.sens.map ac3.cells),slv 4 false m.nV (m.votes.map acO.cells),slv 5 false m.nM (m.moves.map acN.cells),.int .i64 m.states,.int .i64 m.cmds,.int .i64 m.bgn,slv 1 true m.nO (m.opn.map iv)]]))) (fun rest zz=>rest.all (fun n=>inB n 0 255)) (fun r e t h=>(if r=true then e=.exit 4∧t 1=.ptr 0 0 0∧h[0]?=some (.live 7 false false [[slv 3 true m.nS (m.sens.map ac3.cells),slv 4 false m.nV (m.votes.map acO.cells),slv 5 false m.nM (m.moves.map acN.cells),.int .i64 m.states,.int .i64 m.cmds,.int .i64 m.bgn,slv 1 true m.nO (m.opn.map iv)]])else e=.ret∧t 2=.bool false)) ?_ ?_ () _ _ ?_) (fun e t h hk=>?_)
  ·rintro _ t h Q' kQ ⟨h1,h6,hA⟩
   (have hb:=trivial;with_reducible repeat' (first|simp only[hb,Vc.down,seval,ajQ.down,h1,h6,abT,decide_false,hA,abJ]|refine fsp ?_ ?_<;>intro hb|refine fd ?_|fail))
   exact kQ _ _ _ (by rw[if_pos (by rfl)];exact⟨rfl,by simp[up,h1],hA⟩)
  ·rintro x rest i _ t h J Q' kJ kQ hx hi ⟨h1,h6,hA⟩
   have hd:decide ((i:Int)<(m.opn.length:Int))=true:=decide_eq_true (by omega)
   have hw:=acT hi hs.opn
   have hA1:=adK hA
   (have hb:=trivial;with_reducible repeat' (first|simp only[hb,Vc.down,seval,ajQ.down,h1,h6,hd,hx,hw,hA,hA1,aoH,iv,abJ]|refine fsp ?_ ?_<;>intro hb|refine fd ?_|fail))
   all_goals first
    |exact kQ _ _ _ (by rw[if_neg (by simp_all)];exact⟨rfl,by simp[up]⟩)
    |(refine adY (kJ _ _ () ⟨?_,?_,hA⟩ ?_);(simp[up,h1]);(simp[up]);(simp_all))
  ·exact⟨by simp[up,ent,h1],by simp[up],hA⟩
  split at hk
  rotate_left
  ·obtain⟨rfl,h2⟩:=hk
   rename_i hr3
   (have hb:=trivial;with_reducible repeat' (first|simp only[hb,Vc.down,seval,ajQ.down,h2]|refine fsp ?_ ?_<;>intro hb|refine fd ?_|fail))
   all_goals simp[ae0,ad5.2 hr3]
  obtain⟨rfl,h1,hA⟩:=hk
  rename_i hr3
  have hA1:=adK hA
  (have hb:=trivial;with_reducible repeat' (first|simp only[hb,Vc.down,seval,ajQ.down,h1,hA,hA1,abJ]|refine fsp ?_ ?_<;>intro hb|refine fd ?_|fail))
  refine ae4 (lst 126 m.moves (fun i (zz:Unit) t h=>t 1=.ptr 0 0 0∧t 7=.int .i64 i∧(h[0]?=some (.live 7 false false [[slv 3 true m.nS (m.sens.map ac3.cells),slv 4 false m.nV (m.votes.map acO.cells),slv 5 false m.nM (m.moves.map acN.cells),.int .i64 m.states,.int .i64 m.cmds,.int .i64 m.bgn,slv 1 true m.nO (m.opn.map iv)]]))) (fun rest zz=>rest.all (aiL m)) (fun r e t h=>(if r=true then e=.exit 6 else e=.ret∧t 2=.bool false)) ?_ ?_ () _ _ ?_) (fun e t h hk=>?_)
  ·rintro _ t h Q' kQ ⟨h1,h7,hA⟩
   (have hb:=trivial;with_reducible repeat' (first|simp only[hb,Vc.down,seval,ajQ.down,h1,h7,abT,decide_false,hA,abJ]|refine fsp ?_ ?_<;>intro hb|refine fd ?_|fail))
   exact kQ _ _ _ (by rw[if_pos (by rfl)])
  ·rintro x rest i _ t h J Q' kJ kQ hx hi ⟨h1,h7,hA⟩
   have hd:decide ((i:Int)<(m.moves.length:Int))=true:=decide_eq_true (by omega)
   have hw:=acT hi hs.moves
   have hA1:=adK hA
   have hM:=aFW m x (hs.ws x (acX hx))
   (have hb:=trivial;with_reducible repeat' (first|simp only[hb,Vc.down,seval,ajQ.down,h1,h7,hd,hx,hw,hA,hA1,hM,acN.cells,abJ]|refine fsp ?_ ?_<;>intro hb|refine fd ?_|fail))
   all_goals first
    |exact kQ _ _ _ (by rw[if_neg (by simp_all)];exact⟨rfl,by simp[up]⟩)
    |(refine adY (kJ _ _ () ⟨?_,?_,hA⟩ ?_);(simp[up,h1]);(simp[up]);(simp_all))
  ·exact⟨by simp[up,ent,h1],by simp[up],hA⟩
  split at hk
  ·subst hk
   rename_i hr4
   (have hb:=trivial;with_reducible repeat' (first|simp only[hb,Vc.down,seval,ajQ.down]|refine fsp ?_ ?_<;>intro hb|refine fd ?_|fail))
   all_goals simp[ae0,hp,hr1,hr2,hr3,hr4]
  ·obtain⟨rfl,h2⟩:=hk
   rename_i hr4
   (have hb:=trivial;with_reducible repeat' (first|simp only[hb,Vc.down,seval,ajQ.down,h2]|refine fsp ?_ ?_<;>intro hb|refine fd ?_|fail))
   all_goals simp[ae0,ad5.2 hr4]
def amF(m:acZ)(l:List Int):Bool:=((l.length:Int)==(m.sens.length:Int))&&l.all amS
def alQ(m:acZ)(s:aiO):Bool:=amF m s.reads&&inB s.cmd (-1) (IntKind.i64.wrap (m.cmds-1))
theorem aE1(m:acZ){l:List Int}{nn:Bool}(hl:l.length≤maxLen):om'.call (.fn 62) [.agg [slv 3 true m.nS (m.sens.map ac3.cells),slv 4 false m.nV (m.votes.map acO.cells),slv 5 false m.nM (m.moves.map acN.cells),.int .i64 m.states,.int .i64 m.cmds,.int .i64 m.bgn,slv 1 true m.nO (m.opn.map iv)],slv 1 true nn (l.map iv)] []=some (.ret (.bool (amF m l)),[]):=by
 have hc:=aqU (l:=l) (nn:=nn) (g:=82) (cap:=[]) (p:=fun x=> !amS x) rfl rfl (fun x _=>aBK x) hl
 have q2:l.all amS= !(l.any fun x=> !amS x):=ah6
 (refine ce Try.func62 ?_;simp only[Try.f62];(have hb:=trivial;with_reducible repeat' (first|simp only[hb,Vc.down,seval,aLE.down,abJ,hc]|refine fsp ?_ ?_<;>intro hb|refine fd ?_|fail)))
 all_goals simp only[amF,q2,hb,aeK,aeL]
theorem auQ(m:acZ){l:List Int}{nn:Bool}(hl:l.length≤maxLen):om'.call (.fn 24) [.agg [slv 3 true m.nS (m.sens.map ac3.cells),slv 4 false m.nV (m.votes.map acO.cells),slv 5 false m.nM (m.moves.map acN.cells),.int .i64 m.states,.int .i64 m.cmds,.int .i64 m.bgn,slv 1 true m.nO (m.opn.map iv)],slv 1 true nn (l.map iv)] []=some (.ret (.bool (amF m l)),[]):=by
 (refine ce Try.func24 ?_;simp only[Try.f24];(have hb:=trivial;with_reducible repeat' (first|simp only[hb,Vc.down,seval,aAI.down,abJ]|refine fsp ?_ ?_<;>intro hb|refine fd ?_|fail)))
 refine ae4 (lst 24 l (fun i (zz:Unit) t h=>t 1=slv 1 true nn (l.map iv)∧t 2=.ptr 0 0 0∧t 5=.int .i64 i∧(h[0]?=some (.live 7 false false [[slv 3 true m.nS (m.sens.map ac3.cells),slv 4 false m.nV (m.votes.map acO.cells),slv 5 false m.nM (m.moves.map acN.cells),.int .i64 m.states,.int .i64 m.cmds,.int .i64 m.bgn,slv 1 true m.nO (m.opn.map iv)]]))) (fun rest zz=>rest.all amS) (fun r e t h=>(if r=true then e=.exit 0∧t 1=slv 1 true nn (l.map iv)∧t 2=.ptr 0 0 0∧h[0]?=some (.live 7 false false [[slv 3 true m.nS (m.sens.map ac3.cells),slv 4 false m.nV (m.votes.map acO.cells),slv 5 false m.nM (m.moves.map acN.cells),.int .i64 m.states,.int .i64 m.cmds,.int .i64 m.bgn,slv 1 true m.nO (m.opn.map iv)]])else e=.ret∧t 4=.bool false)) ?_ ?_ () _ _ ?_) (fun e t h hk=>?_)
 ·rintro _ t h Q' kQ ⟨h1,h2,h5,hA⟩
  (have hb:=trivial;with_reducible repeat' (first|simp only[hb,Vc.down,seval,aAI.down,h1,h2,h5,abT,decide_false,abJ]|refine fsp ?_ ?_<;>intro hb|refine fd ?_|fail))
  exact kQ _ _ _ (by rw[if_pos (by rfl)];exact⟨rfl,by simp[up,h1],by simp[up,h2],hA⟩)
 ·rintro x rest i _ t h J Q' kJ kQ hx hi ⟨h1,h2,h5,hA⟩
  have hd:decide ((i:Int)<(l.length:Int))=true:=decide_eq_true (by omega)
  have hw:=acT hi hl
  have hv:inB x (-10000) 10000=amS x:=rfl
  (have hb:=trivial;with_reducible repeat' (first|simp only[hb,Vc.down,seval,aAI.down,h1,h2,h5,hd,hx,hw,aoH,hv,iv,abJ]|refine fsp ?_ ?_<;>intro hb|refine fd ?_|fail))
  all_goals first
   |exact kQ _ _ _ (by rw[if_neg (by simp_all)];exact⟨rfl,by simp[up]⟩)
   |(refine adY (kJ _ _ () ⟨?_,?_,?_,hA⟩ ?_);(simp[up,h1]);(simp[up,h2]);(simp[up]);(simp_all))
 ·exact⟨by simp[up,ent],by simp[up,ent],by simp[up],rfl⟩
 split at hk
 ·obtain⟨rfl,h1,h2,hA⟩:=hk
  rename_i hr1
  have hA1:=adK hA
  (have hb:=trivial;with_reducible repeat' (first|simp only[hb,Vc.down,seval,aAI.down,h1,h2,hA,hA1,abJ]|refine fsp ?_ ?_<;>intro hb|refine fd ?_|fail))
  all_goals simp[amF,hr1]
 ·obtain⟨rfl,h2⟩:=hk
  rename_i hr1
  (have hb:=trivial;with_reducible repeat' (first|simp only[hb,Vc.down,seval,aAI.down,h2]|refine fsp ?_ ?_<;>intro hb|refine fd ?_|fail))
  all_goals simp[amF,ad5.2 hr1]
theorem awB(m:acZ)(s:aiO)(hl:s.reads.length≤maxLen):om'.call (.fn 44) [.agg [slv 3 true m.nS (m.sens.map ac3.cells),slv 4 false m.nV (m.votes.map acO.cells),slv 5 false m.nM (m.moves.map acN.cells),.int .i64 m.states,.int .i64 m.cmds,.int .i64 m.bgn,slv 1 true m.nO (m.opn.map iv)],.agg [slv 1 true s.nn (s.reads.map iv),.int .i64 s.cmd]] []=some (.ret (.bool (alQ m s)),[]):=by
 have hr:=aE1 m (nn:=s.nn) hl
 (refine ce Try.func44 ?_;simp only[Try.f44];(have hb:=trivial;with_reducible repeat' (first|simp only[hb,Vc.down,seval,aK2.down,hr,alB]|refine fsp ?_ ?_<;>intro hb|refine fd ?_|fail)))
 all_goals simp_all[alQ]
theorem aFL(m:acZ)(s:aiO)(hl:s.reads.length≤maxLen):om'.call (.fn 16) [.agg [slv 3 true m.nS (m.sens.map ac3.cells),slv 4 false m.nV (m.votes.map acO.cells),slv 5 false m.nM (m.moves.map acN.cells),.int .i64 m.states,.int .i64 m.cmds,.int .i64 m.bgn,slv 1 true m.nO (m.opn.map iv)],.agg [slv 1 true s.nn (s.reads.map iv),.int .i64 s.cmd]] []=some (.ret (.bool (alQ m s)),[]):=by
 have hr:=auQ m (nn:=s.nn) hl
 (refine ce Try.func16 ?_;simp only[Try.f16];(have hb:=trivial;with_reducible repeat' (first|simp only[hb,Vc.down,seval,aK4.down,hr,aoH]|refine fsp ?_ ?_<;>intro hb|refine fd ?_|fail)))
 all_goals simp_all[alQ]
def sAt(m:acZ)(k:Int):ac3:=m.sens.getD k.toNat ⟨0,0,false⟩
def rAt(l:List Int)(k:Int):Int:=l.getD k.toNat 0
theorem avL{m:acZ}{k:Int}(h:k.toNat<m.sens.length):m.sens[k.toNat]?=some (sAt m k):=by
 simp[sAt,List.getD,aiA h]
theorem auX{l:List Int}{k:Int}(h:k.toNat<l.length):l[k.toNat]?=some (rAt l k):=by
 simp[rAt,List.getD,aiA h]
def arL(m:acZ)(v:acO)(l:List Int):List Int→Int→Int
 | [],c=>c
 |k::ks,c=>arL m v l ks (if anI (sAt m k) v (rAt l k)=true then IntKind.i64.wrap (c+1)else c)
def al7(m:acZ)(l:List Int)(v:acO):Bool:=decide (v.need≤arL m v l v.sens 0)
def Idx(m:acZ)(l:List Int):Prop:=∀k∈l,0≤k∧k.toNat<m.sens.length
theorem avO{n:Nat}(hn:n≤6):∀{l:List Int} {p:Option Int},ai6 n l p=true→∀k∈l,0≤k∧k.toNat<n
 | [],_,_,k,h=>by cases h
 |x::l,p,h,k,hk=>by
  simp only[ai6,ac9]at h
  rcases List.mem_cons.1 hk with rfl|hk
  ·have:=h.1.1
   rw[ai7 (by omega) (by omega)]at this
   simp[inB]at this
   omega
  ·exact avO hn h.2 k hk
theorem atJ{m:acZ}(h:ae0 m=true):∀v∈m.votes,Idx m v.sens:=fun v hv=>by
 simp only[ae0,aj9,ac9,decide_eq_true_eq,aeM]at h
 have h2:=h.1.1.2 v hv
 simp only[al3,ac9]at h2
 exact avO h.1.1.1.1.1.1.1.1.1.1 h2.1.1
theorem aEQ(m:acZ)(v:acO)(k r:Int)(h0:0≤k)(hk:k.toNat<m.sens.length):om'.call (.fn 81) [.agg [slv 3 true m.nS (m.sens.map ac3.cells),slv 4 false m.nV (m.votes.map acO.cells),slv 5 false m.nM (m.moves.map acN.cells),.int .i64 m.states,.int .i64 m.cmds,.int .i64 m.bgn,slv 1 true m.nO (m.opn.map iv)],.agg [slv 1 true v.nn (v.sens.map iv),.int .i64 v.need,.int .i64 v.level,.bool v.above],.int .i64 k,.int .i64 r] []=some (.ret (.bool (anI (sAt m k) v r)),[]):=by
 have hs:=avL hk
 have h0':(0≤k)=True:=eq_true h0
 have e:anI (sAt m k) v r=(!(sAt m k).byp&&((decide (r<(sAt m k).lo)||decide ((sAt m k).hi<r))||((v.above&&decide (v.level≤r))||(!v.above&&decide (r≤v.level))))):=by
  have q:(!inB r (sAt m k).lo (sAt m k).hi)=(decide (r<(sAt m k).lo)||decide ((sAt m k).hi<r)):=by rw[ahR];simp[inB]<;>try omega
  unfold anI
  rw[q]
  cases v.above<;>simp
 rw[e]
 generalize sAt m k=s at hs
 (refine ce Try.func81 ?_;simp only[Try.f81];(have hb:=trivial;with_reducible repeat' (first|simp only[hb,Vc.down,seval,aK5.down,hs,h0',ac3.cells]|refine fsp ?_ ?_<;>intro hb|refine fd ?_|fail)))
 all_goals simp_all
theorem aI7(m:acZ)(v:acO){l:List Int}{nn:Bool}(hl:l.length=m.sens.length)(hv:v.sens.length≤maxLen)(hi:Idx m v.sens):om'.call (.fn 60) [.agg [slv 3 true m.nS (m.sens.map ac3.cells),slv 4 false m.nV (m.votes.map acO.cells),slv 5 false m.nM (m.moves.map acN.cells),.int .i64 m.states,.int .i64 m.cmds,.int .i64 m.bgn,slv 1 true m.nO (m.opn.map iv)],.agg [slv 1 true v.nn (v.sens.map iv),.int .i64 v.need,.int .i64 v.level,.bool v.above],slv 1 true nn (l.map iv)] []=some (.ret (.bool (al7 m l v)),[]):=by
 have hI:=hi
 clear hi
 (refine ce Try.func60 ?_;simp only[Try.f60];(have hb:=trivial;with_reducible repeat' (first|simp only[hb,Vc.down,seval,aCH.down,abJ]|refine fsp ?_ ?_<;>intro hb|refine fd ?_|fail)))
 refine ae4 (lst 38 v.sens (fun i (zz:Int) t h=>t 2=slv 1 true nn (l.map iv)∧t 3=.ptr 0 0 0∧t 4=.ptr 1 0 0∧t 8=.int .i64 i∧t 7=.int .i64 zz∧(h=[.live 7 false false [[slv 3 true m.nS (m.sens.map ac3.cells),slv 4 false m.nV (m.votes.map acO.cells),slv 5 false m.nM (m.moves.map acN.cells),.int .i64 m.states,.int .i64 m.cmds,.int .i64 m.bgn,slv 1 true m.nO (m.opn.map iv)]],.live 4 false false [[slv 1 true v.nn (v.sens.map iv),.int .i64 v.need,.int .i64 v.level,.bool v.above]]])) (fun rest zz=>arL m v l rest zz) (fun r e t h=>e=.exit 0∧t 4=.ptr 1 0 0∧t 7=.int .i64 r∧h=[.live 7 false false [[slv 3 true m.nS (m.sens.map ac3.cells),slv 4 false m.nV (m.votes.map acO.cells),slv 5 false m.nM (m.moves.map acN.cells),.int .i64 m.states,.int .i64 m.cmds,.int .i64 m.bgn,slv 1 true m.nO (m.opn.map iv)]],.live 4 false false [[slv 1 true v.nn (v.sens.map iv),.int .i64 v.need,.int .i64 v.level,.bool v.above]]]) ?_ ?_ (0) _ _ ?_) (fun e t h hk=>?_)
 ·rintro c t h Q' kQ ⟨h2,h3,h4,h8,h7,rfl⟩
  (have hb:=trivial;with_reducible repeat' (first|simp only[hb,Vc.down,seval,aCH.down,h2,h3,h4,h8,h7,abT,decide_false,abJ]|refine fsp ?_ ?_<;>intro hb|refine fd ?_|fail))
  exact kQ _ _ _ ⟨rfl,by simp[up,h4],by simp[up,h7,arL],rfl⟩
 ·rintro x rest i c t h J Q' kJ kQ hx hi ⟨h2,h3,h4,h8,h7,rfl⟩
  have hd:decide ((i:Int)<(v.sens.length:Int))=true:=decide_eq_true (by omega)
  have hw:=acT hi hv
  obtain⟨k0,k1⟩:=hI x (acX hx)
  have hrr:=auX (l:=l) (k:=x) (by omega)
  have h0':(0≤x)=True:=eq_true k0
  have hS:=aEQ m v x (rAt l x) k0 k1
  generalize hq:anI (sAt m x) v (rAt l x)=q at hS
  (have hb:=trivial;with_reducible repeat' (first|simp only[hb,Vc.down,seval,aCH.down,h2,h3,h4,h7,h8,hd,hx,hw,hrr,h0',hS,iv,abJ]|refine fsp ?_ ?_<;>intro hb|refine fd ?_|fail))
  all_goals (refine adY (kJ _ _ (if q=true then IntKind.i64.wrap (c+1)else c) ⟨?_,?_,?_,?_,?_,rfl⟩ ?_);(simp[up,h2]);(simp[up,h3]);(simp[up,h4]);(simp[up]);(simp[up,h7,hb]);(simp[arL,hq]))
 ·exact⟨by simp[up,ent],by simp[up,ent],by simp[up,ent],by simp[up],by simp[up,ent],rfl⟩
 obtain⟨rfl,h4,h7,rfl⟩:=hk
 (have hb:=trivial;with_reducible repeat' (first|simp only[hb,Vc.down,seval,aCH.down,h4,h7]|refine fsp ?_ ?_<;>intro hb|refine fd ?_|fail))
 rfl
def orN(a b:Int):Int:=IntKind.i64.wrap ((BitVec.ofInt 64 a|||BitVec.ofInt 64 b).toNat:Int)
theorem aH1(ty:TypeId)(a b:Int):agL Try.prog .or ty (.int .i64 a) (.int .i64 b)=some (.int .i64 (orN a b)):=by
 show(if IntKind.i64=IntKind.i64 then afS .or .i64 a b else none)=_
 rw[if_pos rfl];rfl
def aiU(m:acZ)(l:List Int):List acO→Nat→Int→Int
 | [],_,b=>b
 |v::vs,i,b=>aiU m l vs (i+1) (if al7 m l v=true then orN b (azE i)else b)
theorem au7(m:acZ){l:List Int}{nn:Bool}(hl:l.length=m.sens.length)(hs:m.small)(hi:∀v∈m.votes,Idx m v.sens):om'.call (.fn 46) [.agg [slv 3 true m.nS (m.sens.map ac3.cells),slv 4 false m.nV (m.votes.map acO.cells),slv 5 false m.nM (m.moves.map acN.cells),.int .i64 m.states,.int .i64 m.cmds,.int .i64 m.bgn,slv 1 true m.nO (m.opn.map iv)],slv 1 true nn (l.map iv)] []=some (.ret (.int .i64 (aiU m l m.votes 0 0)),[]):=by
 have hI:=hi
 clear hi
 (refine ce Try.func46 ?_;simp only[Try.f46];(have hb:=trivial;with_reducible repeat' (first|simp only[hb,Vc.down,seval,auM.down,abJ]|refine fsp ?_ ?_<;>intro hb|refine fd ?_|fail)))
 refine ae4 (lst 50 m.votes (fun i (zz:Nat × Int) t h=>t 1=slv 1 true nn (l.map iv)∧t 2=.ptr 0 0 0∧t 12=slv 4 false m.nV (m.votes.map acO.cells)∧t 13=.int .i64 m.votes.length∧t 14=.int .i64 i∧t 5=.int .i64 zz.2∧(h[0]?=some (.live 7 false false [[slv 3 true m.nS (m.sens.map ac3.cells),slv 4 false m.nV (m.votes.map acO.cells),slv 5 false m.nM (m.moves.map acN.cells),.int .i64 m.states,.int .i64 m.cmds,.int .i64 m.bgn,slv 1 true m.nO (m.opn.map iv)]])∧i=zz.1)) (fun rest zz=>aiU m l rest zz.1 zz.2) (fun r e t h=>e=.exit 0∧t 5=.int .i64 r) ?_ ?_ (0,0) _ _ ?_) (fun e t h hk=>?_)
 ·rintro⟨k,b⟩ t h Q' kQ ⟨h1,h2,h12,h13,h14,h5,⟨hA,rfl⟩⟩
  try dsimp only at *
  (have hb:=trivial;with_reducible repeat' (first|simp only[hb,Vc.down,seval,auM.down,h1,h2,h12,h13,h14,h5,abT,decide_false]|refine fsp ?_ ?_<;>intro hb|refine fd ?_|fail))
  exact kQ _ _ _ ⟨rfl,by simp[up,h5,aiU]⟩
 ·rintro x rest i ⟨k,b⟩ t h J Q' kJ kQ hx hi ⟨h1,h2,h12,h13,h14,h5,⟨hA,rfl⟩⟩
  have hd:decide ((i:Int)<(m.votes.length:Int))=true:=decide_eq_true (by omega)
  have hw:=acT hi hs.votes
  try dsimp only at *
  have hA1:=adK hA
  have hvs:=hs.vs x (acX hx)
  have hIx:=hI x (acX hx)
  obtain⟨w,rfl⟩:∃w,w=x:=⟨_,rfl⟩
  obtain⟨k,rfl⟩:∃k,k=i:=⟨_,rfl⟩
  obtain⟨hL,hLe⟩:∃hL,hL=h.length:=⟨_,rfl⟩
  (have hb:=trivial;with_reducible repeat' (first|simp only[hb,Vc.down,seval,auM.down,h1,h2,h12,h13,h14,h5,hd,hx,hw,hA1,acO.cells,abJ]|refine fsp ?_ ?_<;>intro hb|refine fd ?_|fail))
  refine ae4 (lst 50 w.sens (fun i (zz:Int) t h=>t 1=slv 1 true nn (l.map iv)∧t 2=.ptr 0 0 0∧t 12=slv 4 false m.nV (m.votes.map acO.cells)∧t 13=.int .i64 m.votes.length∧t 14=.int .i64 (k:Int)∧t 5=.int .i64 b∧t 6=.int .i64 (k:Int)∧t 7=.ptr hL 0 0∧t 20=slv 1 true w.nn (w.sens.map iv)∧t 21=.int .i64 w.sens.length∧t 22=.int .i64 i∧t 8=.int .i64 zz∧(h[0]?=some (.live 7 false false [[slv 3 true m.nS (m.sens.map ac3.cells),slv 4 false m.nV (m.votes.map acO.cells),slv 5 false m.nM (m.moves.map acN.cells),.int .i64 m.states,.int .i64 m.cmds,.int .i64 m.bgn,slv 1 true m.nO (m.opn.map iv)]])∧∃wf,h[hL]?=some (.live 4 false wf [[slv 1 true w.nn (w.sens.map iv),.int .i64 w.need,.int .i64 w.level,.bool w.above]]))) (fun rest zz=>arL m w l rest zz) (fun r e t h=>e=.exit 2∧t 1=slv 1 true nn (l.map iv)∧t 2=.ptr 0 0 0∧t 12=slv 4 false m.nV (m.votes.map acO.cells)∧t 13=.int .i64 m.votes.length∧t 14=.int .i64 (k:Int)∧t 5=.int .i64 b∧t 6=.int .i64 (k:Int)∧t 7=.ptr hL 0 0∧t 8=.int .i64 r∧h[0]?=some (.live 7 false false [[slv 3 true m.nS (m.sens.map ac3.cells),slv 4 false m.nV (m.votes.map acO.cells),slv 5 false m.nM (m.moves.map acN.cells),.int .i64 m.states,.int .i64 m.cmds,.int .i64 m.bgn,slv 1 true m.nO (m.opn.map iv)]])∧∃wf,h[hL]?=some (.live 4 false wf [[slv 1 true w.nn (w.sens.map iv),.int .i64 w.need,.int .i64 w.level,.bool w.above]])) ?_ ?_ (0) _ _ ?_) (fun e tC hC hk=>?_)
  ·rintro c t h Q' kQ ⟨h1,h2,h12,h13,h14,h5,h6,h7,h20,h21,h22,h8,⟨hA,wf,hB⟩⟩
   (have hb:=trivial;with_reducible repeat' (first|simp only[hb,Vc.down,seval,auM.down,h1,h2,h12,h13,h14,h5,h6,h7,h20,h21,h22,h8,abT,decide_false]|refine fsp ?_ ?_<;>intro hb|refine fd ?_|fail))
   exact kQ _ _ _ ⟨rfl,by simp[up,h1],by simp[up,h2],by simp[up,h12],by simp[up,h13],by simp[up,h14],by simp[up,h5],by simp[up,h6],by simp[up,h7],by simp[up,h8,arL],hA,wf,hB⟩
  ·rintro x rest i c t h J Q' kJ kQ hx hi ⟨h1,h2,h12,h13,h14,h5,h6,h7,h20,h21,h22,h8,⟨hA,wf,hB⟩⟩
   have hd:decide ((i:Int)<(w.sens.length:Int))=true:=decide_eq_true (by omega)
   have hw:=acT hi hvs
   obtain⟨k0,k1⟩:=hIx x (acX hx)
   have hrr:=auX (l:=l) (k:=x) (by omega)
   have hss:=avL k1
   have h0':(0≤x)=True:=eq_true k0
   have hS:=aEV (sAt m x) w (rAt l x)
   generalize hq:anI (sAt m x) w (rAt l x)=q at hS
   generalize sAt m x=s at hss hS
   (have hb:=trivial;with_reducible repeat' (first|simp only[hb,Vc.down,seval,auM.down,h1,h2,h7,h8,h20,h21,h22,hd,hx,hw,hrr,hss,h0',hA,hB,hS,iv,ac3.cells,abJ]|refine fsp ?_ ?_<;>intro hb|refine fd ?_|fail))
   all_goals (refine adY (kJ _ _ (if q=true then IntKind.i64.wrap (c+1)else c) ⟨?_,?_,?_,?_,?_,?_,?_,?_,?_,?_,?_,?_,⟨hA,wf,hB⟩⟩ ?_);(simp[up,h1]);(simp[up,h2]);(simp[up,h12]);(simp[up,h13]);(simp[up,h14]);(simp[up,h5]);(simp[up,h6]);(simp[up,h7]);(simp[up,h20]);(simp[up,h21]);(simp[up]);(simp[up,h8,hb]);(simp[arL,hq]))
  ·exact⟨by simp[up,ent,h1,h2,h12,h13,h14,h5,hLe],by simp[up,ent,h1,h2,h12,h13,h14,h5,hLe],by simp[up,ent,h1,h2,h12,h13,h14,h5,hLe],by simp[up,ent,h1,h2,h12,h13,h14,h5,hLe],by simp[up,ent,h1,h2,h12,h13,h14,h5,hLe],by simp[up,ent,h1,h2,h12,h13,h14,h5,hLe],by simp[up,ent,h1,h2,h12,h13,h14,h5,hLe],by simp[up,ent,h1,h2,h12,h13,h14,h5,hLe],by simp[up,ent,h1,h2,h12,h13,h14,h5,hLe],by simp[up,ent,h1,h2,h12,h13,h14,h5,hLe],by simp[up],by simp[up,ent,h1,h2,h12,h13,h14,h5,hLe],⟨hA1 _,true,by rw[hLe];simp⟩⟩
  ·obtain⟨rfl,h1,h2,h12,h13,h14,h5,h6,h7,h8,hA,wf,hB⟩:=hk
   have hy:decide (w.need≤arL m w l w.sens 0)=al7 m l w:=rfl
   (have hb:=trivial;with_reducible repeat' (first|simp only[hb,Vc.down,seval,auM.down,h1,h2,h12,h13,h14,h5,h6,h7,h8,hA,hB,hw,hy,aH1]|refine fsp ?_ ?_<;>intro hb|refine fd ?_|fail))
   all_goals (refine adY (kJ _ _ (k+1,(if al7 m l w=true then orN b (azE k)else b)) ⟨?_,?_,?_,?_,?_,?_,⟨hA,rfl⟩⟩ ?_);(simp[up,h1]);(simp[up,h2]);(simp[up,h12]);(simp[up,h13]);(simp[up]);(simp[up,h5,hb]);(simp[aiU]))
 ·exact⟨by simp[up,ent],by simp[up,ent],by simp[up,ent],by simp[up,ent],by simp[up],by simp[up,ent],⟨rfl,rfl⟩⟩
 obtain⟨rfl,h5⟩:=hk
 (have hb:=trivial;with_reducible repeat' (first|simp only[hb,Vc.down,seval,auM.down,h5]|refine fsp ?_ ?_<;>intro hb|refine fd ?_|fail))
def bv(b:Bool):List AV:=[.bool b]
theorem aB1{h:aaA}{b:Nat}(hb:b<h.length)(l:aaA)(c:CB):(h++l).set b c=h.set b c++l:=List.set_append_left _ _ hb
theorem aDX{h:aaA}{b:Nat}(c:CB)(l:aaA)(k:Nat):(h.set b c++l)[h.length+k]?=l[k]?:=by
 have:=avA (h.set b c) l k
 rwa[ahQ]at this
theorem aDT{h:aaA}{b b':Nat}{x:CB}(c:CB)(hne:b≠b')(hb:h[b']?=some x)(l:aaA):(h.set b c++l)[b']?=some x:=by
 rw[List.getElem?_append_left (by rw[ahQ];exact(aeQ.1 hb).1),List.getElem?_set_ne hne];exact hb
def aD6(v:AV)(i:Nat)(rows:List (List AV))(h:aaA):Prop:=(i=0∧v=.nils)∨(0<i∧∃b,0<b∧v=.slr 1 b 0 i∧h[b]?=some (.live 1 true false rows))
theorem aCK(m:acZ){l:List Int}{nn:Bool}(hl:l.length=m.sens.length)(hs:m.small)(h6:m.votes.length≤6)(hi:∀v∈m.votes,Idx m v.sens)(o:Out)(h':aaA)(c0:m.votes=[]→(o,h')=(.ret .nils,[]))(c1:m.votes≠[]→(o,h')=(.ret (.slr 1 0 0 m.votes.length),[.live 1 true false ((m.votes.map (al7 m l)).map bv)])):
 om'.call (.fn 28) [.agg [slv 3 true m.nS (m.sens.map ac3.cells),slv 4 false m.nV (m.votes.map acO.cells),slv 5 false m.nM (m.moves.map acN.cells),.int .i64 m.states,.int .i64 m.cmds,.int .i64 m.bgn,slv 1 true m.nO (m.opn.map iv)],slv 1 true nn (l.map iv)] []=some (o,h'):=by
 have hI:=hi
 clear hi
 (refine ce Try.func28 ?_;simp only[Try.f28];(have hb:=trivial;with_reducible repeat' (first|simp only[hb,Vc.down,seval,awJ.down,abJ]|refine fsp ?_ ?_<;>intro hb|refine fd ?_|fail)))
 refine ae4 (lst 26 m.votes (fun i (zz:List Bool) t h=>t 1=slv 1 true nn (l.map iv)∧t 2=.ptr 0 0 0∧t 6=.int .i64 i∧(h[0]?=some (.live 7 false false [[slv 3 true m.nS (m.sens.map ac3.cells),slv 4 false m.nV (m.votes.map acO.cells),slv 5 false m.nM (m.moves.map acN.cells),.int .i64 m.states,.int .i64 m.cmds,.int .i64 m.bgn,slv 1 true m.nO (m.opn.map iv)]])∧zz.length=i∧aD6 (t 5) i (zz.map bv) h)) (fun rest zz=>zz++rest.map (al7 m l)) (fun r e t h=>e=.exit 0∧aD6 (t 5) m.votes.length (r.map bv) h) ?_ ?_ ([]) _ _ ?_) (fun e t h hk=>?_)
 ·rintro a t h Q' kQ ⟨h1,h2,h6,⟨hA,hp,hc⟩⟩
  (have hb:=trivial;with_reducible repeat' (first|simp only[hb,Vc.down,seval,awJ.down,h1,h2,h6,abT,decide_false,hA,abJ]|refine fsp ?_ ?_<;>intro hb|refine fd ?_|fail))
  exact kQ _ _ _ ⟨rfl,by simpa [up]using hc⟩
 ·rintro x rest i a t h J Q' kJ kQ hx hi ⟨h1,h2,h6,⟨hA,hp,hc⟩⟩
  have hd:decide ((i:Int)<(m.votes.length:Int))=true:=decide_eq_true (by omega)
  have hw:=acT hi hs.votes
  have hV:=aI7 m x (l:=l) (nn:=nn) hl (hs.vs x (acX hx)) (hI x (acX hx))
  have hA1:=adK hA
  have h0l:0<h.length:=(aeQ.1 hA).1
  rcases hc with⟨rfl,ho⟩|⟨h0,b,hb0,ho,hb⟩
  ·simp only[Int.natCast_zero]at hd
   (have hb:=trivial;with_reducible repeat' (first|simp only[hb,Vc.down,seval,awJ.down,h1,h2,h6,ho,hd,hw,hx,hA,hA1,hV,acO.cells,abJ]|refine fsp ?_ ?_<;>intro hb|refine fd ?_|fail))
   obtain rfl:a=[]:=aiY.1 hp
   (refine adY (kJ _ _ [al7 m l x] ⟨?_,?_,?_,⟨hA1 _,rfl,.inr ⟨by omega,h.length+1,by omega,by simp[up],by rw[avA];simp[bv]⟩⟩⟩ ?_);(simp[up,h1]);(simp[up,h2]);(simp[up]);(simp))
  ·have hbl:b<h.length:=(aeQ.1 hb).1
   have hB:=adK hb
   have hS:=aB1 hbl
   have hlp:0+i=a.length:=by omega
   have hi39:(i+1≤549755813888)=True:=eq_true (by omega)
   (have hb:=trivial;with_reducible repeat' (first|simp only[hb,Vc.down,seval,awJ.down,h1,h2,h6,ho,hd,hw,hx,hA,hA1,hV,acO.cells,abJ,hB,hS,gset0,aDX,ahQ,hp,hi39]|refine fsp ?_ ?_<;>intro hb|refine fd ?_|fail))
   (refine adY (kJ _ _ (a++[al7 m l x]) ⟨?_,?_,?_,⟨aDT _ (by omega) hA _,by simp[hp],.inr ⟨by omega,h.length+1,by omega,by simp[up],by rw[aDX];simp[bv]⟩⟩⟩ ?_);(simp[up,h1]);(simp[up,h2]);(simp[up]);(simp))
 ·exact⟨by simp[up,ent],by simp[up,ent],by simp[up],⟨rfl,rfl,.inl ⟨rfl,by simp[up]⟩⟩⟩
 obtain⟨rfl,⟨hn,ho⟩|⟨hn,b,hb0,ho,hb⟩⟩:=hk
 ·rw[c0 (aiY.1 hn)]
  (have hb:=trivial;with_reducible repeat' (first|simp only[hb,Vc.down,seval,awJ.down,ho]|refine fsp ?_ ?_<;>intro hb|refine fd ?_|fail))
 ·rw[c1 (fun e=>by rw[e]at hn;simp at hn)]
  (with_reducible repeat' (first|simp only[hb,Vc.down,seval,awJ.down,ho,hb]|refine fsp ?_ ?_<;>intro hb|refine fd ?_|fail))
def ak0:List Bool→Nat→Int→Int
 | [],_,b=>b
 |v::vs,i,b=>ak0 vs (i+1) (if v=true then orN b (azE i)else b)
theorem auY(m:acZ)(l:List Int):∀(vs:List acO) (i:Nat) (b:Int),aiU m l vs i b=ak0 (vs.map (al7 m l)) i b
 | [],_,_=>rfl
 |v::vs,i,b=>by simp only[aiU,List.map_cons,ak0];exact auY m l vs _ _
def ahT(b v:Int):Bool:=aJO (aEL b v.toNat)==1
theorem aFU:∀(l:List Bool),l.length≤6→∀i:Nat,i<l.length→l[i]?=some (ahT (ak0 l 0 0) i)
 | [],_,i,h=>by simp at h
 | [a],_,i,h=>by
   have:∀a:Bool,∀i:Fin 1,[a][i.val]?=some (ahT (ak0 [a] 0 0) (i.val:Nat)):=by decide+kernel
   exact this a ⟨i,h⟩
 | [a,b],_,i,h=>by
   have:∀a b:Bool,∀i:Fin 2,[a,b][i.val]?=some (ahT (ak0 [a,b] 0 0) (i.val:Nat)):=by decide+kernel
   exact this a b ⟨i,h⟩
 | [a,b,c],_,i,h=>by
   have:∀a b c:Bool,∀i:Fin 3,[a,b,c][i.val]?=some (ahT (ak0 [a,b,c] 0 0) (i.val:Nat)):=by decide+kernel
   exact this a b c ⟨i,h⟩
 | [a,b,c,d],_,i,h=>by
   have:∀a b c d:Bool,∀i:Fin 4,[a,b,c,d][i.val]?=some (ahT (ak0 [a,b,c,d] 0 0) (i.val:Nat)):=by decide+kernel
   exact this a b c d ⟨i,h⟩
 | [a,b,c,d,e],_,i,h=>by
   have:∀a b c d e:Bool,∀i:Fin 5,[a,b,c,d,e][i.val]?=some (ahT (ak0 [a,b,c,d,e] 0 0) (i.val:Nat)):=by decide+kernel
   exact this a b c d e ⟨i,h⟩
 | [a,b,c,d,e,f],_,i,h=>by
   have:∀a b c d e f:Bool,∀i:Fin 6,[a,b,c,d,e,f][i.val]?=some (ahT (ak0 [a,b,c,d,e,f] 0 0) (i.val:Nat)):=by decide+kernel
   exact this a b c d e f ⟨i,h⟩
 |_::_::_::_::_::_::_::_,h,_,_=>by simp only[List.length_cons]at h;omega
theorem azT(a b:Bool):agL Try.prog .neq 4 (.bool a) (.bool b)=some (.bool (!(a==b))):=by cases a<;>cases b<;>kernel_rfl
structure akZ where
 frm:Int
 to:Int
 nn:Bool
 wants:List acP
 cmd:Int
 after:Int
 st:Int
 ag:Int
 bits:Int
 com:Int
theorem aF0(n:akZ):om'.call (.fn 92) [.agg [.int .i64 n.frm,.int .i64 n.to,slv 2 true n.nn (n.wants.map acP.cells),.int .i64 n.cmd,.int .i64 n.after,.int .i64 n.st,.int .i64 n.ag,.int .i64 n.bits,.int .i64 n.com]] []=some (.ret (.bool (n.frm==n.st)),[]):=by
 (refine ce Try.func92 ?_;simp only[Try.f92];(have hb:=trivial;with_reducible repeat' (first|simp only[hb,Vc.down,seval,aLC.down]|refine fsp ?_ ?_<;>intro hb|refine fd ?_|fail)))
theorem aJY(n:akZ):om'.call (.fn 93) [.agg [.int .i64 n.frm,.int .i64 n.to,slv 2 true n.nn (n.wants.map acP.cells),.int .i64 n.cmd,.int .i64 n.after,.int .i64 n.st,.int .i64 n.ag,.int .i64 n.bits,.int .i64 n.com]] []=some (.ret (.bool (decide (n.after≤n.ag))),[]):=by
 (refine ce Try.func93 ?_;simp only[Try.f93];(have hb:=trivial;with_reducible repeat' (first|simp only[hb,Vc.down,seval,aKZ.down]|refine fsp ?_ ?_<;>intro hb|refine fd ?_|fail)))
theorem aET(n:akZ):om'.call (.fn 95) [.agg [.int .i64 n.frm,.int .i64 n.to,slv 2 true n.nn (n.wants.map acP.cells),.int .i64 n.cmd,.int .i64 n.after,.int .i64 n.st,.int .i64 n.ag,.int .i64 n.bits,.int .i64 n.com]] []=some (.ret (.bool (n.cmd== -1||n.cmd==n.com)),[]):=by
 (refine ce Try.func95 ?_;simp only[Try.f95];(have hb:=trivial;with_reducible repeat' (first|simp only[hb,Vc.down,seval,aLA.down]|refine fsp ?_ ?_<;>intro hb|refine fd ?_|fail)))
 all_goals simp_all
theorem awF(n:akZ)(w:acP)(h0:0≤w.vote):om'.call (.fn 99) [.agg [.int .i64 w.vote,.bool w.is],.ptr 0 0 0] [.live 9 false false [[.int .i64 n.frm,.int .i64 n.to,slv 2 true n.nn (n.wants.map acP.cells),.int .i64 n.cmd,.int .i64 n.after,.int .i64 n.st,.int .i64 n.ag,.int .i64 n.bits,.int .i64 n.com]]]=some (.ret (.bool (!(ahT n.bits w.vote==w.is))),[.live 9 false false [[.int .i64 n.frm,.int .i64 n.to,slv 2 true n.nn (n.wants.map acP.cells),.int .i64 n.cmd,.int .i64 n.after,.int .i64 n.st,.int .i64 n.ag,.int .i64 n.bits,.int .i64 n.com]]]):=by
 obtain⟨v,is⟩:=w
 obtain⟨k,hk⟩:∃k:Nat,v=k:=⟨v.toNat,by simp at h0;omega⟩
 subst hk
 (refine ce Try.func99 ?_;simp only[Try.f99];(have hb:=trivial;with_reducible repeat' (first|simp only[hb,Vc.down,seval,aLH.down,azT]|refine fsp ?_ ?_<;>intro hb|refine fd ?_|fail)))
 all_goals simp[ahT]
theorem auO{l:List acP}{nn:Bool}{g:Nat}{ndq:akZ}{p:acP→Bool}(hp:∀x∈l,om'.call (.fn g) (.agg [.int .i64 x.vote,.bool x.is]::[.ptr 0 0 0]) [.live 9 false false [[.int .i64 ndq.frm,.int .i64 ndq.to,slv 2 true ndq.nn (ndq.wants.map acP.cells),.int .i64 ndq.cmd,.int .i64 ndq.after,.int .i64 ndq.st,.int .i64 ndq.ag,.int .i64 ndq.bits,.int .i64 ndq.com]]]=some (.ret (.bool (p x)),[.live 9 false false [[.int .i64 ndq.frm,.int .i64 ndq.to,slv 2 true ndq.nn (ndq.wants.map acP.cells),.int .i64 ndq.cmd,.int .i64 ndq.after,.int .i64 ndq.st,.int .i64 ndq.ag,.int .i64 ndq.bits,.int .i64 ndq.com]]]))(hl:l.length≤maxLen):
 om'.call (.fn 98) [slv 2 true nn (l.map acP.cells),.func (.func g) [] [.ptr 0 0 0]] [.live 9 false false [[.int .i64 ndq.frm,.int .i64 ndq.to,slv 2 true ndq.nn (ndq.wants.map acP.cells),.int .i64 ndq.cmd,.int .i64 ndq.after,.int .i64 ndq.st,.int .i64 ndq.ag,.int .i64 ndq.bits,.int .i64 ndq.com]]]=some (.ret (.int .i64 (idx p l 0)),[.live 9 false false [[.int .i64 ndq.frm,.int .i64 ndq.to,slv 2 true ndq.nn (ndq.wants.map acP.cells),.int .i64 ndq.cmd,.int .i64 ndq.after,.int .i64 ndq.st,.int .i64 ndq.ag,.int .i64 ndq.bits,.int .i64 ndq.com]]]):=by
 (refine ce Try.func98 ?_;simp only[Try.f98];(have hb:=trivial;with_reducible repeat' (first|simp only[hb,Vc.down,seval,ap2.down,abJ]|refine fsp ?_ ?_<;>intro hb|refine fd ?_|fail)))
 refine ae4 (lst 19 l (fun i (s:Int) t h=>s=i∧h=[.live 9 false false [[.int .i64 ndq.frm,.int .i64 ndq.to,slv 2 true ndq.nn (ndq.wants.map acP.cells),.int .i64 ndq.cmd,.int .i64 ndq.after,.int .i64 ndq.st,.int .i64 ndq.ag,.int .i64 ndq.bits,.int .i64 ndq.com]]]∧t 0=slv 2 true nn (l.map acP.cells)∧t 1=.func (.func g) [] [.ptr 0 0 0]∧t 7=.int .i64 l.length∧t 8=.int .i64 i)
  (fun rest s=>idx p rest s) (fun r e t h=>h=[.live 9 false false [[.int .i64 ndq.frm,.int .i64 ndq.to,slv 2 true ndq.nn (ndq.wants.map acP.cells),.int .i64 ndq.cmd,.int .i64 ndq.after,.int .i64 ndq.st,.int .i64 ndq.ag,.int .i64 ndq.bits,.int .i64 ndq.com]]]∧((e=.exit 0∧r= -1)∨(e=.ret∧t 4=.int .i64 r))) ?_ ?_ 0 _ _ ?_) (fun e t h hk=>?_)
 ·rintro s t h Q' kQ ⟨rfl,rfl,h0,h1,h7,h8⟩
  (have hb:=trivial;with_reducible repeat' (first|simp only[hb,Vc.down,seval,ap2.down,h0,h1,h7,h8,abT,decide_false]|refine fsp ?_ ?_<;>intro hb|refine fd ?_|fail))
  exact kQ _ _ _ ⟨rfl,.inl ⟨rfl,rfl⟩⟩
 ·rintro x rest i s t h J Q' kJ kQ hx hi ⟨rfl,rfl,h0,h1,h7,h8⟩
  have hpx:=hp x (acX hx)
  have hd:decide ((i:Int)<(l.length:Int))=true:=by simpa using hi
  (have hb:=trivial;with_reducible repeat' (first|simp only[hb,Vc.down,seval,ap2.down,h0,h1,h7,h8,hd,hx,acP.cells,hpx,acT hi hl]|refine fsp ?_ ?_<;>intro hb|refine fd ?_|fail))
  ·exact kQ _ _ _ ⟨rfl,.inr ⟨rfl,by simp[up,idx,hb]⟩⟩
  ·exact adY (kJ _ _ (i+1) ⟨by simp,rfl,by simp[up,h0],by simp[up,h1],by simp[up,h7],by simp[up]⟩ (by simp[idx,hb]))
 ·exact⟨rfl,rfl,by simp[up,ent],by simp[up,ent],by simp[up],by simp[up]⟩
 ·obtain⟨rfl,⟨rfl,hi⟩|⟨rfl,hi⟩⟩:=hk
  ·(have hb:=trivial;with_reducible repeat' (first|simp only[hb,Vc.down,seval,ap2.down]|refine fsp ?_ ?_<;>intro hb|refine fd ?_|fail))
   rw[hi]
  ·(have hb:=trivial;with_reducible repeat' (first|simp only[hb,Vc.down,seval,ap2.down,hi]|refine fsp ?_ ?_<;>intro hb|refine fd ?_|fail))
theorem atN{l:List acP}{nn:Bool}{g:Nat}{ndq:akZ}{p:acP→Bool}(hp:∀x∈l,om'.call (.fn g) (.agg [.int .i64 x.vote,.bool x.is]::[.ptr 0 0 0]) [.live 9 false false [[.int .i64 ndq.frm,.int .i64 ndq.to,slv 2 true ndq.nn (ndq.wants.map acP.cells),.int .i64 ndq.cmd,.int .i64 ndq.after,.int .i64 ndq.st,.int .i64 ndq.ag,.int .i64 ndq.bits,.int .i64 ndq.com]]]=some (.ret (.bool (p x)),[.live 9 false false [[.int .i64 ndq.frm,.int .i64 ndq.to,slv 2 true ndq.nn (ndq.wants.map acP.cells),.int .i64 ndq.cmd,.int .i64 ndq.after,.int .i64 ndq.st,.int .i64 ndq.ag,.int .i64 ndq.bits,.int .i64 ndq.com]]]))(hl:l.length≤maxLen):
 om'.call (.fn 89) [slv 2 true nn (l.map acP.cells),.func (.func g) [] [.ptr 0 0 0]] [.live 9 false false [[.int .i64 ndq.frm,.int .i64 ndq.to,slv 2 true ndq.nn (ndq.wants.map acP.cells),.int .i64 ndq.cmd,.int .i64 ndq.after,.int .i64 ndq.st,.int .i64 ndq.ag,.int .i64 ndq.bits,.int .i64 ndq.com]]]=some (.ret (.bool (l.any p)),[.live 9 false false [[.int .i64 ndq.frm,.int .i64 ndq.to,slv 2 true ndq.nn (ndq.wants.map acP.cells),.int .i64 ndq.cmd,.int .i64 ndq.after,.int .i64 ndq.st,.int .i64 ndq.ag,.int .i64 ndq.bits,.int .i64 ndq.com]]]):=by
 (refine ce Try.func89 ?_;simp only[Try.f89];(have hb:=trivial;with_reducible repeat' (first|simp only[hb,Vc.down,seval,auO hp hl,al9 p l 0 (Int.le_refl 0)]|refine fsp ?_ ?_<;>intro hb|refine fd ?_|fail)))
def akL(bits:Int)(l:List acP):Bool:=l.all fun w=>ahT bits w.vote==w.is
theorem ayO(n:akZ)(hl:n.wants.length≤maxLen)(h0:∀w∈n.wants,0≤w.vote):om'.call (.fn 94) [.agg [.int .i64 n.frm,.int .i64 n.to,slv 2 true n.nn (n.wants.map acP.cells),.int .i64 n.cmd,.int .i64 n.after,.int .i64 n.st,.int .i64 n.ag,.int .i64 n.bits,.int .i64 n.com]] []=some (.ret (.bool (akL n.bits n.wants)),[]):=by
 have hc:=atN (ndq:=n) (l:=n.wants) (nn:=n.nn) (g:=99) (p:=fun w=> !(ahT n.bits w.vote==w.is)) (fun w hw=>awF n w (h0 w hw)) hl
 have q1:akL n.bits n.wants= !(n.wants.any fun w=> !(ahT n.bits w.vote==w.is)):=ah6
 (refine ce Try.func94 ?_;simp only[Try.f94];(have hb:=trivial;with_reducible repeat' (first|simp only[hb,Vc.down,seval,aKT.down,hc]|refine fsp ?_ ?_<;>intro hb|refine fd ?_|fail)))
 all_goals simp[q1]
theorem aH8(f0 f1 f2 f3:Fn)(a0 a1 a2 a3 c0 c1 c2 c3:List AV):aj6 Try.prog 155 [(0,.func f0 a0 c0),(1,.func f1 a1 c1),(2,.func f2 a2 c2),(3,.func f3 a3 c3)]=some (.agg [.func f0 a0 c0,.func f1 a1 c1,.func f2 a2 c2,.func f3 a3 c3]):=by kernel_rfl
theorem aD1(a b c d:AV):akF Try.prog 155 (.agg [a,b,c,d]) (.int .i64 0)=some a:=by kernel_rfl
theorem aD2(a b c d:AV):akF Try.prog 155 (.agg [a,b,c,d]) (.int .i64 1)=some b:=by kernel_rfl
theorem aD5(a b c d:AV):akF Try.prog 155 (.agg [a,b,c,d]) (.int .i64 2)=some c:=by kernel_rfl
theorem aD0(a b c d:AV):akF Try.prog 155 (.agg [a,b,c,d]) (.int .i64 3)=some d:=by kernel_rfl
def aq5(n:akZ):Bool:=(n.frm==n.st)&&decide (n.after≤n.ag)&&akL n.bits n.wants&&(n.cmd== -1||n.cmd==n.com)
theorem w2:IntKind.i64.wrap 2=2:=Eq.trans rfl rfl
theorem w3:IntKind.i64.wrap 3=3:=Eq.trans rfl rfl
theorem w4:IntKind.i64.wrap 4=4:=Eq.trans rfl rfl
theorem awI(n:akZ)(hl:n.wants.length≤maxLen)(h0:∀w∈n.wants,0≤w.vote):om'.call (.fn 75) [.agg [.int .i64 n.frm,.int .i64 n.to,slv 2 true n.nn (n.wants.map acP.cells),.int .i64 n.cmd,.int .i64 n.after,.int .i64 n.st,.int .i64 n.ag,.int .i64 n.bits,.int .i64 n.com]] []=some (.ret (.bool (aq5 n)),[]):=by
 have q1:=aF0 n
 have q2:=aJY n
 have q3:=ayO n hl h0
 have q4:=aET n
 (refine ce Try.func75 ?_;simp only[Try.f75];(have hb:=trivial;with_reducible repeat' (first|simp only[hb,Vc.down,seval,aJN.down,aH8,aD1,aD2,aD5,aD0,q1,q2,q3,q4,w2,w3,w4]|refine fsp ?_ ?_<;>intro hb|refine fd ?_|fail)))
 (have hb:=trivial;with_reducible repeat' (first|simp only[hb,Vc.down,seval,aJN.down,aH8,aD1,aD2,aD5,aD0,q1,q2,q3,q4,w2,w3,w4]|refine fsp ?_ ?_<;>intro hb|refine fd ?_|refine aKV ?_|fail))
 all_goals (refine congrArg (fun b=>(Out.ret (AV.bool b),([]:aaA))) ?_;symm;((try simp only[ajO,afA,ahM]at *);simp only[aq5, *,akO,aeL,Bool.and_true,aeK,Bool.and_self,Bool.not_not,afA,ahM,aeF,List.all_nil]))
def nd(x:acN)(st ag bits com:Int):akZ:=⟨x.frm,x.to,x.nn,x.wants,x.cmd,x.after,st,ag,bits,com⟩
theorem av5(x:acN)(st ag bits com:Int){bs:List Bool}{nn:Bool}(hl:x.wants.length≤maxLen)(hv:∀w∈x.wants,0≤w.vote∧bs[w.vote.toNat]?=some (ahT bits w.vote)):
 om'.call (.fn 50) [.agg [.int .i64 x.frm,.int .i64 x.to,slv 2 true x.nn (x.wants.map acP.cells),.int .i64 x.cmd,.int .i64 x.after],.int .i64 st,.int .i64 ag,slv 1 true nn (bs.map bv),.int .i64 com] []=some (.ret (.bool (aq5 (nd x st ag bits com))),[]):=by
 obtain⟨y,rfl⟩:∃y,y=x:=⟨_,rfl⟩
 (refine ce Try.func50 ?_;simp only[Try.f50];(have hb:=trivial;with_reducible repeat' (first|simp only[hb,Vc.down,seval,aAH.down,abJ]|refine fsp ?_ ?_<;>intro hb|refine fd ?_|fail)))
 refine ae4 (lst 56 y.wants (fun i (zz:Unit) t h=>t 1=.int .i64 st∧t 2=.int .i64 ag∧t 3=slv 1 true nn (bs.map bv)∧t 4=.int .i64 com∧t 5=.ptr 0 0 0∧t 11=.int .i64 i∧(h=[.live 5 false false [[.int .i64 y.frm,.int .i64 y.to,slv 2 true y.nn (y.wants.map acP.cells),.int .i64 y.cmd,.int .i64 y.after]]])) (fun rest zz=>akL bits rest) (fun r e t h=>(if r=true then e=.exit 0∧t 1=.int .i64 st∧t 2=.int .i64 ag∧t 4=.int .i64 com∧t 5=.ptr 0 0 0∧h=[.live 5 false false [[.int .i64 y.frm,.int .i64 y.to,slv 2 true y.nn (y.wants.map acP.cells),.int .i64 y.cmd,.int .i64 y.after]]]else e=.ret∧t 10=.bool false)) ?_ ?_ () _ _ ?_) (fun e t h hk=>?_)
 ·rintro _ t h Q' kQ ⟨h1,h2,h3,h4,h5,h11,rfl⟩
  (have hb:=trivial;with_reducible repeat' (first|simp only[hb,Vc.down,seval,aAH.down,h1,h2,h3,h4,h5,h11,abT,decide_false,abJ]|refine fsp ?_ ?_<;>intro hb|refine fd ?_|fail))
  exact kQ _ _ _ (by rw[if_pos (by rfl)];exact⟨rfl,by simp[up,h1],by simp[up,h2],by simp[up,h4],by simp[up,h5],rfl⟩)
 ·rintro x rest i _ t h J Q' kJ kQ hx hi ⟨h1,h2,h3,h4,h5,h11,rfl⟩
  have hd:decide ((i:Int)<(y.wants.length:Int))=true:=decide_eq_true (by omega)
  have hw:=acT hi hl
  obtain⟨k0,k1⟩:=hv x (acX hx)
  have h0':(0≤x.vote)=True:=eq_true k0
  (have hb:=trivial;with_reducible repeat' (first|simp only[hb,Vc.down,seval,aAH.down,h1,h2,h3,h4,h5,h11,hd,hx,hw,k1,h0',azT,bv,acP.cells,abJ]|refine fsp ?_ ?_<;>intro hb|refine fd ?_|fail))
  all_goals first
   |exact kQ _ _ _ (by rw[if_neg (by simp_all[akL])];exact⟨rfl,by simp[up]⟩)
   |(refine adY (kJ _ _ () ⟨?_,?_,?_,?_,?_,?_,rfl⟩ ?_);(simp[up,h1]);(simp[up,h2]);(simp[up,h3]);(simp[up,h4]);(simp[up,h5]);(simp[up]);(simp_all[akL]))
 ·exact⟨by simp[up,ent],by simp[up,ent],by simp[up,ent],by simp[up,ent],by simp[up,ent],by simp[up],rfl⟩
 split at hk
 ·obtain⟨rfl,h1,h2,h4,h5,rfl⟩:=hk
  rename_i hr1
  (have hb:=trivial;with_reducible repeat' (first|simp only[hb,Vc.down,seval,aAH.down,h1,h2,h4,h5]|refine fsp ?_ ?_<;>intro hb|refine fd ?_|fail))
  all_goals (refine congrArg (fun b=>(Out.ret (AV.bool b),([]:aaA))) ?_;symm;simp only[aq5,nd];(try have q9:=hr1);simp_all<;>try (intro q7;exfalso;have:=of_decide_eq_true q7;omega))
 ·obtain⟨rfl,h2⟩:=hk
  rename_i hr1
  (have hb:=trivial;with_reducible repeat' (first|simp only[hb,Vc.down,seval,aAH.down,h2]|refine fsp ?_ ?_<;>intro hb|refine fd ?_|fail))
  all_goals simp_all[aq5,nd]
def avU(a:Int):Int:=if IntKind.i64.wrap (a+1)<10 then IntKind.i64.wrap (a+1)else 10
def ag7(st ag bits com:Int):List acN→Int × Int
 | []=>(st,avU ag)
 |x::l=>if aq5 (nd x st ag bits com)=true then(x.to,0)else ag7 st ag bits com l
theorem azV(m:acZ)(st ag bits com:Int)(hs:m.small)(h0:∀x∈m.moves,∀w∈x.wants,0≤w.vote):
 om'.call (.fn 45) [.agg [slv 3 true m.nS (m.sens.map ac3.cells),slv 4 false m.nV (m.votes.map acO.cells),slv 5 false m.nM (m.moves.map acN.cells),.int .i64 m.states,.int .i64 m.cmds,.int .i64 m.bgn,slv 1 true m.nO (m.opn.map iv)],.agg [.int .i64 st,.int .i64 ag],.agg [.int .i64 bits,.int .i64 com]] []=some (.ret (.agg [.int .i64 (ag7 st ag bits com m.moves).1,.int .i64 (ag7 st ag bits com m.moves).2]),[]):=by
 (refine ce Try.func45 ?_;simp only[Try.f45];(have hb:=trivial;with_reducible repeat' (first|simp only[hb,Vc.down,seval,aA3.down,abJ]|refine fsp ?_ ?_<;>intro hb|refine fd ?_|fail)))
 refine ae4 (lst 32 m.moves (fun i (zz:Unit) t h=>t 4=.ptr 1 0 0∧t 5=.ptr 2 0 0∧t 6=.ptr 3 0 0∧t 10=slv 5 false m.nM (m.moves.map acN.cells)∧t 11=.int .i64 m.moves.length∧t 12=.int .i64 i∧(h[1]?=some (.live 2 true false [[.int .i64 st,.int .i64 ag]])∧h[2]?=some (.live 2 true false [[.int .i64 bits,.int .i64 com]])∧h[3]?=some (.live 2 true false [[.int .i64 0,.int .i64 0]]))) (fun rest zz=>ag7 st ag bits com rest) (fun r e t h=>(e=.exit 0∧t 4=.ptr 1 0 0∧t 6=.ptr 3 0 0∧h[1]?=some (.live 2 true false [[.int .i64 st,.int .i64 ag]])∧h[3]?=some (.live 2 true false [[.int .i64 0,.int .i64 0]])∧r=(st,avU ag))∨(e=.ret∧t 6=.ptr 3 0 0∧h[3]?=some (.live 2 true true [[.int .i64 r.1,.int .i64 r.2]]))) ?_ ?_ () _ _ ?_) (fun e t h hk=>?_)
 ·rintro _ t h Q' kQ ⟨h4,h5,h6,h10,h11,h12,⟨hA,hB,hC⟩⟩
  (have hb:=trivial;with_reducible repeat' (first|simp only[hb,Vc.down,seval,aA3.down,h4,h5,h6,h10,h11,h12,abT,decide_false]|refine fsp ?_ ?_<;>intro hb|refine fd ?_|fail))
  exact kQ _ _ _ (.inl ⟨rfl,by simp[up,h4],by simp[up,h6],hA,hC,rfl⟩)
 ·rintro x rest i _ t h J Q' kJ kQ hx hi ⟨h4,h5,h6,h10,h11,h12,⟨hA,hB,hC⟩⟩
  have hd:decide ((i:Int)<(m.moves.length:Int))=true:=decide_eq_true (by omega)
  have hw:=acT hi hs.moves
  have hA1:=adK hA
  have hB1:=adK hB
  have hC1:=adK hC
  have hap:=awI (nd x st ag bits com) (hs.ws x (acX hx)) (h0 x (acX hx))
  have h3l:3<h.length:=(aeQ.1 hC).1
  generalize hq:aq5 (nd x st ag bits com)=q at hap
  simp only[nd]at hap
  (have hb:=trivial;with_reducible repeat' (first|simp only[hb,Vc.down,seval,aA3.down,h4,h5,h6,h10,h11,h12,hd,hx,hw,hA1,hB1,hC1,hap,acN.cells,abJ]|refine fsp ?_ ?_<;>intro hb|refine fd ?_|fail))
  ·exact kQ _ _ _ (.inr ⟨rfl,by simp[up,h6],by rw[amG (by simp;omega)];simp[ag7,hq,hb]⟩)
  ·(refine adY (kJ _ _ () ⟨?_,?_,?_,?_,?_,?_,⟨hA1 _,hB1 _,hC1 _⟩⟩ ?_);(simp[up,h4]);(simp[up,h5]);(simp[up,h6]);(simp[up,h10]);(simp[up,h11]);(simp[up]);(simp[ag7,hq,hb]))
 ·exact⟨by simp[up,ent],by simp[up,ent],by simp[up,ent],by simp[up,ent],by simp[up,ent],by simp[up],⟨rfl,rfl,rfl⟩⟩
 rcases hk with⟨rfl,h4,h6,hA,hC,hr⟩|⟨rfl,h6,hC⟩
 ·have hA1:=adK hA
  have hC1:=adK hC
  have h3l:3<h.length:=(aeQ.1 hC).1
  have hset:∀c:CB,(h.set 3 c)[3]?=some c:=fun c=>amG h3l
  have hmt:(if IntKind.i64.wrap (ag+1)<10 then IntKind.i64.wrap (ag+1)else 10)=avU ag:=rfl
  rw[hr]
  (have hb:=trivial;with_reducible repeat' (first|simp only[hb,Vc.down,seval,aA3.down,h4,h6,hA,hC,hA1,hC1,hset,hmt]|refine fsp ?_ ?_<;>intro hb|refine fd ?_|fail))
 ·(have hb:=trivial;with_reducible repeat' (first|simp only[hb,Vc.down,seval,aA3.down,h6,hC]|refine fsp ?_ ?_<;>intro hb|refine fd ?_|fail))
theorem aqP{m:acZ}(h:ae0 m=true):∀x∈m.moves,∀w∈x.wants,0≤w.vote∧w.vote.toNat<m.votes.length:=fun x hx w hw=>by
 simp only[ae0,aj9,ac9,decide_eq_true_eq,aeM]at h
 have h2:=h.1.2 x hx
 simp only[aiL,ac9]at h2
 have h3:=h2.1.1.1.1.1
 have h6:m.votes.length≤6:=h.1.1.1.1.1.1.1.1.1.2
 have key:∀(l p:List acP),ag5 m.votes.length p l=true→w∈l→0≤w.vote∧w.vote.toNat<m.votes.length:=by
  intro l
  induction l with
  |nil=>intro p _ h;cases h
  |cons y l ih=>
   intro p h hm
   simp only[ag5,ac9]at h
   rcases List.mem_cons.1 hm with rfl|hm
   ·have:=h.1.1
    rw[ai7 (by omega) (by omega)]at this
    simp[inB]at this
    omega
   ·exact ih _ h.2 hm
 exact key x.wants [] h3 hw
def atB(m:acZ)(st ag:Int)(s:aiO):Int × Int:=ag7 st ag (aiU m s.reads m.votes 0 0) s.cmd m.moves
def okB(m:acZ)(st ag:Int)(s:aiO):Bool:=ae0 m&&inB st 0 (IntKind.i64.wrap (m.states-1))&&inB ag 0 10&&alQ m s
theorem arQ{m:acZ}{l:List Int}(h:amF m l=true):l.length=m.sens.length:=by
 simp only[amF,ac9,beq_iff_eq]at h
 omega
theorem aGU(m:acZ)(st ag:Int)(s:aiO)(hs:m.small)(hl:s.reads.length≤maxLen):om'.call (.fn 14) [.agg [slv 3 true m.nS (m.sens.map ac3.cells),slv 4 false m.nV (m.votes.map acO.cells),slv 5 false m.nM (m.moves.map acN.cells),.int .i64 m.states,.int .i64 m.cmds,.int .i64 m.bgn,slv 1 true m.nO (m.opn.map iv)],.int .i64 st,.int .i64 ag,.agg [slv 1 true s.nn (s.reads.map iv),.int .i64 s.cmd]] []=
 some (.ret (if okB m st ag s=true then .tup [.int .i64 (atB m st ag s).1,.int .i64 (atB m st ag s).2,.int .i64 0]else .tup [.int .i64 0,.int .i64 0,.int .i64 2]),[]):=by
 have hv:=avN m hs
 have hsc:=awB m s hl
 cases hok:okB m st ag s with
 |false=>
  (refine ce Try.func14 ?_;simp only[Try.f14];(have hb:=trivial;with_reducible repeat' (first|simp only[hb,Vc.down,seval,aJI.down,hv,hsc,alB]|refine fsp ?_ ?_<;>intro hb|refine fd ?_|fail)))
  all_goals first
   |rfl
   |(exfalso;simp_all[okB];done)
 |true=>
  have hok':=hok
  simp only[okB,ac9]at hok'
  obtain⟨⟨⟨o1,o2⟩,o3⟩,o4⟩:=hok'
  have o5:=o4
  simp only[alQ,ac9]at o5
  have hbits:=au7 m (l:=s.reads) (nn:=s.nn) (arQ o5.1) hs (atJ o1)
  have hst:=azV m st ag (aiU m s.reads m.votes 0 0) s.cmd hs (fun x hx w hw=>(aqP o1 x hx w hw).1)
  rw[o1]at hv
  rw[o4]at hsc
  (refine ce Try.func14 ?_;simp only[Try.f14];(have hb:=trivial;with_reducible repeat' (first|simp only[hb,Vc.down,seval,aJI.down,hv,hsc,alB,o2,o3,hbits,hst]|refine fsp ?_ ?_<;>intro hb|refine fd ?_|fail)))
  all_goals rfl
theorem aDM{m:acZ}(h:ae0 m=true):m.votes.length≤6:=by
 simp only[ae0,aj9,ac9,decide_eq_true_eq]at h
 exact h.1.1.1.1.1.1.1.1.1.2
theorem aGW(m:acZ)(st ag:Int)(y:aiO)(hs:m.small)(hm:ae0 m=true)(hr:amF m y.reads=true):om'.call (.fn 17) [.agg [slv 3 true m.nS (m.sens.map ac3.cells),slv 4 false m.nV (m.votes.map acO.cells),slv 5 false m.nM (m.moves.map acN.cells),.int .i64 m.states,.int .i64 m.cmds,.int .i64 m.bgn,slv 1 true m.nO (m.opn.map iv)],.int .i64 st,.int .i64 ag,.agg [slv 1 true y.nn (y.reads.map iv),.int .i64 y.cmd]] []=
 some (.ret (.tup [.int .i64 (atB m st ag y).1,.int .i64 (atB m st ag y).2]),[]):=by
 have h6:=aDM hm
 have hV:=aCK m (l:=y.reads) (nn:=y.nn) (arQ hr) hs h6 (atJ hm)
 have hw0:=aqP hm
 have hbs:∀x∈m.moves,∀w∈x.wants,0≤w.vote∧(m.votes.map (al7 m y.reads))[w.vote.toNat]?=some (ahT (aiU m y.reads m.votes 0 0) w.vote):=fun x hx w hw=>by
  obtain⟨a,b⟩:=hw0 x hx w hw
  refine⟨a,?_⟩
  rw[auY,aFU _ (by simpa using h6) _ (by simpa using b)]
  congr 2;omega
 have hA:=fun(nn:Bool) x (hx:x∈m.moves)=>av5 x st ag (aiU m y.reads m.votes 0 0) y.cmd (bs:=m.votes.map (al7 m y.reads)) (nn:=nn) (hs.ws x hx) (hbs x hx)
 unfold atB
 generalize aiU m y.reads m.votes 0 0=bits at hA
 clear hbs hw0
 have hmt:(if IntKind.i64.wrap (ag+1)<10 then IntKind.i64.wrap (ag+1)else 10)=avU ag:=rfl
 have htk:((m.votes.map (al7 m y.reads)).map bv).take m.votes.length=(m.votes.map (al7 m y.reads)).map bv:=List.take_of_length_le (by simp)
 by_cases hn:m.votes=[]
 ·have hV':=hV _ _ (fun _=>rfl) (fun h=>(h hn).elim)
  have hA:=hA false
  rw[hn]at hA;simp only[List.map_nil,aCV]at hA
  (refine ce Try.func17 ?_;simp only[Try.f17];(have hb:=trivial;with_reducible repeat' (first|simp only[hb,Vc.down,seval,ap3.down,hV',abJ]|refine fsp ?_ ?_<;>intro hb|refine fd ?_|fail)))
  refine ae4 (lst 44 m.moves (fun i (zz:Unit) t h=>t 1=.int .i64 st∧t 2=.int .i64 ag∧t 4=.ptr 0 0 0∧t 7=.ptr 1 0 0∧t 10=.nils∧t 11=.int .i64 i∧(h=[.live 7 false false [[slv 3 true m.nS (m.sens.map ac3.cells),slv 4 false m.nV (m.votes.map acO.cells),slv 5 false m.nM (m.moves.map acN.cells),.int .i64 m.states,.int .i64 m.cmds,.int .i64 m.bgn,slv 1 true m.nO (m.opn.map iv)]],.live 2 false false [[slv 1 true y.nn (y.reads.map iv),.int .i64 y.cmd]]])) (fun rest zz=>ag7 st ag bits y.cmd rest) (fun r e t h=>(e=.exit 0∧t 1=.int .i64 st∧t 2=.int .i64 ag∧r=(st,avU ag))∨(e=.ret∧t 8=.int .i64 r.1∧t 9=.int .i64 r.2)) ?_ ?_ () _ _ ?_) (fun e t h hk=>?_)
  ·rintro _ t h Q' kQ ⟨h1,h2,h4,h7,h10,h11,rfl⟩
   (have hb:=trivial;with_reducible repeat' (first|simp only[hb,Vc.down,seval,ap3.down,h1,h2,h4,h7,h10,h11,abT,decide_false,abJ]|refine fsp ?_ ?_<;>intro hb|refine fd ?_|fail))
   exact kQ _ _ _ (.inl ⟨rfl,by simp[up,h1],by simp[up,h2],rfl⟩)
  ·rintro x rest i _ t h J Q' kJ kQ hx hi ⟨h1,h2,h4,h7,h10,h11,rfl⟩
   have hd:decide ((i:Int)<(m.moves.length:Int))=true:=decide_eq_true (by omega)
   have hw:=acT hi hs.moves
   have hap:=hA x (acX hx)
   generalize hq:aq5 (nd x st ag bits y.cmd)=q at hap
   (have hb:=trivial;with_reducible repeat' (first|simp only[hb,Vc.down,seval,ap3.down,h1,h2,h4,h7,h10,h11,hd,hx,hw,hap,htk,acN.cells,abJ]|refine fsp ?_ ?_<;>intro hb|refine fd ?_|fail))
   ·exact kQ _ _ _ (.inr ⟨rfl,by simp[up,ag7,hq,hb],by simp[up,ag7,hq,hb]⟩)
   ·(refine adY (kJ _ _ () ⟨?_,?_,?_,?_,?_,?_,rfl⟩ ?_);(simp[up,h1]);(simp[up,h2]);(simp[up,h4]);(simp[up,h7]);(simp[up,h10]);(simp[up]);(simp[ag7,hq,hb]))
  ·exact⟨by simp[up,ent],by simp[up,ent],by simp[up,ent],by simp[up,ent],by simp[up,ent],by simp[up],rfl⟩
  rcases hk with⟨rfl,h1,h2,hr⟩|⟨rfl,h8,h9⟩
  ·rw[hr]
   (have hb:=trivial;with_reducible repeat' (first|simp only[hb,Vc.down,seval,ap3.down,h1,h2,hmt]|refine fsp ?_ ?_<;>intro hb|refine fd ?_|fail))
  ·(have hb:=trivial;with_reducible repeat' (first|simp only[hb,Vc.down,seval,ap3.down,h8,h9]|refine fsp ?_ ?_<;>intro hb|refine fd ?_|fail))
 ·have hV':=hV _ _ (fun h=>(hn h).elim) (fun _=>rfl)
  have hA:=hA true
  simp only[as1]at hA
  (refine ce Try.func17 ?_;simp only[Try.f17];(have hb:=trivial;with_reducible repeat' (first|simp only[hb,Vc.down,seval,ap3.down,hV',abJ]|refine fsp ?_ ?_<;>intro hb|refine fd ?_|fail)))
  refine ae4 (lst 44 m.moves (fun i (zz:Unit) t h=>t 1=.int .i64 st∧t 2=.int .i64 ag∧t 4=.ptr 0 0 0∧t 7=.ptr 1 0 0∧t 10=.slr 1 2 0 m.votes.length∧t 11=.int .i64 i∧(h=[.live 7 false false [[slv 3 true m.nS (m.sens.map ac3.cells),slv 4 false m.nV (m.votes.map acO.cells),slv 5 false m.nM (m.moves.map acN.cells),.int .i64 m.states,.int .i64 m.cmds,.int .i64 m.bgn,slv 1 true m.nO (m.opn.map iv)]],.live 2 false false [[slv 1 true y.nn (y.reads.map iv),.int .i64 y.cmd]],.live 1 true false ((m.votes.map (al7 m y.reads)).map bv)])) (fun rest zz=>ag7 st ag bits y.cmd rest) (fun r e t h=>(e=.exit 0∧t 1=.int .i64 st∧t 2=.int .i64 ag∧r=(st,avU ag))∨(e=.ret∧t 8=.int .i64 r.1∧t 9=.int .i64 r.2)) ?_ ?_ () _ _ ?_) (fun e t h hk=>?_)
  ·rintro _ t h Q' kQ ⟨h1,h2,h4,h7,h10,h11,rfl⟩
   (have hb:=trivial;with_reducible repeat' (first|simp only[hb,Vc.down,seval,ap3.down,h1,h2,h4,h7,h10,h11,abT,decide_false,abJ]|refine fsp ?_ ?_<;>intro hb|refine fd ?_|fail))
   exact kQ _ _ _ (.inl ⟨rfl,by simp[up,h1],by simp[up,h2],rfl⟩)
  ·rintro x rest i _ t h J Q' kJ kQ hx hi ⟨h1,h2,h4,h7,h10,h11,rfl⟩
   have hd:decide ((i:Int)<(m.moves.length:Int))=true:=decide_eq_true (by omega)
   have hw:=acT hi hs.moves
   have hap:=hA x (acX hx)
   generalize hq:aq5 (nd x st ag bits y.cmd)=q at hap
   (have hb:=trivial;with_reducible repeat' (first|simp only[hb,Vc.down,seval,ap3.down,h1,h2,h4,h7,h10,h11,hd,hx,hw,hap,htk,acN.cells,abJ]|refine fsp ?_ ?_<;>intro hb|refine fd ?_|fail))
   ·exact kQ _ _ _ (.inr ⟨rfl,by simp[up,ag7,hq,hb],by simp[up,ag7,hq,hb]⟩)
   ·(refine adY (kJ _ _ () ⟨?_,?_,?_,?_,?_,?_,rfl⟩ ?_);(simp[up,h1]);(simp[up,h2]);(simp[up,h4]);(simp[up,h7]);(simp[up,h10]);(simp[up]);(simp[ag7,hq,hb]))
  ·exact⟨by simp[up,ent],by simp[up,ent],by simp[up,ent],by simp[up,ent],by simp[up,ent],by simp[up],rfl⟩
  rcases hk with⟨rfl,h1,h2,hr⟩|⟨rfl,h8,h9⟩
  ·rw[hr]
   (have hb:=trivial;with_reducible repeat' (first|simp only[hb,Vc.down,seval,ap3.down,h1,h2,hmt]|refine fsp ?_ ?_<;>intro hb|refine fd ?_|fail))
  ·(have hb:=trivial;with_reducible repeat' (first|simp only[hb,Vc.down,seval,ap3.down,h8,h9]|refine fsp ?_ ?_<;>intro hb|refine fd ?_|fail))
def apM(m:acZ):Bool:=m.votes.all (fun v=>decide (v.sens.length≤10))&&m.moves.all (fun x=>decide (x.wants.length≤10))&&decide (m.sens.length≤10)&&decide (m.votes.length≤10)&&decide (m.moves.length≤30)&&decide (m.opn.length≤20)
theorem aBR(m:acZ)(hs:m.small):om'.call (.fn 12) [.agg [slv 3 true m.nS (m.sens.map ac3.cells),slv 4 false m.nV (m.votes.map acO.cells),slv 5 false m.nM (m.moves.map acN.cells),.int .i64 m.states,.int .i64 m.cmds,.int .i64 m.bgn,slv 1 true m.nO (m.opn.map iv)]] []=some (.ret (.bool (apM m)),[]):=by
 have l1:decide ((m.sens.length:Int)≤10)=decide (m.sens.length≤10):=by rw[decide_eq_decide];omega
 have l2:decide ((m.votes.length:Int)≤10)=decide (m.votes.length≤10):=by rw[decide_eq_decide];omega
 have l3:decide ((m.moves.length:Int)≤30)=decide (m.moves.length≤30):=by rw[decide_eq_decide];omega
 have l4:decide ((m.opn.length:Int)≤20)=decide (m.opn.length≤20):=by rw[decide_eq_decide];omega
 (refine ce Try.func12 ?_;simp only[Try.f12];(have hb:=trivial;with_reducible repeat' (first|simp only[hb,Vc.down,seval,ao8.down,abJ]|refine fsp ?_ ?_<;>intro hb|refine fd ?_|fail)))
 refine ae4 (lst 57 m.votes (fun i (zz:Unit) t h=>t 1=.ptr 0 0 0∧t 3=.int .i64 i∧(h=[.live 7 false false [[slv 3 true m.nS (m.sens.map ac3.cells),slv 4 false m.nV (m.votes.map acO.cells),slv 5 false m.nM (m.moves.map acN.cells),.int .i64 m.states,.int .i64 m.cmds,.int .i64 m.bgn,slv 1 true m.nO (m.opn.map iv)]]])) (fun rest zz=>rest.all (fun v=>decide (v.sens.length≤10))) (fun r e t h=>(if r=true then e=.exit 0∧t 1=.ptr 0 0 0∧h=[.live 7 false false [[slv 3 true m.nS (m.sens.map ac3.cells),slv 4 false m.nV (m.votes.map acO.cells),slv 5 false m.nM (m.moves.map acN.cells),.int .i64 m.states,.int .i64 m.cmds,.int .i64 m.bgn,slv 1 true m.nO (m.opn.map iv)]]]else e=.ret∧t 2=.bool false)) ?_ ?_ () _ _ ?_) (fun e t h hk=>?_)
 ·rintro _ t h Q' kQ ⟨h1,h3,rfl⟩
  (have hb:=trivial;with_reducible repeat' (first|simp only[hb,Vc.down,seval,ao8.down,h1,h3,abT,decide_false,abJ]|refine fsp ?_ ?_<;>intro hb|refine fd ?_|fail))
  exact kQ _ _ _ (by rw[if_pos (by rfl)];exact⟨rfl,by simp[up,h1],rfl⟩)
 ·rintro x rest i _ t h J Q' kJ kQ hx hi ⟨h1,h3,rfl⟩
  have hd:decide ((i:Int)<(m.votes.length:Int))=true:=decide_eq_true (by omega)
  have hw:=acT hi hs.votes
  have lx:decide ((10:Int)<(x.sens.length:Int))= !decide (x.sens.length≤10):=by rw[←decide_not,decide_eq_decide];omega
  cases c1:decide (x.sens.length≤10)with
  |false=>
   (have hb:=trivial;with_reducible repeat' (first|simp only[hb,Vc.down,seval,ao8.down,h1,h3,hd,hx,hw,lx,c1,acO.cells,abJ]|refine fsp ?_ ?_<;>intro hb|refine fd ?_|fail))
   exact kQ _ _ _ (by rw[if_neg (by simp only[aeF,c1,aeL];simp)];exact⟨rfl,by simp[up]⟩)
  |true=>
   (have hb:=trivial;with_reducible repeat' (first|simp only[hb,Vc.down,seval,ao8.down,h1,h3,hd,hx,hw,lx,c1,acO.cells,abJ]|refine fsp ?_ ?_<;>intro hb|refine fd ?_|fail))
   (refine adY (kJ _ _ () ⟨?_,?_,rfl⟩ ?_);(simp[up,h1]);(simp[up]);(simp only[aeF,c1,aeK]))
 ·exact⟨by simp[up,ent],by simp[up],rfl⟩
 split at hk
 rotate_left
 ·obtain⟨rfl,h2⟩:=hk
  rename_i hr1
  (have hb:=trivial;with_reducible repeat' (first|simp only[hb,Vc.down,seval,ao8.down,h2]|refine fsp ?_ ?_<;>intro hb|refine fd ?_|fail))
  all_goals simp[apM,ad5.2 hr1]
 obtain⟨rfl,h1,rfl⟩:=hk
 rename_i hr1
 (have hb:=trivial;with_reducible repeat' (first|simp only[hb,Vc.down,seval,ao8.down,h1,abJ]|refine fsp ?_ ?_<;>intro hb|refine fd ?_|fail))
 refine ae4 (lst 57 m.moves (fun i (zz:Unit) t h=>t 1=.ptr 0 0 0∧t 4=.int .i64 i∧(h=[.live 7 false false [[slv 3 true m.nS (m.sens.map ac3.cells),slv 4 false m.nV (m.votes.map acO.cells),slv 5 false m.nM (m.moves.map acN.cells),.int .i64 m.states,.int .i64 m.cmds,.int .i64 m.bgn,slv 1 true m.nO (m.opn.map iv)]]])) (fun rest zz=>rest.all (fun x=>decide (x.wants.length≤10))) (fun r e t h=>(if r=true then e=.exit 2∧t 1=.ptr 0 0 0∧h=[.live 7 false false [[slv 3 true m.nS (m.sens.map ac3.cells),slv 4 false m.nV (m.votes.map acO.cells),slv 5 false m.nM (m.moves.map acN.cells),.int .i64 m.states,.int .i64 m.cmds,.int .i64 m.bgn,slv 1 true m.nO (m.opn.map iv)]]]else e=.ret∧t 2=.bool false)) ?_ ?_ () _ _ ?_) (fun e t h hk=>?_)
 ·rintro _ t h Q' kQ ⟨h1,h4,rfl⟩
  (have hb:=trivial;with_reducible repeat' (first|simp only[hb,Vc.down,seval,ao8.down,h1,h4,abT,decide_false,abJ]|refine fsp ?_ ?_<;>intro hb|refine fd ?_|fail))
  exact kQ _ _ _ (by rw[if_pos (by rfl)];exact⟨rfl,by simp[up,h1],rfl⟩)
 ·rintro x rest i _ t h J Q' kJ kQ hx hi ⟨h1,h4,rfl⟩
  have hd:decide ((i:Int)<(m.moves.length:Int))=true:=decide_eq_true (by omega)
  have hw:=acT hi hs.moves
  have lx:decide ((10:Int)<(x.wants.length:Int))= !decide (x.wants.length≤10):=by rw[←decide_not,decide_eq_decide];omega
  cases c1:decide (x.wants.length≤10)with
  |false=>
   (have hb:=trivial;with_reducible repeat' (first|simp only[hb,Vc.down,seval,ao8.down,h1,h4,hd,hx,hw,lx,c1,acN.cells,abJ]|refine fsp ?_ ?_<;>intro hb|refine fd ?_|fail))
   exact kQ _ _ _ (by rw[if_neg (by simp only[aeF,c1,aeL];simp)];exact⟨rfl,by simp[up]⟩)
  |true=>
   (have hb:=trivial;with_reducible repeat' (first|simp only[hb,Vc.down,seval,ao8.down,h1,h4,hd,hx,hw,lx,c1,acN.cells,abJ]|refine fsp ?_ ?_<;>intro hb|refine fd ?_|fail))
   (refine adY (kJ _ _ () ⟨?_,?_,rfl⟩ ?_);(simp[up,h1]);(simp[up]);(simp only[aeF,c1,aeK]))
 ·exact⟨by simp[up,ent,h1],by simp[up],rfl⟩
 split at hk
 rotate_left
 ·obtain⟨rfl,h2⟩:=hk
  rename_i hr2
  (have hb:=trivial;with_reducible repeat' (first|simp only[hb,Vc.down,seval,ao8.down,h2]|refine fsp ?_ ?_<;>intro hb|refine fd ?_|fail))
  all_goals simp[apM,ad5.2 hr2]
 obtain⟨rfl,h1,rfl⟩:=hk
 rename_i hr2
 (have hb:=trivial;with_reducible repeat' (first|simp only[hb,Vc.down,seval,ao8.down,h1,abJ,l1,l2,l3,l4]|refine fsp ?_ ?_<;>intro hb|refine fd ?_|fail))
 all_goals (refine congrArg (fun b=>(Out.ret (AV.bool b),([]:aaA))) ?_;symm;((try simp only[ajO,afA,ahM]at *);simp only[apM, *,akO,aeL,Bool.and_true,aeK,Bool.and_self,Bool.not_not,afA,ahM,aeF,List.all_nil]))
theorem asQ{α:Type}{d:List AV→Option α}{f:α→List AV}(hd:∀cs x,d cs=some x→cs=f x):∀{rows:List (List AV)} {l:List α},ac8 d rows=some l→rows=l.map f
 | [],l,h=>by simp[ac8]at h;subst h;rfl
 |r::rows,l,h=>by
  simp only[ac8,aeT,aeZ]at h
  obtain⟨x,h1,l',h2,rfl⟩:=h
  rw[hd r x h1,asQ hd h2];rfl
def dSl{α:Type}(n:Nat)(fl:Bool)(d:List AV→Option α):AV→Option (Bool × List α)
 | .nils=>some (false,[])
 | .imm n' fl' rows=>if n'=n∧fl'=fl then(ac8 d rows).map fun l=>(true,l)else none
 |_=>none
theorem alI{α:Type}{n:Nat}{fl:Bool}{d:List AV→Option α}{f:α→List AV}(hd:∀cs x,d cs=some x→cs=f x){v:AV}{x:Bool × List α}(h:dSl n fl d v=some x):v=slv n fl x.1 (x.2.map f):=by
 unfold dSl at h
 split at h
 ·cases h;rfl
 ·split at h
  ·rename_i hq
   obtain⟨rfl,rfl⟩:=hq
   obtain⟨l,h1,rfl⟩:=aeZ.1 h
   rw[asQ hd h1]
   cases l<;>rfl
  ·cases h
 ·cases h
def ay3:List AV→Option Int
 | [.int .i64 a]=>some a
 |_=>none
theorem aq4(cs:List AV)(x:Int)(h:ay3 cs=some x):cs=iv x:=by
 unfold ay3 at h
 split at h
 ·cases h;rfl
 ·cases h
def aHD:List AV→Option ac3
 | [.int .i64 a,.int .i64 b,.bool c]=>some ⟨a,b,c⟩
 |_=>none
theorem aBL(cs:List AV)(x:ac3)(h:aHD cs=some x):cs=x.cells:=by
 unfold aHD at h
 split at h
 ·cases h;rfl
 ·cases h
def aAB:List AV→Option acO
 | [l,.int .i64 a,.int .i64 b,.bool c]=>(dSl 1 true ay3 l).map fun x=>⟨x.1,x.2,a,b,c⟩
 |_=>none
theorem ayU(cs:List AV)(x:acO)(h:aAB cs=some x):cs=x.cells:=by
 unfold aAB at h
 split at h
 ·obtain⟨y,h1,rfl⟩:=aeZ.1 h
  rw[alI aq4 h1];rfl
 ·cases h
def ayS:List AV→Option acP
 | [.int .i64 a,.bool c]=>some ⟨a,c⟩
 |_=>none
theorem azQ(cs:List AV)(x:acP)(h:ayS cs=some x):cs=x.cells:=by
 unfold ayS at h
 split at h
 ·cases h;rfl
 ·cases h
def axT:List AV→Option acN
 | [.int .i64 a,.int .i64 b,l,.int .i64 c,.int .i64 d]=>(dSl 2 true ayS l).map fun x=>⟨a,b,x.1,x.2,c,d⟩
 |_=>none
theorem ayH(cs:List AV)(x:acN)(h:axT cs=some x):cs=x.cells:=by
 unfold axT at h
 split at h
 ·obtain⟨y,h1,rfl⟩:=aeZ.1 h
  rw[alI azQ h1];rfl
 ·cases h
def asB:List AV→Option acZ
 | [s,v,x,.int .i64 a,.int .i64 b,.int .i64 c,o]=>(dSl 3 true aHD s).bind fun s=>(dSl 4 false aAB v).bind fun v=>(dSl 5 false axT x).bind fun x=>(dSl 1 true ay3 o).map fun o=>⟨s.1,s.2,v.1,v.2,x.1,x.2,a,b,c,o.1,o.2⟩
 |_=>none
theorem ao5(cs:List AV)(x:acZ)(h:asB cs=some x):cs=x.cells:=by
 unfold asB at h
 split at h
 ·simp only[aeT,aeZ]at h
  obtain⟨s,h1,v,h2,y,h3,o,h4,rfl⟩:=h
  rw[alI aBL h1,alI ayU h2,alI ayH h3,alI aq4 h4]
 ·cases h
def apL(m:acZ):Bool:=decide (m.sens.length≤1000)&&decide (m.votes.length≤1000)&&decide (m.moves.length≤1000)&&decide (m.opn.length≤1000)&&m.votes.all (fun v=>decide (v.sens.length≤1000))&&m.moves.all (fun x=>decide (x.wants.length≤1000))
theorem amY{m:acZ}(h:apL m=true):m.small:=by
 simp only[apL,ac9,decide_eq_true_eq,aeM]at h
 obtain⟨⟨⟨⟨⟨a,b⟩,c⟩,d⟩,e⟩,f⟩:=h
 exact⟨by unfold maxLen;omega,by unfold maxLen;omega,by unfold maxLen;omega,by unfold maxLen;omega,fun v hv=>by have:=e v hv;unfold maxLen;omega,fun v hv=>by have:=f v hv;unfold maxLen;omega⟩
def ayA:List AV→aaA→Option (Out × aaA)
 | [.agg cs],[]=>(asB cs).bind fun m=>if apL m=true then some (.ret (.bool (ae0 m)),[])else none
 |_,_=>none
def aDY:List AV→aaA→Option (Out × aaA)
 | [.agg cs,.agg [.int .i64 st,.int .i64 ag],.agg [.int .i64 bits,.int .i64 com]],[]=>(asB cs).bind fun m=>if(apL m&&m.moves.all fun x=>x.wants.all fun w=>decide (0≤w.vote))=true then
     (match ag7 st ag bits com m.moves with
       |(a,b)=>some (.ret (.agg [.int .i64 a,.int .i64 b]),[]))else none
 |_,_=>none
def azL:List AV→aaA→Option (Out × aaA)
 | [.agg cs,l],[]=>(asB cs).bind fun m=>(dSl 1 true ay3 l).bind fun l=>if(apL m&&decide (l.2.length=m.sens.length)&&m.votes.all fun v=>v.sens.all fun k=>decide (0≤k)&&decide (k.toNat<m.sens.length))=true then
     some (.ret (.int .i64 (aiU m l.2 m.votes 0 0)),[])else none
 |_,_=>none
def pr2:afD:=⟨fun f=>if f=42 then some ayA else if f=45 then some aDY else if f=46 then some azL else pr f,pr.md⟩
theorem amK:∀f p,pr2 f=some p→∀a h r,p a h=some r→om'.call (.fn f) a h=some r:=by
 intro f p hp a h r hr
 simp only[pr2]at hp
 split at hp
 ·rename_i hf
  subst hf
  cases hp
  unfold ayA at hr
  split at hr
  ·rename_i cs
   obtain⟨s,h1,h2⟩:=aeT.1 hr
   split at h2
   ·rename_i hs
    cases h2
    rw[ao5 _ _ h1]
    exact avN s (amY hs)
   ·cases h2
  ·cases hr
 ·split at hp
  ·rename_i hf
   subst hf
   cases hp
   unfold aDY at hr
   split at hr
   ·rename_i cs st ag bits com
    obtain⟨s,h1,h2⟩:=aeT.1 hr
    split at h2
    ·rename_i hs
     simp only[ac9,aeM,decide_eq_true_eq]at hs
     cases h2
     rw[ao5 _ _ h1]
     exact azV s st ag bits com (amY hs.1) hs.2
    ·cases h2
   ·cases hr
  ·split at hp
   ·rename_i hf
    subst hf
    cases hp
    unfold azL at hr
    split at hr
    ·rename_i cs l
     simp only[aeT]at hr
     obtain⟨s,h1,y,h2,h3⟩:=hr
     split at h3
     ·rename_i hs
      simp only[ac9,aeM,decide_eq_true_eq]at hs
      cases h3
      rw[ao5 _ _ h1,alI aq4 h2]
      exact au7 s hs.1.2 (amY hs.1.1) (fun v hv k hk=>hs.2 v hv k hk)
     ·cases h3
    ·cases hr
   ·cases hp
end Go.Proofs.Ytfkokgjfpojeoaa
