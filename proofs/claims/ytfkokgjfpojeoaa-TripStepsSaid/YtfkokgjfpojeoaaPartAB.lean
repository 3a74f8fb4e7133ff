/- The functions of the layer, walked. -/
import Derived.Test.YtfkokgjfpojeoaaPartAA
import Derived.Test.YtfkokgjfpojeoaaLibD
open List renaming length_map→aaB,mem_of_getElem?→aaD,all_cons→aaY,all_eq_true→acY,getElem?_eq_some_iff→afO,length_set→aAO,all_eq_not_any_not→aAT,getElem?_eq_getElem→aAY,length_eq_zero_iff→aAZ,getElem?_set_self→aCA
open Int renaming lt_irrefl→aaC
open Bool renaming and_eq_true→aaE,eq_false_iff→aaG,true_and→acA,false_and→acJ,not_true→ap2,not_false→arZ,eq_iff_iff→aAP,not_eq_eq_eq_not→aBN,and_false→aB3
open Option renaming bind_eq_some_iff→agS,map_eq_some_iff→amO
set_option linter.unusedSimpArgs false
set_option linter.unusedVariables false
namespace Go.Proofs.Ytfkokgjfpojeoaa
open Go.Ev Go
set_option maxRecDepth 100000
set_option maxHeartbeats 16000000
theorem iZ(m:Az)(hs:m.small):Eo.call (.fn 15) [.agg [Ae 3 true m.nS (m.sens.map Bc.cells),Ae 4 false m.nV (m.votes.map Am.cells),Ae 5 false m.nM (m.moves.map Ak.cells),.int .i64 m.states,.int .i64 m.cmds,.int .i64 m.bgn,Ae 1 true m.nO (m.opn.map iv)]] []=some (.ret (.bool (Ei m)),[]):=by
 have l1:decide ((6:Int)<(m.sens.length:Int))= !decide (m.sens.length≤6):=by rw[←decide_not,decide_eq_decide];omega
 have l2:decide ((6:Int)<(m.votes.length:Int))= !decide (m.votes.length≤6):=by rw[←decide_not,decide_eq_decide];omega
 have l3:decide ((20:Int)<(m.moves.length:Int))= !decide (m.moves.length≤20):=by rw[←decide_not,decide_eq_decide];omega
 have sen:∀x:Bc,fK x=(!decide (x.lo < -10000)&& !decide (x.hi<x.lo)&& !decide (10000<x.hi)):=fun x=>by
  rw[aAP];simp[fK,Up,Ls];omega
 (refine ce Try.func15 ?_;simp only[Try.f15];(have hb:=trivial;with_reducible repeat' (first|simp only[hb,Vc.down,seval,Ob.down,aaB]|refine Aw ?_ ?_<;>intro hb|refine fd ?_|fail)))
 refine Ek (Ve 126 m.sens (fun i (zz:Unit) t h=>t 1=.ptr 0 0 0∧t 3=.int .i64 i∧(h[0]?=some (.live 7 false false [[Ae 3 true m.nS (m.sens.map Bc.cells),Ae 4 false m.nV (m.votes.map Am.cells),Ae 5 false m.nM (m.moves.map Ak.cells),.int .i64 m.states,.int .i64 m.cmds,.int .i64 m.bgn,Ae 1 true m.nO (m.opn.map iv)]]))) (fun rest zz=>rest.all fK) (fun r e t h=>(if r=true then e=.exit 0∧t 1=.ptr 0 0 0∧h[0]?=some (.live 7 false false [[Ae 3 true m.nS (m.sens.map Bc.cells),Ae 4 false m.nV (m.votes.map Am.cells),Ae 5 false m.nM (m.moves.map Ak.cells),.int .i64 m.states,.int .i64 m.cmds,.int .i64 m.bgn,Ae 1 true m.nO (m.opn.map iv)]])else e=.ret∧t 2=.bool false)) ?_ ?_ () _ _ ?_) (fun e t h hk=>?_)
 ·rintro _ t h Q' kQ ⟨h1,h3,hA⟩
  (have hb:=trivial;with_reducible repeat' (first|simp only[hb,Vc.down,seval,Ob.down,h1,h3,aaC,decide_false,hA,aaB]|refine Aw ?_ ?_<;>intro hb|refine fd ?_|fail))
  exact kQ _ _ _ (by rw[if_pos (by rfl)];exact⟨rfl,by simp[up,h1],hA⟩)
 ·rintro x rest i _ t h J Q' kJ kQ hx hi ⟨h1,h3,hA⟩
  have hd:decide ((i:Int)<(m.sens.length:Int))=true:=decide_eq_true (by omega)
  have hw:=Ar hi hs.sens
  have hA1:=Bl hA
  (have hb:=trivial;with_reducible repeat' (first|simp only[hb,Vc.down,seval,Ob.down,h1,h3,hd,hx,hw,hA,hA1,Bc.cells,aaB]|refine Aw ?_ ?_<;>intro hb|refine fd ?_|fail))
  all_goals first
   |exact kQ _ _ _ (by rw[if_neg (by simp_all)];exact⟨rfl,by simp[up]⟩)
   |(refine Bw (kJ _ _ () ⟨?_,?_,hA1 _⟩ ?_);(simp[up,h1]);(simp[up]);(simp_all))
 ·exact⟨by simp[up,Dz],by simp[up],rfl⟩
 split at hk
 rotate_left
 ·obtain⟨rfl,h2⟩:=hk
  rename_i hr1
  (have hb:=trivial;with_reducible repeat' (first|simp only[hb,Vc.down,seval,Ob.down,h2]|refine Aw ?_ ?_<;>intro hb|refine fd ?_|fail))
  all_goals simp[Ei,aaG.2 hr1]
 obtain⟨rfl,h1,hA⟩:=hk
 rename_i hr1
 have hA1:=Bl hA
 (have hb:=trivial;with_reducible repeat' (first|simp only[hb,Vc.down,seval,Ob.down,h1,hA,hA1,aaB]|refine Aw ?_ ?_<;>intro hb|refine fd ?_|fail))
 refine Ek (Ve 126 m.votes (fun i (zz:Unit) t h=>t 1=.ptr 0 0 0∧t 5=.int .i64 i∧(h[0]?=some (.live 7 false false [[Ae 3 true m.nS (m.sens.map Bc.cells),Ae 4 false m.nV (m.votes.map Am.cells),Ae 5 false m.nM (m.moves.map Ak.cells),.int .i64 m.states,.int .i64 m.cmds,.int .i64 m.bgn,Ae 1 true m.nO (m.opn.map iv)]]))) (fun rest zz=>rest.all (Ry m.sens.length)) (fun r e t h=>(if r=true then e=.exit 2∧t 1=.ptr 0 0 0∧h[0]?=some (.live 7 false false [[Ae 3 true m.nS (m.sens.map Bc.cells),Ae 4 false m.nV (m.votes.map Am.cells),Ae 5 false m.nM (m.moves.map Ak.cells),.int .i64 m.states,.int .i64 m.cmds,.int .i64 m.bgn,Ae 1 true m.nO (m.opn.map iv)]])else e=.ret∧t 2=.bool false)) ?_ ?_ () _ _ ?_) (fun e t h hk=>?_)
 ·rintro _ t h Q' kQ ⟨h1,h5,hA⟩
  (have hb:=trivial;with_reducible repeat' (first|simp only[hb,Vc.down,seval,Ob.down,h1,h5,aaC,decide_false,hA,aaB]|refine Aw ?_ ?_<;>intro hb|refine fd ?_|fail))
  exact kQ _ _ _ (by rw[if_pos (by rfl)];exact⟨rfl,by simp[up,h1],hA⟩)
 ·rintro x rest i _ t h J Q' kJ kQ hx hi ⟨h1,h5,hA⟩
  have hd:decide ((i:Int)<(m.votes.length:Int))=true:=decide_eq_true (by omega)
  have hw:=Ar hi hs.votes
  have hA1:=Bl hA
  have hV:=xQ x m.sens.length (hs.vs x (aaD hx))
  (have hb:=trivial;with_reducible repeat' (first|simp only[hb,Vc.down,seval,Ob.down,h1,h5,hd,hx,hw,hA,hA1,hV,Am.cells,aaB]|refine Aw ?_ ?_<;>intro hb|refine fd ?_|fail))
  all_goals first
   |exact kQ _ _ _ (by rw[if_neg (by simp_all)];exact⟨rfl,by simp[up]⟩)
   |(refine Bw (kJ _ _ () ⟨?_,?_,hA⟩ ?_);(simp[up,h1]);(simp[up]);(simp_all))
 ·exact⟨by simp[up,Dz,h1],by simp[up],hA⟩
 split at hk
 rotate_left
 ·obtain⟨rfl,h2⟩:=hk
  rename_i hr2
  (have hb:=trivial;with_reducible repeat' (first|simp only[hb,Vc.down,seval,Ob.down,h2]|refine Aw ?_ ?_<;>intro hb|refine fd ?_|fail))
  all_goals simp[Ei,aaG.2 hr2]
 obtain⟨rfl,h1,hA⟩:=hk
 rename_i hr2
 have hA1:=Bl hA
 cases hp:Ou m with
 |false=>
  have hp':Ei m=false:=by simp[Ei,hp]
  rw[hp']
  (have hb:=trivial;with_reducible repeat' (first|simp only[hb,Vc.down,seval,Ob.down,h1,hA,hA1,aaB,Xi,l1,l2,l3]|refine Aw ?_ ?_<;>intro hb|refine fd ?_|fail))
  all_goals first
   |rfl
   |(exfalso;simp_all[Ou];done)
 |true=>
  have hp':=hp
  simp only[Ou,aaE]at hp'
  obtain⟨⟨⟨⟨⟨⟨p1,p2⟩,p3⟩,p4⟩,p5⟩,p6⟩,p7⟩:=hp'
  (have hb:=trivial;with_reducible repeat' (first|simp only[hb,Vc.down,seval,Ob.down,h1,hA,hA1,aaB,Xi,l1,l2,l3,p1,p2,p3,p4,p5,p6,p7]|refine Aw ?_ ?_<;>intro hb|refine fd ?_|fail))
  refine Ek (Ve 126 m.opn (fun i (zz:Unit) t h=>t 1=.ptr 0 0 0∧t 6=.int .i64 i∧(h[0]?=some (.live 7 false false [[Ae 3 true m.nS (m.sens.map Bc.cells),Ae 4 false m.nV (m.votes.map Am.cells),Ae 5 false m.nM (m.moves.map Ak.cells),.int .i64 m.states,.int .i64 m.cmds,.int .i64 m.bgn,Ae 1 true m.nO (m.opn.map iv)]]))) (fun rest zz=>rest.all (fun n=>Ls n 0 255)) (fun r e t h=>(if r=true then e=.exit 4∧t 1=.ptr 0 0 0∧h[0]?=some (.live 7 false false [[Ae 3 true m.nS (m.sens.map Bc.cells),Ae 4 false m.nV (m.votes.map Am.cells),Ae 5 false m.nM (m.moves.map Ak.cells),.int .i64 m.states,.int .i64 m.cmds,.int .i64 m.bgn,Ae 1 true m.nO (m.opn.map iv)]])else e=.ret∧t 2=.bool false)) ?_ ?_ () _ _ ?_) (fun e t h hk=>?_)
  ·rintro _ t h Q' kQ ⟨h1,h6,hA⟩
   (have hb:=trivial;with_reducible repeat' (first|simp only[hb,Vc.down,seval,Ob.down,h1,h6,aaC,decide_false,hA,aaB]|refine Aw ?_ ?_<;>intro hb|refine fd ?_|fail))
   exact kQ _ _ _ (by rw[if_pos (by rfl)];exact⟨rfl,by simp[up,h1],hA⟩)
  ·rintro x rest i _ t h J Q' kJ kQ hx hi ⟨h1,h6,hA⟩
   have hd:decide ((i:Int)<(m.opn.length:Int))=true:=decide_eq_true (by omega)
   have hw:=Ar hi hs.opn
   have hA1:=Bl hA
   (have hb:=trivial;with_reducible repeat' (first|simp only[hb,Vc.down,seval,Ob.down,h1,h6,hd,hx,hw,hA,hA1,Xi,iv,aaB]|refine Aw ?_ ?_<;>intro hb|refine fd ?_|fail))
   all_goals first
    |exact kQ _ _ _ (by rw[if_neg (by simp_all)];exact⟨rfl,by simp[up]⟩)
    |(refine Bw (kJ _ _ () ⟨?_,?_,hA⟩ ?_);(simp[up,h1]);(simp[up]);(simp_all))
  ·exact⟨by simp[up,Dz,h1],by simp[up],hA⟩
  split at hk
  rotate_left
  ·obtain⟨rfl,h2⟩:=hk
   rename_i hr3
   (have hb:=trivial;with_reducible repeat' (first|simp only[hb,Vc.down,seval,Ob.down,h2]|refine Aw ?_ ?_<;>intro hb|refine fd ?_|fail))
   all_goals simp[Ei,aaG.2 hr3]
  obtain⟨rfl,h1,hA⟩:=hk
  rename_i hr3
  have hA1:=Bl hA
  (have hb:=trivial;with_reducible repeat' (first|simp only[hb,Vc.down,seval,Ob.down,h1,hA,hA1,aaB]|refine Aw ?_ ?_<;>intro hb|refine fd ?_|fail))
  refine Ek (Ve 126 m.moves (fun i (zz:Unit) t h=>t 1=.ptr 0 0 0∧t 7=.int .i64 i∧(h[0]?=some (.live 7 false false [[Ae 3 true m.nS (m.sens.map Bc.cells),Ae 4 false m.nV (m.votes.map Am.cells),Ae 5 false m.nM (m.moves.map Ak.cells),.int .i64 m.states,.int .i64 m.cmds,.int .i64 m.bgn,Ae 1 true m.nO (m.opn.map iv)]]))) (fun rest zz=>rest.all (Ku m)) (fun r e t h=>(if r=true then e=.exit 6 else e=.ret∧t 2=.bool false)) ?_ ?_ () _ _ ?_) (fun e t h hk=>?_)
  ·rintro _ t h Q' kQ ⟨h1,h7,hA⟩
   (have hb:=trivial;with_reducible repeat' (first|simp only[hb,Vc.down,seval,Ob.down,h1,h7,aaC,decide_false,hA,aaB]|refine Aw ?_ ?_<;>intro hb|refine fd ?_|fail))
   exact kQ _ _ _ (by rw[if_pos (by rfl)])
  ·rintro x rest i _ t h J Q' kJ kQ hx hi ⟨h1,h7,hA⟩
   have hd:decide ((i:Int)<(m.moves.length:Int))=true:=decide_eq_true (by omega)
   have hw:=Ar hi hs.moves
   have hA1:=Bl hA
   have hM:=xU m x (hs.ws x (aaD hx))
   (have hb:=trivial;with_reducible repeat' (first|simp only[hb,Vc.down,seval,Ob.down,h1,h7,hd,hx,hw,hA,hA1,hM,Ak.cells,aaB]|refine Aw ?_ ?_<;>intro hb|refine fd ?_|fail))
   all_goals first
    |exact kQ _ _ _ (by rw[if_neg (by simp_all)];exact⟨rfl,by simp[up]⟩)
    |(refine Bw (kJ _ _ () ⟨?_,?_,hA⟩ ?_);(simp[up,h1]);(simp[up]);(simp_all))
  ·exact⟨by simp[up,Dz,h1],by simp[up],hA⟩
  split at hk
  ·subst hk
   rename_i hr4
   (have hb:=trivial;with_reducible repeat' (first|simp only[hb,Vc.down,seval,Ob.down]|refine Aw ?_ ?_<;>intro hb|refine fd ?_|fail))
   all_goals simp[Ei,hp,hr1,hr2,hr3,hr4]
  ·obtain⟨rfl,h2⟩:=hk
   rename_i hr4
   (have hb:=trivial;with_reducible repeat' (first|simp only[hb,Vc.down,seval,Ob.down,h2]|refine Aw ?_ ?_<;>intro hb|refine fd ?_|fail))
   all_goals simp[Ei,aaG.2 hr4]
def Sm(m:Az)(l:List Int):Bool:=((l.length:Int)==(m.sens.length:Int))&&l.all Up
def Rx(m:Az)(s:Lo):Bool:=Sm m s.reads&&Ls s.cmd (-1) (IntKind.i64.wrap (m.cmds-1))
theorem zO(m:Az){l:List Int}{nn:Bool}(hl:l.length≤maxLen):Eo.call (.fn 62) [.agg [Ae 3 true m.nS (m.sens.map Bc.cells),Ae 4 false m.nV (m.votes.map Am.cells),Ae 5 false m.nM (m.moves.map Ak.cells),.int .i64 m.states,.int .i64 m.cmds,.int .i64 m.bgn,Ae 1 true m.nO (m.opn.map iv)],Ae 1 true nn (l.map iv)] []=some (.ret (.bool (Sm m l)),[]):=by
 have hc:=aL (l:=l) (nn:=nn) (g:=82) (cap:=[]) (p:=fun x=> !Up x) rfl rfl (fun x _=>rF x) hl
 have q2:l.all Up= !(l.any fun x=> !Up x):=aAT
 (refine ce Try.func62 ?_;simp only[Try.f62];(have hb:=trivial;with_reducible repeat' (first|simp only[hb,Vc.down,seval,aFM.down,aaB,hc]|refine Aw ?_ ?_<;>intro hb|refine fd ?_|fail)))
 all_goals simp only[Sm,q2,hb,acA,acJ]
theorem fN(m:Az){l:List Int}{nn:Bool}(hl:l.length≤maxLen):Eo.call (.fn 24) [.agg [Ae 3 true m.nS (m.sens.map Bc.cells),Ae 4 false m.nV (m.votes.map Am.cells),Ae 5 false m.nM (m.moves.map Ak.cells),.int .i64 m.states,.int .i64 m.cmds,.int .i64 m.bgn,Ae 1 true m.nO (m.opn.map iv)],Ae 1 true nn (l.map iv)] []=some (.ret (.bool (Sm m l)),[]):=by
 (refine ce Try.func24 ?_;simp only[Try.f24];(have hb:=trivial;with_reducible repeat' (first|simp only[hb,Vc.down,seval,lT.down,aaB]|refine Aw ?_ ?_<;>intro hb|refine fd ?_|fail)))
 refine Ek (Ve 24 l (fun i (zz:Unit) t h=>t 1=Ae 1 true nn (l.map iv)∧t 2=.ptr 0 0 0∧t 5=.int .i64 i∧(h[0]?=some (.live 7 false false [[Ae 3 true m.nS (m.sens.map Bc.cells),Ae 4 false m.nV (m.votes.map Am.cells),Ae 5 false m.nM (m.moves.map Ak.cells),.int .i64 m.states,.int .i64 m.cmds,.int .i64 m.bgn,Ae 1 true m.nO (m.opn.map iv)]]))) (fun rest zz=>rest.all Up) (fun r e t h=>(if r=true then e=.exit 0∧t 1=Ae 1 true nn (l.map iv)∧t 2=.ptr 0 0 0∧h[0]?=some (.live 7 false false [[Ae 3 true m.nS (m.sens.map Bc.cells),Ae 4 false m.nV (m.votes.map Am.cells),Ae 5 false m.nM (m.moves.map Ak.cells),.int .i64 m.states,.int .i64 m.cmds,.int .i64 m.bgn,Ae 1 true m.nO (m.opn.map iv)]])else e=.ret∧t 4=.bool false)) ?_ ?_ () _ _ ?_) (fun e t h hk=>?_)
 ·rintro _ t h Q' kQ ⟨h1,h2,h5,hA⟩
  (have hb:=trivial;with_reducible repeat' (first|simp only[hb,Vc.down,seval,lT.down,h1,h2,h5,aaC,decide_false,aaB]|refine Aw ?_ ?_<;>intro hb|refine fd ?_|fail))
  exact kQ _ _ _ (by rw[if_pos (by rfl)];exact⟨rfl,by simp[up,h1],by simp[up,h2],hA⟩)
 ·rintro x rest i _ t h J Q' kJ kQ hx hi ⟨h1,h2,h5,hA⟩
  have hd:decide ((i:Int)<(l.length:Int))=true:=decide_eq_true (by omega)
  have hw:=Ar hi hl
  have hv:Ls x (-10000) 10000=Up x:=rfl
  (have hb:=trivial;with_reducible repeat' (first|simp only[hb,Vc.down,seval,lT.down,h1,h2,h5,hd,hx,hw,Xi,hv,iv,aaB]|refine Aw ?_ ?_<;>intro hb|refine fd ?_|fail))
  all_goals first
   |exact kQ _ _ _ (by rw[if_neg (by simp_all)];exact⟨rfl,by simp[up]⟩)
   |(refine Bw (kJ _ _ () ⟨?_,?_,?_,hA⟩ ?_);(simp[up,h1]);(simp[up,h2]);(simp[up]);(simp_all))
 ·exact⟨by simp[up,Dz],by simp[up,Dz],by simp[up],rfl⟩
 split at hk
 ·obtain⟨rfl,h1,h2,hA⟩:=hk
  rename_i hr1
  have hA1:=Bl hA
  (have hb:=trivial;with_reducible repeat' (first|simp only[hb,Vc.down,seval,lT.down,h1,h2,hA,hA1,aaB]|refine Aw ?_ ?_<;>intro hb|refine fd ?_|fail))
  all_goals simp[Sm,hr1]
 ·obtain⟨rfl,h2⟩:=hk
  rename_i hr1
  (have hb:=trivial;with_reducible repeat' (first|simp only[hb,Vc.down,seval,lT.down,h2]|refine Aw ?_ ?_<;>intro hb|refine fd ?_|fail))
  all_goals simp[Sm,aaG.2 hr1]
theorem kK(m:Az)(s:Lo)(hl:s.reads.length≤maxLen):Eo.call (.fn 44) [.agg [Ae 3 true m.nS (m.sens.map Bc.cells),Ae 4 false m.nV (m.votes.map Am.cells),Ae 5 false m.nM (m.moves.map Ak.cells),.int .i64 m.states,.int .i64 m.cmds,.int .i64 m.bgn,Ae 1 true m.nO (m.opn.map iv)],.agg [Ae 1 true s.nn (s.reads.map iv),.int .i64 s.cmd]] []=some (.ret (.bool (Rx m s)),[]):=by
 have hr:=zO m (nn:=s.nn) hl
 (refine ce Try.func44 ?_;simp only[Try.f44];(have hb:=trivial;with_reducible repeat' (first|simp only[hb,Vc.down,seval,aEF.down,hr,Re]|refine Aw ?_ ?_<;>intro hb|refine fd ?_|fail)))
 all_goals simp_all[Rx]
theorem zH(m:Az)(s:Lo)(hl:s.reads.length≤maxLen):Eo.call (.fn 16) [.agg [Ae 3 true m.nS (m.sens.map Bc.cells),Ae 4 false m.nV (m.votes.map Am.cells),Ae 5 false m.nM (m.moves.map Ak.cells),.int .i64 m.states,.int .i64 m.cmds,.int .i64 m.bgn,Ae 1 true m.nO (m.opn.map iv)],.agg [Ae 1 true s.nn (s.reads.map iv),.int .i64 s.cmd]] []=some (.ret (.bool (Rx m s)),[]):=by
 have hr:=fN m (nn:=s.nn) hl
 (refine ce Try.func16 ?_;simp only[Try.f16];(have hb:=trivial;with_reducible repeat' (first|simp only[hb,Vc.down,seval,aGS.down,hr,Xi]|refine Aw ?_ ?_<;>intro hb|refine fd ?_|fail)))
 all_goals simp_all[Rx]
def bZ(m:Az)(k:Int):Bc:=m.sens.getD k.toNat ⟨0,0,false⟩
def yN(l:List Int)(k:Int):Int:=l.getD k.toNat 0
theorem gA{m:Az}{k:Int}(h:k.toNat<m.sens.length):m.sens[k.toNat]?=some (bZ m k):=by
 simp[bZ,List.getD,aAY h]
theorem iC{l:List Int}{k:Int}(h:k.toNat<l.length):l[k.toNat]?=some (yN l k):=by
 simp[yN,List.getD,aAY h]
def bB(m:Az)(v:Am)(l:List Int):List Int→Int→Int
 | [],c=>c
 |k::ks,c=>bB m v l ks (if Vh (bZ m k) v (yN l k)=true then IntKind.i64.wrap (c+1)else c)
def Rl(m:Az)(l:List Int)(v:Am):Bool:=decide (v.need≤bB m v l v.sens 0)
def Idx(m:Az)(l:List Int):Prop:=∀k∈l,0≤k∧k.toNat<m.sens.length
theorem iG{n:Nat}(hn:n≤6):∀{l:List Int} {p:Option Int},Nj n l p=true→∀k∈l,0≤k∧k.toNat<n
 | [],_,_,k,h=>by cases h
 |x::l,p,h,k,hk=>by
  simp only[Nj,aaE]at h
  rcases List.mem_cons.1 hk with rfl|hk
  ·have:=h.1.1
   rw[Ly (by omega) (by omega)]at this
   simp[Ls]at this
   omega
  ·exact iG hn h.2 k hk
theorem cE{m:Az}(h:Ei m=true):∀v∈m.votes,Idx m v.sens:=fun v hv=>by
 simp only[Ei,Ou,aaE,decide_eq_true_eq,acY]at h
 have h2:=h.1.1.2 v hv
 simp only[Ry,aaE]at h2
 exact iG h.1.1.1.1.1.1.1.1.1.1 h2.1.1
theorem xK(m:Az)(v:Am)(k r:Int)(h0:0≤k)(hk:k.toNat<m.sens.length):Eo.call (.fn 81) [.agg [Ae 3 true m.nS (m.sens.map Bc.cells),Ae 4 false m.nV (m.votes.map Am.cells),Ae 5 false m.nM (m.moves.map Ak.cells),.int .i64 m.states,.int .i64 m.cmds,.int .i64 m.bgn,Ae 1 true m.nO (m.opn.map iv)],.agg [Ae 1 true v.nn (v.sens.map iv),.int .i64 v.need,.int .i64 v.level,.bool v.above],.int .i64 k,.int .i64 r] []=some (.ret (.bool (Vh (bZ m k) v r)),[]):=by
 have hs:=gA hk
 have h0':(0≤k)=True:=eq_true h0
 have e:Vh (bZ m k) v r=(!(bZ m k).byp&&((decide (r<(bZ m k).lo)||decide ((bZ m k).hi<r))||((v.above&&decide (v.level≤r))||(!v.above&&decide (r≤v.level))))):=by
  have q:(!Ls r (bZ m k).lo (bZ m k).hi)=(decide (r<(bZ m k).lo)||decide ((bZ m k).hi<r)):=by rw[aAP];simp[Ls]<;>try omega
  unfold Vh
  rw[q]
  cases v.above<;>simp
 rw[e]
 generalize bZ m k=s at hs
 (refine ce Try.func81 ?_;simp only[Try.f81];(have hb:=trivial;with_reducible repeat' (first|simp only[hb,Vc.down,seval,aHI.down,hs,h0',Bc.cells]|refine Aw ?_ ?_<;>intro hb|refine fd ?_|fail)))
 all_goals simp_all
theorem azV(m:Az)(v:Am){l:List Int}{nn:Bool}(hl:l.length=m.sens.length)(hv:v.sens.length≤maxLen)(hi:Idx m v.sens):Eo.call (.fn 60) [.agg [Ae 3 true m.nS (m.sens.map Bc.cells),Ae 4 false m.nV (m.votes.map Am.cells),Ae 5 false m.nM (m.moves.map Ak.cells),.int .i64 m.states,.int .i64 m.cmds,.int .i64 m.bgn,Ae 1 true m.nO (m.opn.map iv)],.agg [Ae 1 true v.nn (v.sens.map iv),.int .i64 v.need,.int .i64 v.level,.bool v.above],Ae 1 true nn (l.map iv)] []=some (.ret (.bool (Rl m l v)),[]):=by
 have hI:=hi
 clear hi
 (refine ce Try.func60 ?_;simp only[Try.f60];(have hb:=trivial;with_reducible repeat' (first|simp only[hb,Vc.down,seval,sA.down,aaB]|refine Aw ?_ ?_<;>intro hb|refine fd ?_|fail)))
 refine Ek (Ve 38 v.sens (fun i (zz:Int) t h=>t 2=Ae 1 true nn (l.map iv)∧t 3=.ptr 0 0 0∧t 4=.ptr 1 0 0∧t 8=.int .i64 i∧t 7=.int .i64 zz∧(h=[.live 7 false false [[Ae 3 true m.nS (m.sens.map Bc.cells),Ae 4 false m.nV (m.votes.map Am.cells),Ae 5 false m.nM (m.moves.map Ak.cells),.int .i64 m.states,.int .i64 m.cmds,.int .i64 m.bgn,Ae 1 true m.nO (m.opn.map iv)]],.live 4 false false [[Ae 1 true v.nn (v.sens.map iv),.int .i64 v.need,.int .i64 v.level,.bool v.above]]])) (fun rest zz=>bB m v l rest zz) (fun r e t h=>e=.exit 0∧t 4=.ptr 1 0 0∧t 7=.int .i64 r∧h=[.live 7 false false [[Ae 3 true m.nS (m.sens.map Bc.cells),Ae 4 false m.nV (m.votes.map Am.cells),Ae 5 false m.nM (m.moves.map Ak.cells),.int .i64 m.states,.int .i64 m.cmds,.int .i64 m.bgn,Ae 1 true m.nO (m.opn.map iv)]],.live 4 false false [[Ae 1 true v.nn (v.sens.map iv),.int .i64 v.need,.int .i64 v.level,.bool v.above]]]) ?_ ?_ (0) _ _ ?_) (fun e t h hk=>?_)
 ·rintro c t h Q' kQ ⟨h2,h3,h4,h8,h7,rfl⟩
  (have hb:=trivial;with_reducible repeat' (first|simp only[hb,Vc.down,seval,sA.down,h2,h3,h4,h8,h7,aaC,decide_false,aaB]|refine Aw ?_ ?_<;>intro hb|refine fd ?_|fail))
  exact kQ _ _ _ ⟨rfl,by simp[up,h4],by simp[up,h7,bB],rfl⟩
 ·rintro x rest i c t h J Q' kJ kQ hx hi ⟨h2,h3,h4,h8,h7,rfl⟩
  have hd:decide ((i:Int)<(v.sens.length:Int))=true:=decide_eq_true (by omega)
  have hw:=Ar hi hv
  obtain⟨k0,k1⟩:=hI x (aaD hx)
  have hrr:=iC (l:=l) (k:=x) (by omega)
  have h0':(0≤x)=True:=eq_true k0
  have hS:=xK m v x (yN l x) k0 k1
  generalize hq:Vh (bZ m x) v (yN l x)=q at hS
  (have hb:=trivial;with_reducible repeat' (first|simp only[hb,Vc.down,seval,sA.down,h2,h3,h4,h7,h8,hd,hx,hw,hrr,h0',hS,iv,aaB]|refine Aw ?_ ?_<;>intro hb|refine fd ?_|fail))
  all_goals (refine Bw (kJ _ _ (if q=true then IntKind.i64.wrap (c+1)else c) ⟨?_,?_,?_,?_,?_,rfl⟩ ?_);(simp[up,h2]);(simp[up,h3]);(simp[up,h4]);(simp[up]);(simp[up,h7,hb]);(simp[bB,hq]))
 ·exact⟨by simp[up,Dz],by simp[up,Dz],by simp[up,Dz],by simp[up],by simp[up,Dz],rfl⟩
 obtain⟨rfl,h4,h7,rfl⟩:=hk
 (have hb:=trivial;with_reducible repeat' (first|simp only[hb,Vc.down,seval,sA.down,h4,h7]|refine Aw ?_ ?_<;>intro hb|refine fd ?_|fail))
 rfl
def orN(a b:Int):Int:=IntKind.i64.wrap ((BitVec.ofInt 64 a|||BitVec.ofInt 64 b).toNat:Int)
theorem aqU(ty:TypeId)(a b:Int):Hk Try.prog .or ty (.int .i64 a) (.int .i64 b)=some (.int .i64 (orN a b)):=by
 show(if IntKind.i64=IntKind.i64 then Fz .or .i64 a b else none)=_
 rw[if_pos rfl];rfl
def Ld(m:Az)(l:List Int):List Am→Nat→Int→Int
 | [],_,b=>b
 |v::vs,i,b=>Ld m l vs (i+1) (if Rl m l v=true then orN b (pC i)else b)
theorem fY(m:Az){l:List Int}{nn:Bool}(hl:l.length=m.sens.length)(hs:m.small)(hi:∀v∈m.votes,Idx m v.sens):Eo.call (.fn 46) [.agg [Ae 3 true m.nS (m.sens.map Bc.cells),Ae 4 false m.nV (m.votes.map Am.cells),Ae 5 false m.nM (m.moves.map Ak.cells),.int .i64 m.states,.int .i64 m.cmds,.int .i64 m.bgn,Ae 1 true m.nO (m.opn.map iv)],Ae 1 true nn (l.map iv)] []=some (.ret (.int .i64 (Ld m l m.votes 0 0)),[]):=by
 have hI:=hi
 clear hi
 (refine ce Try.func46 ?_;simp only[Try.f46];(have hb:=trivial;with_reducible repeat' (first|simp only[hb,Vc.down,seval,fR.down,aaB]|refine Aw ?_ ?_<;>intro hb|refine fd ?_|fail)))
 refine Ek (Ve 50 m.votes (fun i (zz:Nat × Int) t h=>t 1=Ae 1 true nn (l.map iv)∧t 2=.ptr 0 0 0∧t 12=Ae 4 false m.nV (m.votes.map Am.cells)∧t 13=.int .i64 m.votes.length∧t 14=.int .i64 i∧t 5=.int .i64 zz.2∧(h[0]?=some (.live 7 false false [[Ae 3 true m.nS (m.sens.map Bc.cells),Ae 4 false m.nV (m.votes.map Am.cells),Ae 5 false m.nM (m.moves.map Ak.cells),.int .i64 m.states,.int .i64 m.cmds,.int .i64 m.bgn,Ae 1 true m.nO (m.opn.map iv)]])∧i=zz.1)) (fun rest zz=>Ld m l rest zz.1 zz.2) (fun r e t h=>e=.exit 0∧t 5=.int .i64 r) ?_ ?_ (0,0) _ _ ?_) (fun e t h hk=>?_)
 ·rintro⟨k,b⟩ t h Q' kQ ⟨h1,h2,h12,h13,h14,h5,⟨hA,rfl⟩⟩
  try dsimp only at *
  (have hb:=trivial;with_reducible repeat' (first|simp only[hb,Vc.down,seval,fR.down,h1,h2,h12,h13,h14,h5,aaC,decide_false]|refine Aw ?_ ?_<;>intro hb|refine fd ?_|fail))
  exact kQ _ _ _ ⟨rfl,by simp[up,h5,Ld]⟩
 ·rintro x rest i ⟨k,b⟩ t h J Q' kJ kQ hx hi ⟨h1,h2,h12,h13,h14,h5,⟨hA,rfl⟩⟩
  have hd:decide ((i:Int)<(m.votes.length:Int))=true:=decide_eq_true (by omega)
  have hw:=Ar hi hs.votes
  try dsimp only at *
  have hA1:=Bl hA
  have hvs:=hs.vs x (aaD hx)
  have hIx:=hI x (aaD hx)
  obtain⟨w,rfl⟩:∃w,w=x:=⟨_,rfl⟩
  obtain⟨k,rfl⟩:∃k,k=i:=⟨_,rfl⟩
  obtain⟨hL,hLe⟩:∃hL,hL=h.length:=⟨_,rfl⟩
  (have hb:=trivial;with_reducible repeat' (first|simp only[hb,Vc.down,seval,fR.down,h1,h2,h12,h13,h14,h5,hd,hx,hw,hA1,Am.cells,aaB]|refine Aw ?_ ?_<;>intro hb|refine fd ?_|fail))
  refine Ek (Ve 50 w.sens (fun i (zz:Int) t h=>t 1=Ae 1 true nn (l.map iv)∧t 2=.ptr 0 0 0∧t 12=Ae 4 false m.nV (m.votes.map Am.cells)∧t 13=.int .i64 m.votes.length∧t 14=.int .i64 (k:Int)∧t 5=.int .i64 b∧t 6=.int .i64 (k:Int)∧t 7=.ptr hL 0 0∧t 20=Ae 1 true w.nn (w.sens.map iv)∧t 21=.int .i64 w.sens.length∧t 22=.int .i64 i∧t 8=.int .i64 zz∧(h[0]?=some (.live 7 false false [[Ae 3 true m.nS (m.sens.map Bc.cells),Ae 4 false m.nV (m.votes.map Am.cells),Ae 5 false m.nM (m.moves.map Ak.cells),.int .i64 m.states,.int .i64 m.cmds,.int .i64 m.bgn,Ae 1 true m.nO (m.opn.map iv)]])∧∃wf,h[hL]?=some (.live 4 false wf [[Ae 1 true w.nn (w.sens.map iv),.int .i64 w.need,.int .i64 w.level,.bool w.above]]))) (fun rest zz=>bB m w l rest zz) (fun r e t h=>e=.exit 2∧t 1=Ae 1 true nn (l.map iv)∧t 2=.ptr 0 0 0∧t 12=Ae 4 false m.nV (m.votes.map Am.cells)∧t 13=.int .i64 m.votes.length∧t 14=.int .i64 (k:Int)∧t 5=.int .i64 b∧t 6=.int .i64 (k:Int)∧t 7=.ptr hL 0 0∧t 8=.int .i64 r∧h[0]?=some (.live 7 false false [[Ae 3 true m.nS (m.sens.map Bc.cells),Ae 4 false m.nV (m.votes.map Am.cells),Ae 5 false m.nM (m.moves.map Ak.cells),.int .i64 m.states,.int .i64 m.cmds,.int .i64 m.bgn,Ae 1 true m.nO (m.opn.map iv)]])∧∃wf,h[hL]?=some (.live 4 false wf [[Ae 1 true w.nn (w.sens.map iv),.int .i64 w.need,.int .i64 w.level,.bool w.above]])) ?_ ?_ (0) _ _ ?_) (fun e tC hC hk=>?_)
  ·rintro c t h Q' kQ ⟨h1,h2,h12,h13,h14,h5,h6,h7,h20,h21,h22,h8,⟨hA,wf,hB⟩⟩
   (have hb:=trivial;with_reducible repeat' (first|simp only[hb,Vc.down,seval,fR.down,h1,h2,h12,h13,h14,h5,h6,h7,h20,h21,h22,h8,aaC,decide_false]|refine Aw ?_ ?_<;>intro hb|refine fd ?_|fail))
   exact kQ _ _ _ ⟨rfl,by simp[up,h1],by simp[up,h2],by simp[up,h12],by simp[up,h13],by simp[up,h14],by simp[up,h5],by simp[up,h6],by simp[up,h7],by simp[up,h8,bB],hA,wf,hB⟩
  ·rintro x rest i c t h J Q' kJ kQ hx hi ⟨h1,h2,h12,h13,h14,h5,h6,h7,h20,h21,h22,h8,⟨hA,wf,hB⟩⟩
   have hd:decide ((i:Int)<(w.sens.length:Int))=true:=decide_eq_true (by omega)
   have hw:=Ar hi hvs
   obtain⟨k0,k1⟩:=hIx x (aaD hx)
   have hrr:=iC (l:=l) (k:=x) (by omega)
   have hss:=gA k1
   have h0':(0≤x)=True:=eq_true k0
   have hS:=wW (bZ m x) w (yN l x)
   generalize hq:Vh (bZ m x) w (yN l x)=q at hS
   generalize bZ m x=s at hss hS
   (have hb:=trivial;with_reducible repeat' (first|simp only[hb,Vc.down,seval,fR.down,h1,h2,h7,h8,h20,h21,h22,hd,hx,hw,hrr,hss,h0',hA,hB,hS,iv,Bc.cells,aaB]|refine Aw ?_ ?_<;>intro hb|refine fd ?_|fail))
   all_goals (refine Bw (kJ _ _ (if q=true then IntKind.i64.wrap (c+1)else c) ⟨?_,?_,?_,?_,?_,?_,?_,?_,?_,?_,?_,?_,⟨hA,wf,hB⟩⟩ ?_);(simp[up,h1]);(simp[up,h2]);(simp[up,h12]);(simp[up,h13]);(simp[up,h14]);(simp[up,h5]);(simp[up,h6]);(simp[up,h7]);(simp[up,h20]);(simp[up,h21]);(simp[up]);(simp[up,h8,hb]);(simp[bB,hq]))
  ·exact⟨by simp[up,Dz,h1,h2,h12,h13,h14,h5,hLe],by simp[up,Dz,h1,h2,h12,h13,h14,h5,hLe],by simp[up,Dz,h1,h2,h12,h13,h14,h5,hLe],by simp[up,Dz,h1,h2,h12,h13,h14,h5,hLe],by simp[up,Dz,h1,h2,h12,h13,h14,h5,hLe],by simp[up,Dz,h1,h2,h12,h13,h14,h5,hLe],by simp[up,Dz,h1,h2,h12,h13,h14,h5,hLe],by simp[up,Dz,h1,h2,h12,h13,h14,h5,hLe],by simp[up,Dz,h1,h2,h12,h13,h14,h5,hLe],by simp[up,Dz,h1,h2,h12,h13,h14,h5,hLe],by simp[up],by simp[up,Dz,h1,h2,h12,h13,h14,h5,hLe],⟨hA1 _,true,by rw[hLe];simp⟩⟩
  ·obtain⟨rfl,h1,h2,h12,h13,h14,h5,h6,h7,h8,hA,wf,hB⟩:=hk
   have hy:decide (w.need≤bB m w l w.sens 0)=Rl m l w:=rfl
   (have hb:=trivial;with_reducible repeat' (first|simp only[hb,Vc.down,seval,fR.down,h1,h2,h12,h13,h14,h5,h6,h7,h8,hA,hB,hw,hy,aqU]|refine Aw ?_ ?_<;>intro hb|refine fd ?_|fail))
   all_goals (refine Bw (kJ _ _ (k+1,(if Rl m l w=true then orN b (pC k)else b)) ⟨?_,?_,?_,?_,?_,?_,⟨hA,rfl⟩⟩ ?_);(simp[up,h1]);(simp[up,h2]);(simp[up,h12]);(simp[up,h13]);(simp[up]);(simp[up,h5,hb]);(simp[Ld]))
 ·exact⟨by simp[up,Dz],by simp[up,Dz],by simp[up,Dz],by simp[up,Dz],by simp[up],by simp[up,Dz],⟨rfl,rfl⟩⟩
 obtain⟨rfl,h5⟩:=hk
 (have hb:=trivial;with_reducible repeat' (first|simp only[hb,Vc.down,seval,fR.down,h5]|refine Aw ?_ ?_<;>intro hb|refine fd ?_|fail))
def bv(b:Bool):List AV:=[.bool b]
theorem uH{h:Aa}{b:Nat}(hb:b<h.length)(l:Aa)(c:CB):(h++l).set b c=h.set b c++l:=List.set_append_left _ _ hb
theorem dD{h:Aa}{b:Nat}(c:CB)(l:Aa)(k:Nat):(h.set b c++l)[h.length+k]?=l[k]?:=by
 have:=gQ (h.set b c) l k
 rwa[aAO]at this
theorem uK{h:Aa}{b b':Nat}{x:CB}(c:CB)(hne:b≠b')(hb:h[b']?=some x)(l:Aa):(h.set b c++l)[b']?=some x:=by
 rw[List.getElem?_append_left (by rw[aAO];exact(afO.1 hb).1),List.getElem?_set_ne hne];exact hb
def uS(v:AV)(i:Nat)(rows:List (List AV))(h:Aa):Prop:=(i=0∧v=.nils)∨(0<i∧∃b,0<b∧v=.slr 1 b 0 i∧h[b]?=some (.live 1 true false rows))
theorem tN(m:Az){l:List Int}{nn:Bool}(hl:l.length=m.sens.length)(hs:m.small)(h6:m.votes.length≤6)(hi:∀v∈m.votes,Idx m v.sens)(o:Dn)(h':Aa)(c0:m.votes=[]→(o,h')=(.ret .nils,[]))(c1:m.votes≠[]→(o,h')=(.ret (.slr 1 0 0 m.votes.length),[.live 1 true false ((m.votes.map (Rl m l)).map bv)])):
 Eo.call (.fn 28) [.agg [Ae 3 true m.nS (m.sens.map Bc.cells),Ae 4 false m.nV (m.votes.map Am.cells),Ae 5 false m.nM (m.moves.map Ak.cells),.int .i64 m.states,.int .i64 m.cmds,.int .i64 m.bgn,Ae 1 true m.nO (m.opn.map iv)],Ae 1 true nn (l.map iv)] []=some (o,h'):=by
 have hI:=hi
 clear hi
 (refine ce Try.func28 ?_;simp only[Try.f28];(have hb:=trivial;with_reducible repeat' (first|simp only[hb,Vc.down,seval,jO.down,aaB]|refine Aw ?_ ?_<;>intro hb|refine fd ?_|fail)))
 refine Ek (Ve 26 m.votes (fun i (zz:List Bool) t h=>t 1=Ae 1 true nn (l.map iv)∧t 2=.ptr 0 0 0∧t 6=.int .i64 i∧(h[0]?=some (.live 7 false false [[Ae 3 true m.nS (m.sens.map Bc.cells),Ae 4 false m.nV (m.votes.map Am.cells),Ae 5 false m.nM (m.moves.map Ak.cells),.int .i64 m.states,.int .i64 m.cmds,.int .i64 m.bgn,Ae 1 true m.nO (m.opn.map iv)]])∧zz.length=i∧uS (t 5) i (zz.map bv) h)) (fun rest zz=>zz++rest.map (Rl m l)) (fun r e t h=>e=.exit 0∧uS (t 5) m.votes.length (r.map bv) h) ?_ ?_ ([]) _ _ ?_) (fun e t h hk=>?_)
 ·rintro a t h Q' kQ ⟨h1,h2,h6,⟨hA,hp,hc⟩⟩
  (have hb:=trivial;with_reducible repeat' (first|simp only[hb,Vc.down,seval,jO.down,h1,h2,h6,aaC,decide_false,hA,aaB]|refine Aw ?_ ?_<;>intro hb|refine fd ?_|fail))
  exact kQ _ _ _ ⟨rfl,by simpa [up]using hc⟩
 ·rintro x rest i a t h J Q' kJ kQ hx hi ⟨h1,h2,h6,⟨hA,hp,hc⟩⟩
  have hd:decide ((i:Int)<(m.votes.length:Int))=true:=decide_eq_true (by omega)
  have hw:=Ar hi hs.votes
  have hV:=azV m x (l:=l) (nn:=nn) hl (hs.vs x (aaD hx)) (hI x (aaD hx))
  have hA1:=Bl hA
  have h0l:0<h.length:=(afO.1 hA).1
  rcases hc with⟨rfl,ho⟩|⟨h0,b,hb0,ho,hb⟩
  ·simp only[Int.natCast_zero]at hd
   (have hb:=trivial;with_reducible repeat' (first|simp only[hb,Vc.down,seval,jO.down,h1,h2,h6,ho,hd,hw,hx,hA,hA1,hV,Am.cells,aaB]|refine Aw ?_ ?_<;>intro hb|refine fd ?_|fail))
   obtain rfl:a=[]:=aAZ.1 hp
   (refine Bw (kJ _ _ [Rl m l x] ⟨?_,?_,?_,⟨hA1 _,rfl,.inr ⟨by omega,h.length+1,by omega,by simp[up],by rw[gQ];simp[bv]⟩⟩⟩ ?_);(simp[up,h1]);(simp[up,h2]);(simp[up]);(simp))
  ·have hbl:b<h.length:=(afO.1 hb).1
   have hB:=Bl hb
   have hS:=uH hbl
   have hlp:0+i=a.length:=by omega
   have hi39:(i+1≤549755813888)=True:=eq_true (by omega)
   (have hb:=trivial;with_reducible repeat' (first|simp only[hb,Vc.down,seval,jO.down,h1,h2,h6,ho,hd,hw,hx,hA,hA1,hV,Am.cells,aaB,hB,hS,dD,aAO,hp,hi39]|refine Aw ?_ ?_<;>intro hb|refine fd ?_|fail))
   (refine Bw (kJ _ _ (a++[Rl m l x]) ⟨?_,?_,?_,⟨uK _ (by omega) hA _,by simp[hp],.inr ⟨by omega,h.length+1,by omega,by simp[up],by rw[dD];simp[bv]⟩⟩⟩ ?_);(simp[up,h1]);(simp[up,h2]);(simp[up]);(simp))
 ·exact⟨by simp[up,Dz],by simp[up,Dz],by simp[up],⟨rfl,rfl,.inl ⟨rfl,by simp[up]⟩⟩⟩
 obtain⟨rfl,⟨hn,ho⟩|⟨hn,b,hb0,ho,hb⟩⟩:=hk
 ·rw[c0 (aAZ.1 hn)]
  (have hb:=trivial;with_reducible repeat' (first|simp only[hb,Vc.down,seval,jO.down,ho]|refine Aw ?_ ?_<;>intro hb|refine fd ?_|fail))
 ·rw[c1 (fun e=>by rw[e]at hn;simp at hn)]
  (with_reducible repeat' (first|simp only[hb,Vc.down,seval,jO.down,ho,hb]|refine Aw ?_ ?_<;>intro hb|refine fd ?_|fail))
def Qq:List Bool→Nat→Int→Int
 | [],_,b=>b
 |v::vs,i,b=>Qq vs (i+1) (if v=true then orN b (pC i)else b)
theorem fZ(m:Az)(l:List Int):∀(vs:List Am) (i:Nat) (b:Int),Ld m l vs i b=Qq (vs.map (Rl m l)) i b
 | [],_,_=>rfl
 |v::vs,i,b=>by simp only[Ld,List.map_cons,Qq];exact fZ m l vs _ _
def Jq(b v:Int):Bool:=ayS (zR b v.toNat)==1
theorem zD:∀(l:List Bool),l.length≤6→∀i:Nat,i<l.length→l[i]?=some (Jq (Qq l 0 0) i)
 | [],_,i,h=>by simp at h
 | [a],_,i,h=>by
   have:∀a:Bool,∀i:Fin 1,[a][i.val]?=some (Jq (Qq [a] 0 0) (i.val:Nat)):=by decide+kernel
   exact this a ⟨i,h⟩
 | [a,b],_,i,h=>by
   have:∀a b:Bool,∀i:Fin 2,[a,b][i.val]?=some (Jq (Qq [a,b] 0 0) (i.val:Nat)):=by decide+kernel
   exact this a b ⟨i,h⟩
 | [a,b,c],_,i,h=>by
   have:∀a b c:Bool,∀i:Fin 3,[a,b,c][i.val]?=some (Jq (Qq [a,b,c] 0 0) (i.val:Nat)):=by decide+kernel
   exact this a b c ⟨i,h⟩
 | [a,b,c,d],_,i,h=>by
   have:∀a b c d:Bool,∀i:Fin 4,[a,b,c,d][i.val]?=some (Jq (Qq [a,b,c,d] 0 0) (i.val:Nat)):=by decide+kernel
   exact this a b c d ⟨i,h⟩
 | [a,b,c,d,e],_,i,h=>by
   have:∀a b c d e:Bool,∀i:Fin 5,[a,b,c,d,e][i.val]?=some (Jq (Qq [a,b,c,d,e] 0 0) (i.val:Nat)):=by decide+kernel
   exact this a b c d e ⟨i,h⟩
 | [a,b,c,d,e,f],_,i,h=>by
   have:∀a b c d e f:Bool,∀i:Fin 6,[a,b,c,d,e,f][i.val]?=some (Jq (Qq [a,b,c,d,e,f] 0 0) (i.val:Nat)):=by decide+kernel
   exact this a b c d e f ⟨i,h⟩
 |_::_::_::_::_::_::_::_,h,_,_=>by simp only[List.length_cons]at h;omega
theorem nZ(a b:Bool):Hk Try.prog .neq 4 (.bool a) (.bool b)=some (.bool (!(a==b))):=by cases a<;>cases b<;>kernel_rfl
structure Qr where
 frm:Int
 to:Int
 nn:Bool
 wants:List An
 cmd:Int
 after:Int
 st:Int
 ag:Int
 bits:Int
 com:Int
theorem xZ(n:Qr):Eo.call (.fn 92) [.agg [.int .i64 n.frm,.int .i64 n.to,Ae 2 true n.nn (n.wants.map An.cells),.int .i64 n.cmd,.int .i64 n.after,.int .i64 n.st,.int .i64 n.ag,.int .i64 n.bits,.int .i64 n.com]] []=some (.ret (.bool (n.frm==n.st)),[]):=by
 (refine ce Try.func92 ?_;simp only[Try.f92];(have hb:=trivial;with_reducible repeat' (first|simp only[hb,Vc.down,seval,aFR.down]|refine Aw ?_ ?_<;>intro hb|refine fd ?_|fail)))
theorem afS(n:Qr):Eo.call (.fn 93) [.agg [.int .i64 n.frm,.int .i64 n.to,Ae 2 true n.nn (n.wants.map An.cells),.int .i64 n.cmd,.int .i64 n.after,.int .i64 n.st,.int .i64 n.ag,.int .i64 n.bits,.int .i64 n.com]] []=some (.ret (.bool (decide (n.after≤n.ag))),[]):=by
 (refine ce Try.func93 ?_;simp only[Try.f93];(have hb:=trivial;with_reducible repeat' (first|simp only[hb,Vc.down,seval,aE2.down]|refine Aw ?_ ?_<;>intro hb|refine fd ?_|fail)))
theorem zA(n:Qr):Eo.call (.fn 95) [.agg [.int .i64 n.frm,.int .i64 n.to,Ae 2 true n.nn (n.wants.map An.cells),.int .i64 n.cmd,.int .i64 n.after,.int .i64 n.st,.int .i64 n.ag,.int .i64 n.bits,.int .i64 n.com]] []=some (.ret (.bool (n.cmd== -1||n.cmd==n.com)),[]):=by
 (refine ce Try.func95 ?_;simp only[Try.f95];(have hb:=trivial;with_reducible repeat' (first|simp only[hb,Vc.down,seval,aGY.down]|refine Aw ?_ ?_<;>intro hb|refine fd ?_|fail)))
 all_goals simp_all
theorem kS(n:Qr)(w:An)(h0:0≤w.vote):Eo.call (.fn 99) [.agg [.int .i64 w.vote,.bool w.is],.ptr 0 0 0] [.live 9 false false [[.int .i64 n.frm,.int .i64 n.to,Ae 2 true n.nn (n.wants.map An.cells),.int .i64 n.cmd,.int .i64 n.after,.int .i64 n.st,.int .i64 n.ag,.int .i64 n.bits,.int .i64 n.com]]]=some (.ret (.bool (!(Jq n.bits w.vote==w.is))),[.live 9 false false [[.int .i64 n.frm,.int .i64 n.to,Ae 2 true n.nn (n.wants.map An.cells),.int .i64 n.cmd,.int .i64 n.after,.int .i64 n.st,.int .i64 n.ag,.int .i64 n.bits,.int .i64 n.com]]]):=by
 obtain⟨v,is⟩:=w
 obtain⟨k,hk⟩:∃k:Nat,v=k:=⟨v.toNat,by simp at h0;omega⟩
 subst hk
 (refine ce Try.func99 ?_;simp only[Try.f99];(have hb:=trivial;with_reducible repeat' (first|simp only[hb,Vc.down,seval,aE3.down,nZ]|refine Aw ?_ ?_<;>intro hb|refine fd ?_|fail)))
 all_goals simp[Jq]
theorem fF{l:List An}{nn:Bool}{g:Nat}{ndq:Qr}{p:An→Bool}(hp:∀x∈l,Eo.call (.fn g) (.agg [.int .i64 x.vote,.bool x.is]::[.ptr 0 0 0]) [.live 9 false false [[.int .i64 ndq.frm,.int .i64 ndq.to,Ae 2 true ndq.nn (ndq.wants.map An.cells),.int .i64 ndq.cmd,.int .i64 ndq.after,.int .i64 ndq.st,.int .i64 ndq.ag,.int .i64 ndq.bits,.int .i64 ndq.com]]]=some (.ret (.bool (p x)),[.live 9 false false [[.int .i64 ndq.frm,.int .i64 ndq.to,Ae 2 true ndq.nn (ndq.wants.map An.cells),.int .i64 ndq.cmd,.int .i64 ndq.after,.int .i64 ndq.st,.int .i64 ndq.ag,.int .i64 ndq.bits,.int .i64 ndq.com]]]))(hl:l.length≤maxLen):
 Eo.call (.fn 98) [Ae 2 true nn (l.map An.cells),.func (.func g) [] [.ptr 0 0 0]] [.live 9 false false [[.int .i64 ndq.frm,.int .i64 ndq.to,Ae 2 true ndq.nn (ndq.wants.map An.cells),.int .i64 ndq.cmd,.int .i64 ndq.after,.int .i64 ndq.st,.int .i64 ndq.ag,.int .i64 ndq.bits,.int .i64 ndq.com]]]=some (.ret (.int .i64 (aQ p l 0)),[.live 9 false false [[.int .i64 ndq.frm,.int .i64 ndq.to,Ae 2 true ndq.nn (ndq.wants.map An.cells),.int .i64 ndq.cmd,.int .i64 ndq.after,.int .i64 ndq.st,.int .i64 ndq.ag,.int .i64 ndq.bits,.int .i64 ndq.com]]]):=by
 (refine ce Try.func98 ?_;simp only[Try.f98];(have hb:=trivial;with_reducible repeat' (first|simp only[hb,Vc.down,seval,Zg.down,aaB]|refine Aw ?_ ?_<;>intro hb|refine fd ?_|fail)))
 refine Ek (Ve 19 l (fun i (s:Int) t h=>s=i∧h=[.live 9 false false [[.int .i64 ndq.frm,.int .i64 ndq.to,Ae 2 true ndq.nn (ndq.wants.map An.cells),.int .i64 ndq.cmd,.int .i64 ndq.after,.int .i64 ndq.st,.int .i64 ndq.ag,.int .i64 ndq.bits,.int .i64 ndq.com]]]∧t 0=Ae 2 true nn (l.map An.cells)∧t 1=.func (.func g) [] [.ptr 0 0 0]∧t 7=.int .i64 l.length∧t 8=.int .i64 i)
  (fun rest s=>aQ p rest s) (fun r e t h=>h=[.live 9 false false [[.int .i64 ndq.frm,.int .i64 ndq.to,Ae 2 true ndq.nn (ndq.wants.map An.cells),.int .i64 ndq.cmd,.int .i64 ndq.after,.int .i64 ndq.st,.int .i64 ndq.ag,.int .i64 ndq.bits,.int .i64 ndq.com]]]∧((e=.exit 0∧r= -1)∨(e=.ret∧t 4=.int .i64 r))) ?_ ?_ 0 _ _ ?_) (fun e t h hk=>?_)
 ·rintro s t h Q' kQ ⟨rfl,rfl,h0,h1,h7,h8⟩
  (have hb:=trivial;with_reducible repeat' (first|simp only[hb,Vc.down,seval,Zg.down,h0,h1,h7,h8,aaC,decide_false]|refine Aw ?_ ?_<;>intro hb|refine fd ?_|fail))
  exact kQ _ _ _ ⟨rfl,.inl ⟨rfl,rfl⟩⟩
 ·rintro x rest i s t h J Q' kJ kQ hx hi ⟨rfl,rfl,h0,h1,h7,h8⟩
  have hpx:=hp x (aaD hx)
  have hd:decide ((i:Int)<(l.length:Int))=true:=by simpa using hi
  (have hb:=trivial;with_reducible repeat' (first|simp only[hb,Vc.down,seval,Zg.down,h0,h1,h7,h8,hd,hx,An.cells,hpx,Ar hi hl]|refine Aw ?_ ?_<;>intro hb|refine fd ?_|fail))
  ·exact kQ _ _ _ ⟨rfl,.inr ⟨rfl,by simp[up,aQ,hb]⟩⟩
  ·exact Bw (kJ _ _ (i+1) ⟨by simp,rfl,by simp[up,h0],by simp[up,h1],by simp[up,h7],by simp[up]⟩ (by simp[aQ,hb]))
 ·exact⟨rfl,rfl,by simp[up,Dz],by simp[up,Dz],by simp[up],by simp[up]⟩
 ·obtain⟨rfl,⟨rfl,hi⟩|⟨rfl,hi⟩⟩:=hk
  ·(have hb:=trivial;with_reducible repeat' (first|simp only[hb,Vc.down,seval,Zg.down]|refine Aw ?_ ?_<;>intro hb|refine fd ?_|fail))
   rw[hi]
  ·(have hb:=trivial;with_reducible repeat' (first|simp only[hb,Vc.down,seval,Zg.down,hi]|refine Aw ?_ ?_<;>intro hb|refine fd ?_|fail))
theorem cM{l:List An}{nn:Bool}{g:Nat}{ndq:Qr}{p:An→Bool}(hp:∀x∈l,Eo.call (.fn g) (.agg [.int .i64 x.vote,.bool x.is]::[.ptr 0 0 0]) [.live 9 false false [[.int .i64 ndq.frm,.int .i64 ndq.to,Ae 2 true ndq.nn (ndq.wants.map An.cells),.int .i64 ndq.cmd,.int .i64 ndq.after,.int .i64 ndq.st,.int .i64 ndq.ag,.int .i64 ndq.bits,.int .i64 ndq.com]]]=some (.ret (.bool (p x)),[.live 9 false false [[.int .i64 ndq.frm,.int .i64 ndq.to,Ae 2 true ndq.nn (ndq.wants.map An.cells),.int .i64 ndq.cmd,.int .i64 ndq.after,.int .i64 ndq.st,.int .i64 ndq.ag,.int .i64 ndq.bits,.int .i64 ndq.com]]]))(hl:l.length≤maxLen):
 Eo.call (.fn 89) [Ae 2 true nn (l.map An.cells),.func (.func g) [] [.ptr 0 0 0]] [.live 9 false false [[.int .i64 ndq.frm,.int .i64 ndq.to,Ae 2 true ndq.nn (ndq.wants.map An.cells),.int .i64 ndq.cmd,.int .i64 ndq.after,.int .i64 ndq.st,.int .i64 ndq.ag,.int .i64 ndq.bits,.int .i64 ndq.com]]]=some (.ret (.bool (l.any p)),[.live 9 false false [[.int .i64 ndq.frm,.int .i64 ndq.to,Ae 2 true ndq.nn (ndq.wants.map An.cells),.int .i64 ndq.cmd,.int .i64 ndq.after,.int .i64 ndq.st,.int .i64 ndq.ag,.int .i64 ndq.bits,.int .i64 ndq.com]]]):=by
 (refine ce Try.func89 ?_;simp only[Try.f89];(have hb:=trivial;with_reducible repeat' (first|simp only[hb,Vc.down,seval,fF hp hl,Tj p l 0 (Int.le_refl 0)]|refine Aw ?_ ?_<;>intro hb|refine fd ?_|fail)))
def Pz(bits:Int)(l:List An):Bool:=l.all fun w=>Jq bits w.vote==w.is
theorem qF(n:Qr)(hl:n.wants.length≤maxLen)(h0:∀w∈n.wants,0≤w.vote):Eo.call (.fn 94) [.agg [.int .i64 n.frm,.int .i64 n.to,Ae 2 true n.nn (n.wants.map An.cells),.int .i64 n.cmd,.int .i64 n.after,.int .i64 n.st,.int .i64 n.ag,.int .i64 n.bits,.int .i64 n.com]] []=some (.ret (.bool (Pz n.bits n.wants)),[]):=by
 have hc:=cM (ndq:=n) (l:=n.wants) (nn:=n.nn) (g:=99) (p:=fun w=> !(Jq n.bits w.vote==w.is)) (fun w hw=>kS n w (h0 w hw)) hl
 have q1:Pz n.bits n.wants= !(n.wants.any fun w=> !(Jq n.bits w.vote==w.is)):=aAT
 (refine ce Try.func94 ?_;simp only[Try.f94];(have hb:=trivial;with_reducible repeat' (first|simp only[hb,Vc.down,seval,aGJ.down,hc]|refine Aw ?_ ?_<;>intro hb|refine fd ?_|fail)))
 all_goals simp[q1]
theorem aaK(f0 f1 f2 f3:Fn)(a0 a1 a2 a3 c0 c1 c2 c3:List AV):Pg Try.prog 155 [(0,.func f0 a0 c0),(1,.func f1 a1 c1),(2,.func f2 a2 c2),(3,.func f3 a3 c3)]=some (.agg [.func f0 a0 c0,.func f1 a1 c1,.func f2 a2 c2,.func f3 a3 c3]):=by kernel_rfl
theorem uT(a b c d:AV):Pm Try.prog 155 (.agg [a,b,c,d]) (.int .i64 0)=some a:=by kernel_rfl
theorem uZ(a b c d:AV):Pm Try.prog 155 (.agg [a,b,c,d]) (.int .i64 1)=some b:=by kernel_rfl
theorem uN(a b c d:AV):Pm Try.prog 155 (.agg [a,b,c,d]) (.int .i64 2)=some c:=by kernel_rfl
theorem vB(a b c d:AV):Pm Try.prog 155 (.agg [a,b,c,d]) (.int .i64 3)=some d:=by kernel_rfl
def bA(n:Qr):Bool:=(n.frm==n.st)&&decide (n.after≤n.ag)&&Pz n.bits n.wants&&(n.cmd== -1||n.cmd==n.com)
theorem w2:IntKind.i64.wrap 2=2:=Eq.trans rfl rfl
theorem w3:IntKind.i64.wrap 3=3:=Eq.trans rfl rfl
theorem w4:IntKind.i64.wrap 4=4:=Eq.trans rfl rfl
theorem lB(n:Qr)(hl:n.wants.length≤maxLen)(h0:∀w∈n.wants,0≤w.vote):Eo.call (.fn 75) [.agg [.int .i64 n.frm,.int .i64 n.to,Ae 2 true n.nn (n.wants.map An.cells),.int .i64 n.cmd,.int .i64 n.after,.int .i64 n.st,.int .i64 n.ag,.int .i64 n.bits,.int .i64 n.com]] []=some (.ret (.bool (bA n)),[]):=by
 have q1:=xZ n
 have q2:=afS n
 have q3:=qF n hl h0
 have q4:=zA n
 (refine ce Try.func75 ?_;simp only[Try.f75];(have hb:=trivial;with_reducible repeat' (first|simp only[hb,Vc.down,seval,acL.down,aaK,uT,uZ,uN,vB,q1,q2,q3,q4,w2,w3,w4]|refine Aw ?_ ?_<;>intro hb|refine fd ?_|fail)))
 (have hb:=trivial;with_reducible repeat' (first|simp only[hb,Vc.down,seval,acL.down,aaK,uT,uZ,uN,vB,q1,q2,q3,q4,w2,w3,w4]|refine Aw ?_ ?_<;>intro hb|refine fd ?_|refine aGO ?_|fail))
 all_goals (refine congrArg (fun b=>(Dn.ret (AV.bool b),([]:Aa))) ?_;symm;((try simp only[aBN,ap2,arZ]at *);simp only[bA, *,aB3,acJ,Bool.and_true,acA,Bool.and_self,Bool.not_not,ap2,arZ,aaY,List.all_nil]))
def nd(x:Ak)(st ag bits com:Int):Qr:=⟨x.frm,x.to,x.nn,x.wants,x.cmd,x.after,st,ag,bits,com⟩
theorem kO(x:Ak)(st ag bits com:Int){bs:List Bool}{nn:Bool}(hl:x.wants.length≤maxLen)(hv:∀w∈x.wants,0≤w.vote∧bs[w.vote.toNat]?=some (Jq bits w.vote)):
 Eo.call (.fn 50) [.agg [.int .i64 x.frm,.int .i64 x.to,Ae 2 true x.nn (x.wants.map An.cells),.int .i64 x.cmd,.int .i64 x.after],.int .i64 st,.int .i64 ag,Ae 1 true nn (bs.map bv),.int .i64 com] []=some (.ret (.bool (bA (nd x st ag bits com))),[]):=by
 obtain⟨y,rfl⟩:∃y,y=x:=⟨_,rfl⟩
 (refine ce Try.func50 ?_;simp only[Try.f50];(have hb:=trivial;with_reducible repeat' (first|simp only[hb,Vc.down,seval,pK.down,aaB]|refine Aw ?_ ?_<;>intro hb|refine fd ?_|fail)))
 refine Ek (Ve 56 y.wants (fun i (zz:Unit) t h=>t 1=.int .i64 st∧t 2=.int .i64 ag∧t 3=Ae 1 true nn (bs.map bv)∧t 4=.int .i64 com∧t 5=.ptr 0 0 0∧t 11=.int .i64 i∧(h=[.live 5 false false [[.int .i64 y.frm,.int .i64 y.to,Ae 2 true y.nn (y.wants.map An.cells),.int .i64 y.cmd,.int .i64 y.after]]])) (fun rest zz=>Pz bits rest) (fun r e t h=>(if r=true then e=.exit 0∧t 1=.int .i64 st∧t 2=.int .i64 ag∧t 4=.int .i64 com∧t 5=.ptr 0 0 0∧h=[.live 5 false false [[.int .i64 y.frm,.int .i64 y.to,Ae 2 true y.nn (y.wants.map An.cells),.int .i64 y.cmd,.int .i64 y.after]]]else e=.ret∧t 10=.bool false)) ?_ ?_ () _ _ ?_) (fun e t h hk=>?_)
 ·rintro _ t h Q' kQ ⟨h1,h2,h3,h4,h5,h11,rfl⟩
  (have hb:=trivial;with_reducible repeat' (first|simp only[hb,Vc.down,seval,pK.down,h1,h2,h3,h4,h5,h11,aaC,decide_false,aaB]|refine Aw ?_ ?_<;>intro hb|refine fd ?_|fail))
  exact kQ _ _ _ (by rw[if_pos (by rfl)];exact⟨rfl,by simp[up,h1],by simp[up,h2],by simp[up,h4],by simp[up,h5],rfl⟩)
 ·rintro x rest i _ t h J Q' kJ kQ hx hi ⟨h1,h2,h3,h4,h5,h11,rfl⟩
  have hd:decide ((i:Int)<(y.wants.length:Int))=true:=decide_eq_true (by omega)
  have hw:=Ar hi hl
  obtain⟨k0,k1⟩:=hv x (aaD hx)
  have h0':(0≤x.vote)=True:=eq_true k0
  (have hb:=trivial;with_reducible repeat' (first|simp only[hb,Vc.down,seval,pK.down,h1,h2,h3,h4,h5,h11,hd,hx,hw,k1,h0',nZ,bv,An.cells,aaB]|refine Aw ?_ ?_<;>intro hb|refine fd ?_|fail))
  all_goals first
   |exact kQ _ _ _ (by rw[if_neg (by simp_all[Pz])];exact⟨rfl,by simp[up]⟩)
   |(refine Bw (kJ _ _ () ⟨?_,?_,?_,?_,?_,?_,rfl⟩ ?_);(simp[up,h1]);(simp[up,h2]);(simp[up,h3]);(simp[up,h4]);(simp[up,h5]);(simp[up]);(simp_all[Pz]))
 ·exact⟨by simp[up,Dz],by simp[up,Dz],by simp[up,Dz],by simp[up,Dz],by simp[up,Dz],by simp[up],rfl⟩
 split at hk
 ·obtain⟨rfl,h1,h2,h4,h5,rfl⟩:=hk
  rename_i hr1
  (have hb:=trivial;with_reducible repeat' (first|simp only[hb,Vc.down,seval,pK.down,h1,h2,h4,h5]|refine Aw ?_ ?_<;>intro hb|refine fd ?_|fail))
  all_goals (refine congrArg (fun b=>(Dn.ret (AV.bool b),([]:Aa))) ?_;symm;simp only[bA,nd];(try have q9:=hr1);simp_all<;>try (intro q7;exfalso;have:=of_decide_eq_true q7;omega))
 ·obtain⟨rfl,h2⟩:=hk
  rename_i hr1
  (have hb:=trivial;with_reducible repeat' (first|simp only[hb,Vc.down,seval,pK.down,h2]|refine Aw ?_ ?_<;>intro hb|refine fd ?_|fail))
  all_goals simp_all[bA,nd]
def iY(a:Int):Int:=if IntKind.i64.wrap (a+1)<10 then IntKind.i64.wrap (a+1)else 10
def Ik(st ag bits com:Int):List Ak→Int × Int
 | []=>(st,iY ag)
 |x::l=>if bA (nd x st ag bits com)=true then(x.to,0)else Ik st ag bits com l
theorem pP(m:Az)(st ag bits com:Int)(hs:m.small)(h0:∀x∈m.moves,∀w∈x.wants,0≤w.vote):
 Eo.call (.fn 45) [.agg [Ae 3 true m.nS (m.sens.map Bc.cells),Ae 4 false m.nV (m.votes.map Am.cells),Ae 5 false m.nM (m.moves.map Ak.cells),.int .i64 m.states,.int .i64 m.cmds,.int .i64 m.bgn,Ae 1 true m.nO (m.opn.map iv)],.agg [.int .i64 st,.int .i64 ag],.agg [.int .i64 bits,.int .i64 com]] []=some (.ret (.agg [.int .i64 (Ik st ag bits com m.moves).1,.int .i64 (Ik st ag bits com m.moves).2]),[]):=by
 (refine ce Try.func45 ?_;simp only[Try.f45];(have hb:=trivial;with_reducible repeat' (first|simp only[hb,Vc.down,seval,lW.down,aaB]|refine Aw ?_ ?_<;>intro hb|refine fd ?_|fail)))
 refine Ek (Ve 32 m.moves (fun i (zz:Unit) t h=>t 4=.ptr 1 0 0∧t 5=.ptr 2 0 0∧t 6=.ptr 3 0 0∧t 10=Ae 5 false m.nM (m.moves.map Ak.cells)∧t 11=.int .i64 m.moves.length∧t 12=.int .i64 i∧(h[1]?=some (.live 2 true false [[.int .i64 st,.int .i64 ag]])∧h[2]?=some (.live 2 true false [[.int .i64 bits,.int .i64 com]])∧h[3]?=some (.live 2 true false [[.int .i64 0,.int .i64 0]]))) (fun rest zz=>Ik st ag bits com rest) (fun r e t h=>(e=.exit 0∧t 4=.ptr 1 0 0∧t 6=.ptr 3 0 0∧h[1]?=some (.live 2 true false [[.int .i64 st,.int .i64 ag]])∧h[3]?=some (.live 2 true false [[.int .i64 0,.int .i64 0]])∧r=(st,iY ag))∨(e=.ret∧t 6=.ptr 3 0 0∧h[3]?=some (.live 2 true true [[.int .i64 r.1,.int .i64 r.2]]))) ?_ ?_ () _ _ ?_) (fun e t h hk=>?_)
 ·rintro _ t h Q' kQ ⟨h4,h5,h6,h10,h11,h12,⟨hA,hB,hC⟩⟩
  (have hb:=trivial;with_reducible repeat' (first|simp only[hb,Vc.down,seval,lW.down,h4,h5,h6,h10,h11,h12,aaC,decide_false]|refine Aw ?_ ?_<;>intro hb|refine fd ?_|fail))
  exact kQ _ _ _ (.inl ⟨rfl,by simp[up,h4],by simp[up,h6],hA,hC,rfl⟩)
 ·rintro x rest i _ t h J Q' kJ kQ hx hi ⟨h4,h5,h6,h10,h11,h12,⟨hA,hB,hC⟩⟩
  have hd:decide ((i:Int)<(m.moves.length:Int))=true:=decide_eq_true (by omega)
  have hw:=Ar hi hs.moves
  have hA1:=Bl hA
  have hB1:=Bl hB
  have hC1:=Bl hC
  have hap:=lB (nd x st ag bits com) (hs.ws x (aaD hx)) (h0 x (aaD hx))
  have h3l:3<h.length:=(afO.1 hC).1
  generalize hq:bA (nd x st ag bits com)=q at hap
  simp only[nd]at hap
  (have hb:=trivial;with_reducible repeat' (first|simp only[hb,Vc.down,seval,lW.down,h4,h5,h6,h10,h11,h12,hd,hx,hw,hA1,hB1,hC1,hap,Ak.cells,aaB]|refine Aw ?_ ?_<;>intro hb|refine fd ?_|fail))
  ·exact kQ _ _ _ (.inr ⟨rfl,by simp[up,h6],by rw[aCA (by simp;omega)];simp[Ik,hq,hb]⟩)
  ·(refine Bw (kJ _ _ () ⟨?_,?_,?_,?_,?_,?_,⟨hA1 _,hB1 _,hC1 _⟩⟩ ?_);(simp[up,h4]);(simp[up,h5]);(simp[up,h6]);(simp[up,h10]);(simp[up,h11]);(simp[up]);(simp[Ik,hq,hb]))
 ·exact⟨by simp[up,Dz],by simp[up,Dz],by simp[up,Dz],by simp[up,Dz],by simp[up,Dz],by simp[up],⟨rfl,rfl,rfl⟩⟩
 rcases hk with⟨rfl,h4,h6,hA,hC,hr⟩|⟨rfl,h6,hC⟩
 ·have hA1:=Bl hA
  have hC1:=Bl hC
  have h3l:3<h.length:=(afO.1 hC).1
  have hset:∀c:CB,(h.set 3 c)[3]?=some c:=fun c=>aCA h3l
  have hmt:(if IntKind.i64.wrap (ag+1)<10 then IntKind.i64.wrap (ag+1)else 10)=iY ag:=rfl
  rw[hr]
  (have hb:=trivial;with_reducible repeat' (first|simp only[hb,Vc.down,seval,lW.down,h4,h6,hA,hC,hA1,hC1,hset,hmt]|refine Aw ?_ ?_<;>intro hb|refine fd ?_|fail))
 ·(have hb:=trivial;with_reducible repeat' (first|simp only[hb,Vc.down,seval,lW.down,h6,hC]|refine Aw ?_ ?_<;>intro hb|refine fd ?_|fail))
theorem aG{m:Az}(h:Ei m=true):∀x∈m.moves,∀w∈x.wants,0≤w.vote∧w.vote.toNat<m.votes.length:=fun x hx w hw=>by
 simp only[Ei,Ou,aaE,decide_eq_true_eq,acY]at h
 have h2:=h.1.2 x hx
 simp only[Ku,aaE]at h2
 have h3:=h2.1.1.1.1.1
 have h6:m.votes.length≤6:=h.1.1.1.1.1.1.1.1.1.2
 have key:∀(l p:List An),Ij m.votes.length p l=true→w∈l→0≤w.vote∧w.vote.toNat<m.votes.length:=by
  intro l
  induction l with
  |nil=>intro p _ h;cases h
  |cons y l ih=>
   intro p h hm
   simp only[Ij,aaE]at h
   rcases List.mem_cons.1 hm with rfl|hm
   ·have:=h.1.1
    rw[Ly (by omega) (by omega)]at this
    simp[Ls]at this
    omega
   ·exact ih _ h.2 hm
 exact key x.wants [] h3 hw
def bW(m:Az)(st ag:Int)(s:Lo):Int × Int:=Ik st ag (Ld m s.reads m.votes 0 0) s.cmd m.moves
def vD(m:Az)(st ag:Int)(s:Lo):Bool:=Ei m&&Ls st 0 (IntKind.i64.wrap (m.states-1))&&Ls ag 0 10&&Rx m s
theorem dW{m:Az}{l:List Int}(h:Sm m l=true):l.length=m.sens.length:=by
 simp only[Sm,aaE,beq_iff_eq]at h
 omega
theorem vV(m:Az)(st ag:Int)(s:Lo)(hs:m.small)(hl:s.reads.length≤maxLen):Eo.call (.fn 14) [.agg [Ae 3 true m.nS (m.sens.map Bc.cells),Ae 4 false m.nV (m.votes.map Am.cells),Ae 5 false m.nM (m.moves.map Ak.cells),.int .i64 m.states,.int .i64 m.cmds,.int .i64 m.bgn,Ae 1 true m.nO (m.opn.map iv)],.int .i64 st,.int .i64 ag,.agg [Ae 1 true s.nn (s.reads.map iv),.int .i64 s.cmd]] []=
 some (.ret (if vD m st ag s=true then .tup [.int .i64 (bW m st ag s).1,.int .i64 (bW m st ag s).2,.int .i64 0]else .tup [.int .i64 0,.int .i64 0,.int .i64 2]),[]):=by
 have hv:=gU m hs
 have hsc:=kK m s hl
 cases hok:vD m st ag s with
 |false=>
  (refine ce Try.func14 ?_;simp only[Try.f14];(have hb:=trivial;with_reducible repeat' (first|simp only[hb,Vc.down,seval,atF.down,hv,hsc,Re]|refine Aw ?_ ?_<;>intro hb|refine fd ?_|fail)))
  all_goals first
   |rfl
   |(exfalso;simp_all[vD];done)
 |true=>
  have hok':=hok
  simp only[vD,aaE]at hok'
  obtain⟨⟨⟨o1,o2⟩,o3⟩,o4⟩:=hok'
  have o5:=o4
  simp only[Rx,aaE]at o5
  have hbits:=fY m (l:=s.reads) (nn:=s.nn) (dW o5.1) hs (cE o1)
  have hst:=pP m st ag (Ld m s.reads m.votes 0 0) s.cmd hs (fun x hx w hw=>(aG o1 x hx w hw).1)
  rw[o1]at hv
  rw[o4]at hsc
  (refine ce Try.func14 ?_;simp only[Try.f14];(have hb:=trivial;with_reducible repeat' (first|simp only[hb,Vc.down,seval,atF.down,hv,hsc,Re,o2,o3,hbits,hst]|refine Aw ?_ ?_<;>intro hb|refine fd ?_|fail)))
  all_goals rfl
theorem rN{m:Az}(h:Ei m=true):m.votes.length≤6:=by
 simp only[Ei,Ou,aaE,decide_eq_true_eq]at h
 exact h.1.1.1.1.1.1.1.1.1.2
theorem xN(m:Az)(st ag:Int)(y:Lo)(hs:m.small)(hm:Ei m=true)(hr:Sm m y.reads=true):Eo.call (.fn 17) [.agg [Ae 3 true m.nS (m.sens.map Bc.cells),Ae 4 false m.nV (m.votes.map Am.cells),Ae 5 false m.nM (m.moves.map Ak.cells),.int .i64 m.states,.int .i64 m.cmds,.int .i64 m.bgn,Ae 1 true m.nO (m.opn.map iv)],.int .i64 st,.int .i64 ag,.agg [Ae 1 true y.nn (y.reads.map iv),.int .i64 y.cmd]] []=
 some (.ret (.tup [.int .i64 (bW m st ag y).1,.int .i64 (bW m st ag y).2]),[]):=by
 have h6:=rN hm
 have hV:=tN m (l:=y.reads) (nn:=y.nn) (dW hr) hs h6 (cE hm)
 have hw0:=aG hm
 have hbs:∀x∈m.moves,∀w∈x.wants,0≤w.vote∧(m.votes.map (Rl m y.reads))[w.vote.toNat]?=some (Jq (Ld m y.reads m.votes 0 0) w.vote):=fun x hx w hw=>by
  obtain⟨a,b⟩:=hw0 x hx w hw
  refine⟨a,?_⟩
  rw[fZ,zD _ (by simpa using h6) _ (by simpa using b)]
  congr 2;omega
 have hA:=fun(nn:Bool) x (hx:x∈m.moves)=>kO x st ag (Ld m y.reads m.votes 0 0) y.cmd (bs:=m.votes.map (Rl m y.reads)) (nn:=nn) (hs.ws x hx) (hbs x hx)
 unfold bW
 generalize Ld m y.reads m.votes 0 0=bits at hA
 clear hbs hw0
 have hmt:(if IntKind.i64.wrap (ag+1)<10 then IntKind.i64.wrap (ag+1)else 10)=iY ag:=rfl
 have htk:((m.votes.map (Rl m y.reads)).map bv).take m.votes.length=(m.votes.map (Rl m y.reads)).map bv:=List.take_of_length_le (by simp)
 by_cases hn:m.votes=[]
 ·have hV':=hV _ _ (fun _=>rfl) (fun h=>(h hn).elim)
  have hA:=hA false
  rw[hn]at hA;simp only[List.map_nil,tG]at hA
  (refine ce Try.func17 ?_;simp only[Try.f17];(have hb:=trivial;with_reducible repeat' (first|simp only[hb,Vc.down,seval,Zk.down,hV',aaB]|refine Aw ?_ ?_<;>intro hb|refine fd ?_|fail)))
  refine Ek (Ve 44 m.moves (fun i (zz:Unit) t h=>t 1=.int .i64 st∧t 2=.int .i64 ag∧t 4=.ptr 0 0 0∧t 7=.ptr 1 0 0∧t 10=.nils∧t 11=.int .i64 i∧(h=[.live 7 false false [[Ae 3 true m.nS (m.sens.map Bc.cells),Ae 4 false m.nV (m.votes.map Am.cells),Ae 5 false m.nM (m.moves.map Ak.cells),.int .i64 m.states,.int .i64 m.cmds,.int .i64 m.bgn,Ae 1 true m.nO (m.opn.map iv)]],.live 2 false false [[Ae 1 true y.nn (y.reads.map iv),.int .i64 y.cmd]]])) (fun rest zz=>Ik st ag bits y.cmd rest) (fun r e t h=>(e=.exit 0∧t 1=.int .i64 st∧t 2=.int .i64 ag∧r=(st,iY ag))∨(e=.ret∧t 8=.int .i64 r.1∧t 9=.int .i64 r.2)) ?_ ?_ () _ _ ?_) (fun e t h hk=>?_)
  ·rintro _ t h Q' kQ ⟨h1,h2,h4,h7,h10,h11,rfl⟩
   (have hb:=trivial;with_reducible repeat' (first|simp only[hb,Vc.down,seval,Zk.down,h1,h2,h4,h7,h10,h11,aaC,decide_false,aaB]|refine Aw ?_ ?_<;>intro hb|refine fd ?_|fail))
   exact kQ _ _ _ (.inl ⟨rfl,by simp[up,h1],by simp[up,h2],rfl⟩)
  ·rintro x rest i _ t h J Q' kJ kQ hx hi ⟨h1,h2,h4,h7,h10,h11,rfl⟩
   have hd:decide ((i:Int)<(m.moves.length:Int))=true:=decide_eq_true (by omega)
   have hw:=Ar hi hs.moves
   have hap:=hA x (aaD hx)
   generalize hq:bA (nd x st ag bits y.cmd)=q at hap
   (have hb:=trivial;with_reducible repeat' (first|simp only[hb,Vc.down,seval,Zk.down,h1,h2,h4,h7,h10,h11,hd,hx,hw,hap,htk,Ak.cells,aaB]|refine Aw ?_ ?_<;>intro hb|refine fd ?_|fail))
   ·exact kQ _ _ _ (.inr ⟨rfl,by simp[up,Ik,hq,hb],by simp[up,Ik,hq,hb]⟩)
   ·(refine Bw (kJ _ _ () ⟨?_,?_,?_,?_,?_,?_,rfl⟩ ?_);(simp[up,h1]);(simp[up,h2]);(simp[up,h4]);(simp[up,h7]);(simp[up,h10]);(simp[up]);(simp[Ik,hq,hb]))
  ·exact⟨by simp[up,Dz],by simp[up,Dz],by simp[up,Dz],by simp[up,Dz],by simp[up,Dz],by simp[up],rfl⟩
  rcases hk with⟨rfl,h1,h2,hr⟩|⟨rfl,h8,h9⟩
  ·rw[hr]
   (have hb:=trivial;with_reducible repeat' (first|simp only[hb,Vc.down,seval,Zk.down,h1,h2,hmt]|refine Aw ?_ ?_<;>intro hb|refine fd ?_|fail))
  ·(have hb:=trivial;with_reducible repeat' (first|simp only[hb,Vc.down,seval,Zk.down,h8,h9]|refine Aw ?_ ?_<;>intro hb|refine fd ?_|fail))
 ·have hV':=hV _ _ (fun h=>(hn h).elim) (fun _=>rfl)
  have hA:=hA true
  simp only[dE]at hA
  (refine ce Try.func17 ?_;simp only[Try.f17];(have hb:=trivial;with_reducible repeat' (first|simp only[hb,Vc.down,seval,Zk.down,hV',aaB]|refine Aw ?_ ?_<;>intro hb|refine fd ?_|fail)))
  refine Ek (Ve 44 m.moves (fun i (zz:Unit) t h=>t 1=.int .i64 st∧t 2=.int .i64 ag∧t 4=.ptr 0 0 0∧t 7=.ptr 1 0 0∧t 10=.slr 1 2 0 m.votes.length∧t 11=.int .i64 i∧(h=[.live 7 false false [[Ae 3 true m.nS (m.sens.map Bc.cells),Ae 4 false m.nV (m.votes.map Am.cells),Ae 5 false m.nM (m.moves.map Ak.cells),.int .i64 m.states,.int .i64 m.cmds,.int .i64 m.bgn,Ae 1 true m.nO (m.opn.map iv)]],.live 2 false false [[Ae 1 true y.nn (y.reads.map iv),.int .i64 y.cmd]],.live 1 true false ((m.votes.map (Rl m y.reads)).map bv)])) (fun rest zz=>Ik st ag bits y.cmd rest) (fun r e t h=>(e=.exit 0∧t 1=.int .i64 st∧t 2=.int .i64 ag∧r=(st,iY ag))∨(e=.ret∧t 8=.int .i64 r.1∧t 9=.int .i64 r.2)) ?_ ?_ () _ _ ?_) (fun e t h hk=>?_)
  ·rintro _ t h Q' kQ ⟨h1,h2,h4,h7,h10,h11,rfl⟩
   (have hb:=trivial;with_reducible repeat' (first|simp only[hb,Vc.down,seval,Zk.down,h1,h2,h4,h7,h10,h11,aaC,decide_false,aaB]|refine Aw ?_ ?_<;>intro hb|refine fd ?_|fail))
   exact kQ _ _ _ (.inl ⟨rfl,by simp[up,h1],by simp[up,h2],rfl⟩)
  ·rintro x rest i _ t h J Q' kJ kQ hx hi ⟨h1,h2,h4,h7,h10,h11,rfl⟩
   have hd:decide ((i:Int)<(m.moves.length:Int))=true:=decide_eq_true (by omega)
   have hw:=Ar hi hs.moves
   have hap:=hA x (aaD hx)
   generalize hq:bA (nd x st ag bits y.cmd)=q at hap
   (have hb:=trivial;with_reducible repeat' (first|simp only[hb,Vc.down,seval,Zk.down,h1,h2,h4,h7,h10,h11,hd,hx,hw,hap,htk,Ak.cells,aaB]|refine Aw ?_ ?_<;>intro hb|refine fd ?_|fail))
   ·exact kQ _ _ _ (.inr ⟨rfl,by simp[up,Ik,hq,hb],by simp[up,Ik,hq,hb]⟩)
   ·(refine Bw (kJ _ _ () ⟨?_,?_,?_,?_,?_,?_,rfl⟩ ?_);(simp[up,h1]);(simp[up,h2]);(simp[up,h4]);(simp[up,h7]);(simp[up,h10]);(simp[up]);(simp[Ik,hq,hb]))
  ·exact⟨by simp[up,Dz],by simp[up,Dz],by simp[up,Dz],by simp[up,Dz],by simp[up,Dz],by simp[up],rfl⟩
  rcases hk with⟨rfl,h1,h2,hr⟩|⟨rfl,h8,h9⟩
  ·rw[hr]
   (have hb:=trivial;with_reducible repeat' (first|simp only[hb,Vc.down,seval,Zk.down,h1,h2,hmt]|refine Aw ?_ ?_<;>intro hb|refine fd ?_|fail))
  ·(have hb:=trivial;with_reducible repeat' (first|simp only[hb,Vc.down,seval,Zk.down,h8,h9]|refine Aw ?_ ?_<;>intro hb|refine fd ?_|fail))
def Ys(m:Az):Bool:=m.votes.all (fun v=>decide (v.sens.length≤10))&&m.moves.all (fun x=>decide (x.wants.length≤10))&&decide (m.sens.length≤10)&&decide (m.votes.length≤10)&&decide (m.moves.length≤30)&&decide (m.opn.length≤20)
theorem rH(m:Az)(hs:m.small):Eo.call (.fn 12) [.agg [Ae 3 true m.nS (m.sens.map Bc.cells),Ae 4 false m.nV (m.votes.map Am.cells),Ae 5 false m.nM (m.moves.map Ak.cells),.int .i64 m.states,.int .i64 m.cmds,.int .i64 m.bgn,Ae 1 true m.nO (m.opn.map iv)]] []=some (.ret (.bool (Ys m)),[]):=by
 have l1:decide ((m.sens.length:Int)≤10)=decide (m.sens.length≤10):=by rw[decide_eq_decide];omega
 have l2:decide ((m.votes.length:Int)≤10)=decide (m.votes.length≤10):=by rw[decide_eq_decide];omega
 have l3:decide ((m.moves.length:Int)≤30)=decide (m.moves.length≤30):=by rw[decide_eq_decide];omega
 have l4:decide ((m.opn.length:Int)≤20)=decide (m.opn.length≤20):=by rw[decide_eq_decide];omega
 (refine ce Try.func12 ?_;simp only[Try.f12];(have hb:=trivial;with_reducible repeat' (first|simp only[hb,Vc.down,seval,Yf.down,aaB]|refine Aw ?_ ?_<;>intro hb|refine fd ?_|fail)))
 refine Ek (Ve 57 m.votes (fun i (zz:Unit) t h=>t 1=.ptr 0 0 0∧t 3=.int .i64 i∧(h=[.live 7 false false [[Ae 3 true m.nS (m.sens.map Bc.cells),Ae 4 false m.nV (m.votes.map Am.cells),Ae 5 false m.nM (m.moves.map Ak.cells),.int .i64 m.states,.int .i64 m.cmds,.int .i64 m.bgn,Ae 1 true m.nO (m.opn.map iv)]]])) (fun rest zz=>rest.all (fun v=>decide (v.sens.length≤10))) (fun r e t h=>(if r=true then e=.exit 0∧t 1=.ptr 0 0 0∧h=[.live 7 false false [[Ae 3 true m.nS (m.sens.map Bc.cells),Ae 4 false m.nV (m.votes.map Am.cells),Ae 5 false m.nM (m.moves.map Ak.cells),.int .i64 m.states,.int .i64 m.cmds,.int .i64 m.bgn,Ae 1 true m.nO (m.opn.map iv)]]]else e=.ret∧t 2=.bool false)) ?_ ?_ () _ _ ?_) (fun e t h hk=>?_)
 ·rintro _ t h Q' kQ ⟨h1,h3,rfl⟩
  (have hb:=trivial;with_reducible repeat' (first|simp only[hb,Vc.down,seval,Yf.down,h1,h3,aaC,decide_false,aaB]|refine Aw ?_ ?_<;>intro hb|refine fd ?_|fail))
  exact kQ _ _ _ (by rw[if_pos (by rfl)];exact⟨rfl,by simp[up,h1],rfl⟩)
 ·rintro x rest i _ t h J Q' kJ kQ hx hi ⟨h1,h3,rfl⟩
  have hd:decide ((i:Int)<(m.votes.length:Int))=true:=decide_eq_true (by omega)
  have hw:=Ar hi hs.votes
  have lx:decide ((10:Int)<(x.sens.length:Int))= !decide (x.sens.length≤10):=by rw[←decide_not,decide_eq_decide];omega
  cases c1:decide (x.sens.length≤10)with
  |false=>
   (have hb:=trivial;with_reducible repeat' (first|simp only[hb,Vc.down,seval,Yf.down,h1,h3,hd,hx,hw,lx,c1,Am.cells,aaB]|refine Aw ?_ ?_<;>intro hb|refine fd ?_|fail))
   exact kQ _ _ _ (by rw[if_neg (by simp only[aaY,c1,acJ];simp)];exact⟨rfl,by simp[up]⟩)
  |true=>
   (have hb:=trivial;with_reducible repeat' (first|simp only[hb,Vc.down,seval,Yf.down,h1,h3,hd,hx,hw,lx,c1,Am.cells,aaB]|refine Aw ?_ ?_<;>intro hb|refine fd ?_|fail))
   (refine Bw (kJ _ _ () ⟨?_,?_,rfl⟩ ?_);(simp[up,h1]);(simp[up]);(simp only[aaY,c1,acA]))
 ·exact⟨by simp[up,Dz],by simp[up],rfl⟩
 split at hk
 rotate_left
 ·obtain⟨rfl,h2⟩:=hk
  rename_i hr1
  (have hb:=trivial;with_reducible repeat' (first|simp only[hb,Vc.down,seval,Yf.down,h2]|refine Aw ?_ ?_<;>intro hb|refine fd ?_|fail))
  all_goals simp[Ys,aaG.2 hr1]
 obtain⟨rfl,h1,rfl⟩:=hk
 rename_i hr1
 (have hb:=trivial;with_reducible repeat' (first|simp only[hb,Vc.down,seval,Yf.down,h1,aaB]|refine Aw ?_ ?_<;>intro hb|refine fd ?_|fail))
 refine Ek (Ve 57 m.moves (fun i (zz:Unit) t h=>t 1=.ptr 0 0 0∧t 4=.int .i64 i∧(h=[.live 7 false false [[Ae 3 true m.nS (m.sens.map Bc.cells),Ae 4 false m.nV (m.votes.map Am.cells),Ae 5 false m.nM (m.moves.map Ak.cells),.int .i64 m.states,.int .i64 m.cmds,.int .i64 m.bgn,Ae 1 true m.nO (m.opn.map iv)]]])) (fun rest zz=>rest.all (fun x=>decide (x.wants.length≤10))) (fun r e t h=>(if r=true then e=.exit 2∧t 1=.ptr 0 0 0∧h=[.live 7 false false [[Ae 3 true m.nS (m.sens.map Bc.cells),Ae 4 false m.nV (m.votes.map Am.cells),Ae 5 false m.nM (m.moves.map Ak.cells),.int .i64 m.states,.int .i64 m.cmds,.int .i64 m.bgn,Ae 1 true m.nO (m.opn.map iv)]]]else e=.ret∧t 2=.bool false)) ?_ ?_ () _ _ ?_) (fun e t h hk=>?_)
 ·rintro _ t h Q' kQ ⟨h1,h4,rfl⟩
  (have hb:=trivial;with_reducible repeat' (first|simp only[hb,Vc.down,seval,Yf.down,h1,h4,aaC,decide_false,aaB]|refine Aw ?_ ?_<;>intro hb|refine fd ?_|fail))
  exact kQ _ _ _ (by rw[if_pos (by rfl)];exact⟨rfl,by simp[up,h1],rfl⟩)
 ·rintro x rest i _ t h J Q' kJ kQ hx hi ⟨h1,h4,rfl⟩
  have hd:decide ((i:Int)<(m.moves.length:Int))=true:=decide_eq_true (by omega)
  have hw:=Ar hi hs.moves
  have lx:decide ((10:Int)<(x.wants.length:Int))= !decide (x.wants.length≤10):=by rw[←decide_not,decide_eq_decide];omega
  cases c1:decide (x.wants.length≤10)with
  |false=>
   (have hb:=trivial;with_reducible repeat' (first|simp only[hb,Vc.down,seval,Yf.down,h1,h4,hd,hx,hw,lx,c1,Ak.cells,aaB]|refine Aw ?_ ?_<;>intro hb|refine fd ?_|fail))
   exact kQ _ _ _ (by rw[if_neg (by simp only[aaY,c1,acJ];simp)];exact⟨rfl,by simp[up]⟩)
  |true=>
   (have hb:=trivial;with_reducible repeat' (first|simp only[hb,Vc.down,seval,Yf.down,h1,h4,hd,hx,hw,lx,c1,Ak.cells,aaB]|refine Aw ?_ ?_<;>intro hb|refine fd ?_|fail))
   (refine Bw (kJ _ _ () ⟨?_,?_,rfl⟩ ?_);(simp[up,h1]);(simp[up]);(simp only[aaY,c1,acA]))
 ·exact⟨by simp[up,Dz,h1],by simp[up],rfl⟩
 split at hk
 rotate_left
 ·obtain⟨rfl,h2⟩:=hk
  rename_i hr2
  (have hb:=trivial;with_reducible repeat' (first|simp only[hb,Vc.down,seval,Yf.down,h2]|refine Aw ?_ ?_<;>intro hb|refine fd ?_|fail))
  all_goals simp[Ys,aaG.2 hr2]
 obtain⟨rfl,h1,rfl⟩:=hk
 rename_i hr2
 (have hb:=trivial;with_reducible repeat' (first|simp only[hb,Vc.down,seval,Yf.down,h1,aaB,l1,l2,l3,l4]|refine Aw ?_ ?_<;>intro hb|refine fd ?_|fail))
 all_goals (refine congrArg (fun b=>(Dn.ret (AV.bool b),([]:Aa))) ?_;symm;((try simp only[aBN,ap2,arZ]at *);simp only[Ys, *,aB3,acJ,Bool.and_true,acA,Bool.and_self,Bool.not_not,ap2,arZ,aaY,List.all_nil]))
theorem eC{α:Type}{d:List AV→Option α}{f:α→List AV}(hd:∀cs x,d cs=some x→cs=f x):∀{rows:List (List AV)} {l:List α},Bg d rows=some l→rows=l.map f
 | [],l,h=>by simp[Bg]at h;subst h;rfl
 |r::rows,l,h=>by
  simp only[Bg,agS,amO]at h
  obtain⟨x,h1,l',h2,rfl⟩:=h
  rw[hd r x h1,eC hd h2];rfl
def uF{α:Type}(n:Nat)(fl:Bool)(d:List AV→Option α):AV→Option (Bool × List α)
 | .nils=>some (false,[])
 | .imm n' fl' rows=>if n'=n∧fl'=fl then(Bg d rows).map fun l=>(true,l)else none
 |_=>none
theorem Rb{α:Type}{n:Nat}{fl:Bool}{d:List AV→Option α}{f:α→List AV}(hd:∀cs x,d cs=some x→cs=f x){v:AV}{x:Bool × List α}(h:uF n fl d v=some x):v=Ae n fl x.1 (x.2.map f):=by
 unfold uF at h
 split at h
 ·cases h;rfl
 ·split at h
  ·rename_i hq
   obtain⟨rfl,rfl⟩:=hq
   obtain⟨l,h1,rfl⟩:=amO.1 h
   rw[eC hd h1]
   cases l<;>rfl
  ·cases h
 ·cases h
def mE:List AV→Option Int
 | [.int .i64 a]=>some a
 |_=>none
theorem bC(cs:List AV)(x:Int)(h:mE cs=some x):cs=iv x:=by
 unfold mE at h
 split at h
 ·cases h;rfl
 ·cases h
def zF:List AV→Option Bc
 | [.int .i64 a,.int .i64 b,.bool c]=>some ⟨a,b,c⟩
 |_=>none
theorem rP(cs:List AV)(x:Bc)(h:zF cs=some x):cs=x.cells:=by
 unfold zF at h
 split at h
 ·cases h;rfl
 ·cases h
def qH:List AV→Option Am
 | [l,.int .i64 a,.int .i64 b,.bool c]=>(uF 1 true mE l).map fun x=>⟨x.1,x.2,a,b,c⟩
 |_=>none
theorem pW(cs:List AV)(x:Am)(h:qH cs=some x):cs=x.cells:=by
 unfold qH at h
 split at h
 ·obtain⟨y,h1,rfl⟩:=amO.1 h
  rw[Rb bC h1];rfl
 ·cases h
def lZ:List AV→Option An
 | [.int .i64 a,.bool c]=>some ⟨a,c⟩
 |_=>none
theorem oD(cs:List AV)(x:An)(h:lZ cs=some x):cs=x.cells:=by
 unfold lZ at h
 split at h
 ·cases h;rfl
 ·cases h
def qC:List AV→Option Ak
 | [.int .i64 a,.int .i64 b,l,.int .i64 c,.int .i64 d]=>(uF 2 true lZ l).map fun x=>⟨a,b,x.1,x.2,c,d⟩
 |_=>none
theorem nQ(cs:List AV)(x:Ak)(h:qC cs=some x):cs=x.cells:=by
 unfold qC at h
 split at h
 ·obtain⟨y,h1,rfl⟩:=amO.1 h
  rw[Rb oD h1];rfl
 ·cases h
def dY:List AV→Option Az
 | [s,v,x,.int .i64 a,.int .i64 b,.int .i64 c,o]=>(uF 3 true zF s).bind fun s=>(uF 4 false qH v).bind fun v=>(uF 5 false qC x).bind fun x=>(uF 1 true mE o).map fun o=>⟨s.1,s.2,v.1,v.2,x.1,x.2,a,b,c,o.1,o.2⟩
 |_=>none
theorem Ym(cs:List AV)(x:Az)(h:dY cs=some x):cs=x.cells:=by
 unfold dY at h
 split at h
 ·simp only[agS,amO]at h
  obtain⟨s,h1,v,h2,y,h3,o,h4,rfl⟩:=h
  rw[Rb rP h1,Rb pW h2,Rb nQ h3,Rb bC h4]
 ·cases h
def Yu(m:Az):Bool:=decide (m.sens.length≤1000)&&decide (m.votes.length≤1000)&&decide (m.moves.length≤1000)&&decide (m.opn.length≤1000)&&m.votes.all (fun v=>decide (v.sens.length≤1000))&&m.moves.all (fun x=>decide (x.wants.length≤1000))
theorem Ug{m:Az}(h:Yu m=true):m.small:=by
 simp only[Yu,aaE,decide_eq_true_eq,acY]at h
 obtain⟨⟨⟨⟨⟨a,b⟩,c⟩,d⟩,e⟩,f⟩:=h
 exact⟨by unfold maxLen;omega,by unfold maxLen;omega,by unfold maxLen;omega,by unfold maxLen;omega,fun v hv=>by have:=e v hv;unfold maxLen;omega,fun v hv=>by have:=f v hv;unfold maxLen;omega⟩
def lV:List AV→Aa→Option (Dn × Aa)
 | [.agg cs],[]=>(dY cs).bind fun m=>if Yu m=true then some (.ret (.bool (Ei m)),[])else none
 |_,_=>none
def vC:List AV→Aa→Option (Dn × Aa)
 | [.agg cs,.agg [.int .i64 st,.int .i64 ag],.agg [.int .i64 bits,.int .i64 com]],[]=>(dY cs).bind fun m=>if(Yu m&&m.moves.all fun x=>x.wants.all fun w=>decide (0≤w.vote))=true then
     (match Ik st ag bits com m.moves with
       |(a,b)=>some (.ret (.agg [.int .i64 a,.int .i64 b]),[]))else none
 |_,_=>none
def mH:List AV→Aa→Option (Dn × Aa)
 | [.agg cs,l],[]=>(dY cs).bind fun m=>(uF 1 true mE l).bind fun l=>if(Yu m&&decide (l.2.length=m.sens.length)&&m.votes.all fun v=>v.sens.all fun k=>decide (0≤k)&&decide (k.toNat<m.sens.length))=true then
     some (.ret (.int .i64 (Ld m l.2 m.votes 0 0)),[])else none
 |_,_=>none
def pr2:Ey:=⟨fun f=>if f=42 then some lV else if f=45 then some vC else if f=46 then some mH else pr f,pr.md⟩
theorem Uo:∀f p,pr2 f=some p→∀a h r,p a h=some r→Eo.call (.fn f) a h=some r:=by
 intro f p hp a h r hr
 simp only[pr2]at hp
 split at hp
 ·rename_i hf
  subst hf
  cases hp
  unfold lV at hr
  split at hr
  ·rename_i cs
   obtain⟨s,h1,h2⟩:=agS.1 hr
   split at h2
   ·rename_i hs
    cases h2
    rw[Ym _ _ h1]
    exact gU s (Ug hs)
   ·cases h2
  ·cases hr
 ·split at hp
  ·rename_i hf
   subst hf
   cases hp
   unfold vC at hr
   split at hr
   ·rename_i cs st ag bits com
    obtain⟨s,h1,h2⟩:=agS.1 hr
    split at h2
    ·rename_i hs
     simp only[aaE,acY,decide_eq_true_eq]at hs
     cases h2
     rw[Ym _ _ h1]
     exact pP s st ag bits com (Ug hs.1) hs.2
    ·cases h2
   ·cases hr
  ·split at hp
   ·rename_i hf
    subst hf
    cases hp
    unfold mH at hr
    split at hr
    ·rename_i cs l
     simp only[agS]at hr
     obtain⟨s,h1,y,h2,h3⟩:=hr
     split at h3
     ·rename_i hs
      simp only[aaE,acY,decide_eq_true_eq]at hs
      cases h3
      rw[Ym _ _ h1,Rb bC h2]
      exact fY s hs.1.2 (Ug hs.1.1) (fun v hv k hk=>hs.2 v hv k hk)
     ·cases h3
    ·cases hr
   ·cases hp
end Go.Proofs.Ytfkokgjfpojeoaa
