/- The functions of the layer, walked. -/
import Derived.Test.YtfkokgjfpojeoaaGreatDoorPartAA
open List renaming length_map→acQ,mem_of_getElem?→ahB,length_set→apD,all_eq_not_any_not→ap1,getElem?_eq_some_iff→aq0,take_add_one→arI,getElem?_eq_getElem→atX,length_eq_zero_iff→atY
open Int renaming lt_irrefl→aeG
open Bool renaming eq_false_iff→alV,true_and→am7,not_true→an9,false_and→aoD,not_false→aoF,and_eq_true→aoG,and_true→aoU,and_false→apM,not_eq_eq_eq_not→atT,eq_iff_iff→atV
set_option linter.unusedSimpArgs false
set_option linter.unusedVariables false
namespace Go.Proofs.YtfkokgjfpojeoaaGreatDoor
open Go.Ev Go
set_option maxRecDepth 100000
set_option maxHeartbeats 16000000
theorem aYU(o w:agP):om'.call (.fn 70) [.agg [.int .i64 o.vote,.bool o.is],.ptr 0 0 0] [.live 2 true false [[.int .i64 w.vote,.bool w.is]]]=some (.ret (.bool (o.vote==w.vote)),[.live 2 true false [[.int .i64 w.vote,.bool w.is]]]):=by
 (refine ce Tryz.func70 ?_;simp only[Tryz.f70];(have hb:=trivial;with_reducible repeat' (first|simp only[hb,Vc.down,seval,a7N.down]|refine fsp ?_ ?_<;>intro hb|refine fd ?_|fail)))
theorem aN2{l:List agP}{nn:Bool}{g:Nat}{ww:agP}{p:agP→Bool}(hp:∀x∈l,om'.call (.fn g) (.agg [.int .i64 x.vote,.bool x.is]::[.ptr 0 0 0]) [.live 2 true false [[.int .i64 ww.vote,.bool ww.is]]]=some (.ret (.bool (p x)),[.live 2 true false [[.int .i64 ww.vote,.bool ww.is]]]))(hl:l.length≤maxLen):
 om'.call (.fn 81) [slv 2 true nn (l.map agP.cells),.func (.func g) [] [.ptr 0 0 0]] [.live 2 true false [[.int .i64 ww.vote,.bool ww.is]]]=some (.ret (.int .i64 (idx p l 0)),[.live 2 true false [[.int .i64 ww.vote,.bool ww.is]]]):=by
 (refine ce Tryz.func81 ?_;simp only[Tryz.f81];(have hb:=trivial;with_reducible repeat' (first|simp only[hb,Vc.down,seval,aEN.down,acQ]|refine fsp ?_ ?_<;>intro hb|refine fd ?_|fail)))
 refine anJ (lst 19 l (fun i (s:Int) t h=>s=i∧h=[.live 2 true false [[.int .i64 ww.vote,.bool ww.is]]]∧t 0=slv 2 true nn (l.map agP.cells)∧t 1=.func (.func g) [] [.ptr 0 0 0]∧t 7=.int .i64 l.length∧t 8=.int .i64 i)
  (fun rest s=>idx p rest s) (fun r e t h=>h=[.live 2 true false [[.int .i64 ww.vote,.bool ww.is]]]∧((e=.exit 0∧r= -1)∨(e=.ret∧t 4=.int .i64 r))) ?_ ?_ 0 _ _ ?_) (fun e t h hk=>?_)
 ·rintro s t h Q' kQ ⟨rfl,rfl,h0,h1,h7,h8⟩
  (have hb:=trivial;with_reducible repeat' (first|simp only[hb,Vc.down,seval,aEN.down,h0,h1,h7,h8,aeG,decide_false]|refine fsp ?_ ?_<;>intro hb|refine fd ?_|fail))
  exact kQ _ _ _ ⟨rfl,.inl ⟨rfl,rfl⟩⟩
 ·rintro x rest i s t h J Q' kJ kQ hx hi ⟨rfl,rfl,h0,h1,h7,h8⟩
  have hpx:=hp x (ahB hx)
  have hd:decide ((i:Int)<(l.length:Int))=true:=by simpa using hi
  (have hb:=trivial;with_reducible repeat' (first|simp only[hb,Vc.down,seval,aEN.down,h0,h1,h7,h8,hd,hx,agP.cells,hpx,agA hi hl]|refine fsp ?_ ?_<;>intro hb|refine fd ?_|fail))
  ·exact kQ _ _ _ ⟨rfl,.inr ⟨rfl,by simp[up,idx,hb]⟩⟩
  ·exact ai7 (kJ _ _ (i+1) ⟨by simp,rfl,by simp[up,h0],by simp[up,h1],by simp[up,h7],by simp[up]⟩ (by simp[idx,hb]))
 ·exact⟨rfl,rfl,by simp[up,ent],by simp[up,ent],by simp[up],by simp[up]⟩
 ·obtain⟨rfl,⟨rfl,hi⟩|⟨rfl,hi⟩⟩:=hk
  ·(have hb:=trivial;with_reducible repeat' (first|simp only[hb,Vc.down,seval,aEN.down]|refine fsp ?_ ?_<;>intro hb|refine fd ?_|fail))
   rw[hi]
  ·(have hb:=trivial;with_reducible repeat' (first|simp only[hb,Vc.down,seval,aEN.down,hi]|refine fsp ?_ ?_<;>intro hb|refine fd ?_|fail))
theorem aLB{l:List agP}{nn:Bool}{g:Nat}{ww:agP}{p:agP→Bool}(hp:∀x∈l,om'.call (.fn g) (.agg [.int .i64 x.vote,.bool x.is]::[.ptr 0 0 0]) [.live 2 true false [[.int .i64 ww.vote,.bool ww.is]]]=some (.ret (.bool (p x)),[.live 2 true false [[.int .i64 ww.vote,.bool ww.is]]]))(hl:l.length≤maxLen):
 om'.call (.fn 69) [slv 2 true nn (l.map agP.cells),.func (.func g) [] [.ptr 0 0 0]] [.live 2 true false [[.int .i64 ww.vote,.bool ww.is]]]=some (.ret (.bool (l.any p)),[.live 2 true false [[.int .i64 ww.vote,.bool ww.is]]]):=by
 (refine ce Tryz.func69 ?_;simp only[Tryz.f69];(have hb:=trivial;with_reducible repeat' (first|simp only[hb,Vc.down,seval,aN2 hp hl,ayQ p l 0 (Int.le_refl 0)]|refine fsp ?_ ?_<;>intro hb|refine fd ?_|fail)))
def asY(nv:Int):List agP→List agP→Bool
 |_,[]=>true
 |pre,w::l=>inB w.vote 0 (IntKind.i64.wrap (nv-1))&& !(pre.any fun o=>o.vote==w.vote)&&asY nv (pre++[w]) l
def asR(m:ad5)(x:acS):Bool:=asY m.votes.length [] x.wants&&inB x.frm 0 (IntKind.i64.wrap (m.states-1))&&inB x.to 0 (IntKind.i64.wrap (m.states-1))&&decide (x.wants.length≤6)&&inB x.cmd (-1) (IntKind.i64.wrap (m.cmds-1))&&inB x.after 0 10
theorem aZN(m:ad5)(y:acS)(hl:y.wants.length≤maxLen):om'.call (.fn 51) [.agg [slv 3 true m.nS (m.sens.map ak7.cells),slv 4 false m.nV (m.votes.map acT.cells),slv 5 false m.nM (m.moves.map acS.cells),.int .i64 m.states,.int .i64 m.cmds,.int .i64 m.bgn,slv 1 true m.nO (m.opn.map iv)],.agg [.int .i64 y.frm,.int .i64 y.to,slv 2 true y.nn (y.wants.map agP.cells),.int .i64 y.cmd,.int .i64 y.after]] []=some (.ret (.bool (asR m y)),[]):=by
 have l6:decide ((y.wants.length:Int)≤6)=decide (y.wants.length≤6):=by rw[decide_eq_decide];omega
 (refine ce Tryz.func51 ?_;simp only[Tryz.f51];(have hb:=trivial;with_reducible repeat' (first|simp only[hb,Vc.down,seval,aLO.down,acQ]|refine fsp ?_ ?_<;>intro hb|refine fd ?_|fail)))
 refine anJ (lst 65 y.wants (fun i (zz:List agP) t h=>t 2=.ptr 0 0 0∧t 3=.ptr 1 0 0∧t 8=slv 2 true y.nn (y.wants.map agP.cells)∧t 9=.int .i64 y.wants.length∧t 10=.int .i64 i∧(h[0]?=some (.live 7 false false [[slv 3 true m.nS (m.sens.map ak7.cells),slv 4 false m.nV (m.votes.map acT.cells),slv 5 false m.nM (m.moves.map acS.cells),.int .i64 m.states,.int .i64 m.cmds,.int .i64 m.bgn,slv 1 true m.nO (m.opn.map iv)]])∧h[1]?=some (.live 5 false false [[.int .i64 y.frm,.int .i64 y.to,slv 2 true y.nn (y.wants.map agP.cells),.int .i64 y.cmd,.int .i64 y.after]])∧zz=y.wants.take i)) (fun rest zz=>asY m.votes.length zz rest) (fun r e t h=>(if r=true then e=.exit 0∧t 2=.ptr 0 0 0∧t 3=.ptr 1 0 0∧h[0]?=some (.live 7 false false [[slv 3 true m.nS (m.sens.map ak7.cells),slv 4 false m.nV (m.votes.map acT.cells),slv 5 false m.nM (m.moves.map acS.cells),.int .i64 m.states,.int .i64 m.cmds,.int .i64 m.bgn,slv 1 true m.nO (m.opn.map iv)]])∧h[1]?=some (.live 5 false false [[.int .i64 y.frm,.int .i64 y.to,slv 2 true y.nn (y.wants.map agP.cells),.int .i64 y.cmd,.int .i64 y.after]])else e=.ret∧t 4=.bool false)) ?_ ?_ ([]) _ _ ?_) (fun e t h hk=>?_)
 ·rintro p t h Q' kQ ⟨h2,h3,h8,h9,h10,⟨hA,hB,hp⟩⟩
  (have hb:=trivial;with_reducible repeat' (first|simp only[hb,Vc.down,seval,aLO.down,h2,h3,h8,h9,h10,aeG,decide_false]|refine fsp ?_ ?_<;>intro hb|refine fd ?_|fail))
  exact kQ _ _ _ (by rw[if_pos (by rfl)];exact⟨rfl,by simp[up,h2],by simp[up,h3],hA,hB⟩)
 ·rintro x rest i p t h J Q' kJ kQ hx hi ⟨h2,h3,h8,h9,h10,⟨hA,hB,hp⟩⟩
  have hd:decide ((i:Int)<(y.wants.length:Int))=true:=decide_eq_true (by omega)
  have hw:=agA hi hl
  have hA1:=ahZ hA
  have hB1:=ahZ hB
  have hcW:=aLB (l:=y.wants.take i) (nn:=true) (ww:=x) (g:=70) (p:=fun o=>o.vote==x.vote) (fun o _=>aYU o x) (by simp;omega)
  have hsl:=a0M (P:=Tryz.prog) (ty:=50) (n:=2) ⟨_,Tryz.underlying50,by kernel_rfl⟩ true y.nn (rows:=y.wants.map agP.cells) (i:=i) (by simpa using hi)
  rw[ay4,List.map_take]at hcW
  subst hp
  cases c1:inB x.vote 0 (IntKind.i64.wrap ((m.votes.length:Int)-1))with
  |false=>
   (have hb:=trivial;with_reducible repeat' (first|simp only[hb,Vc.down,seval,aLO.down,h2,h3,h8,h9,h10,hd,hx,hw,hA1,hB1,aAL,agP.cells,acQ,hcW,hsl,c1]|refine fsp ?_ ?_<;>intro hb|refine fd ?_|fail))
   exact kQ _ _ _ (by rw[if_neg (by simp[asY,c1])];exact⟨rfl,by simp[up]⟩)
  |true=>
   cases c2:(y.wants.take i).any (fun o=>o.vote==x.vote)with
   |true=>
    rw[c2]at hcW
    (have hb:=trivial;with_reducible repeat' (first|simp only[hb,Vc.down,seval,aLO.down,h2,h3,h8,h9,h10,hd,hx,hw,hA1,hB1,aAL,agP.cells,acQ,hcW,hsl,c1]|refine fsp ?_ ?_<;>intro hb|refine fd ?_|fail))
    exact kQ _ _ _ (by rw[if_neg (by simp only[asY,c1,c2,an9,apM,aoD];simp)];exact⟨rfl,by simp[up]⟩)
   |false=>
    rw[c2]at hcW
    (have hb:=trivial;with_reducible repeat' (first|simp only[hb,Vc.down,seval,aLO.down,h2,h3,h8,h9,h10,hd,hx,hw,hA1,hB1,aAL,agP.cells,acQ,hcW,hsl,c1]|refine fsp ?_ ?_<;>intro hb|refine fd ?_|fail))
    (refine ai7 (kJ _ _ (y.wants.take i++[x]) ⟨?_,?_,?_,?_,?_,⟨hA1 _,hB1 _,by rw[arI,hx];rfl⟩⟩ ?_);(simp[up,h2]);(simp[up,h3]);(simp[up,h8]);(simp[up,h9]);(simp[up]);(simp only[asY,c1,c2,aoF,aoU,am7]))
 ·exact⟨by simp[up,ent],by simp[up,ent],by simp[up,ent],by simp[up,ent],by simp[up],⟨rfl,rfl,rfl⟩⟩
 ·split at hk
  ·obtain⟨rfl,h2,h3,hA,hB⟩:=hk
   rename_i hr
   have hA1:=ahZ hA
   have hB1:=ahZ hB
   (have hb:=trivial;with_reducible repeat' (first|simp only[hb,Vc.down,seval,aLO.down,h2,h3,hA,hB,hA1,hB1,aAL,acQ,l6]|refine fsp ?_ ?_<;>intro hb|refine fd ?_|fail))
   all_goals (refine congrArg (fun b=>(Out.ret (AV.bool b),([]:aaP))) ?_;symm;((try simp only[atT,an9,aoF]at *);simp only[asR, *,apM,aoD,aoU,am7,Bool.and_self,Bool.not_not,an9,aoF,List.all_cons,List.all_nil]))
  ·obtain⟨rfl,h4⟩:=hk
   rename_i hr
   (have hb:=trivial;with_reducible repeat' (first|simp only[hb,Vc.down,seval,aLO.down,h4]|refine fsp ?_ ?_<;>intro hb|refine fd ?_|fail))
   all_goals simp_all[asR]
def aPY(w:agP):List agP→Bool
 | []=>true
 |o::l=> !(o.vote==w.vote)&&aPY w l
theorem aG2(w:agP):∀l,aPY w l= !(l.any fun o=>o.vote==w.vote)
 | []=>rfl
 |o::l=>by simp[aPY,aG2 w l]
theorem a23(m:ad5)(y:acS)(hl:y.wants.length≤maxLen):om'.call (.fn 27) [.agg [slv 3 true m.nS (m.sens.map ak7.cells),slv 4 false m.nV (m.votes.map acT.cells),slv 5 false m.nM (m.moves.map acS.cells),.int .i64 m.states,.int .i64 m.cmds,.int .i64 m.bgn,slv 1 true m.nO (m.opn.map iv)],.agg [.int .i64 y.frm,.int .i64 y.to,slv 2 true y.nn (y.wants.map agP.cells),.int .i64 y.cmd,.int .i64 y.after]] []=some (.ret (.bool (asR m y)),[]):=by
 have l6:decide ((y.wants.length:Int)≤6)=decide (y.wants.length≤6):=by rw[decide_eq_decide];omega
 (refine ce Tryz.func27 ?_;simp only[Tryz.f27];(have hb:=trivial;with_reducible repeat' (first|simp only[hb,Vc.down,seval,aB8.down,acQ]|refine fsp ?_ ?_<;>intro hb|refine fd ?_|fail)))
 refine anJ (lst 77 y.wants (fun i (zz:List agP) t h=>t 2=.ptr 0 0 0∧t 3=.ptr 1 0 0∧t 5=.int .i64 i∧(h=[.live 7 false false [[slv 3 true m.nS (m.sens.map ak7.cells),slv 4 false m.nV (m.votes.map acT.cells),slv 5 false m.nM (m.moves.map acS.cells),.int .i64 m.states,.int .i64 m.cmds,.int .i64 m.bgn,slv 1 true m.nO (m.opn.map iv)]],.live 5 false false [[.int .i64 y.frm,.int .i64 y.to,slv 2 true y.nn (y.wants.map agP.cells),.int .i64 y.cmd,.int .i64 y.after]]]∧zz=y.wants.take i)) (fun rest zz=>asY m.votes.length zz rest) (fun r e t h=>(if r=true then e=.exit 0∧t 2=.ptr 0 0 0∧t 3=.ptr 1 0 0∧h=[.live 7 false false [[slv 3 true m.nS (m.sens.map ak7.cells),slv 4 false m.nV (m.votes.map acT.cells),slv 5 false m.nM (m.moves.map acS.cells),.int .i64 m.states,.int .i64 m.cmds,.int .i64 m.bgn,slv 1 true m.nO (m.opn.map iv)]],.live 5 false false [[.int .i64 y.frm,.int .i64 y.to,slv 2 true y.nn (y.wants.map agP.cells),.int .i64 y.cmd,.int .i64 y.after]]]else e=.ret∧t 4=.bool false)) ?_ ?_ ([]) _ _ ?_) (fun e t h hk=>?_)
 ·rintro p t h Q' kQ ⟨h2,h3,h5,⟨rfl,hp⟩⟩
  (have hb:=trivial;with_reducible repeat' (first|simp only[hb,Vc.down,seval,aB8.down,h2,h3,h5,aeG,decide_false,acQ]|refine fsp ?_ ?_<;>intro hb|refine fd ?_|fail))
  exact kQ _ _ _ (by rw[if_pos (by rfl)];exact⟨rfl,by simp[up,h2],by simp[up,h3],rfl⟩)
 ·rintro x rest i p t h J Q' kJ kQ hx hi ⟨h2,h3,h5,⟨rfl,hp⟩⟩
  have hd:decide ((i:Int)<(y.wants.length:Int))=true:=decide_eq_true (by omega)
  have hw:=agA hi hl
  subst hp
  cases c1:inB x.vote 0 (IntKind.i64.wrap ((m.votes.length:Int)-1))with
  |false=>
   (have hb:=trivial;with_reducible repeat' (first|simp only[hb,Vc.down,seval,aB8.down,h2,h3,h5,hd,hx,hw,aC7,c1,agP.cells,acQ]|refine fsp ?_ ?_<;>intro hb|refine fd ?_|fail))
   exact kQ _ _ _ (by rw[if_neg (by simp[asY,c1])];exact⟨rfl,by simp[up]⟩)
  |true=>
   obtain⟨w,rfl⟩:∃w,w=x:=⟨_,rfl⟩
   obtain⟨k,rfl⟩:∃k,k=i:=⟨_,rfl⟩
   have hlen:(y.wants.take k).length=k:=by simp;omega
   have hxk:=hx
   (have hb:=trivial;with_reducible repeat' (first|simp only[hb,Vc.down,seval,aB8.down,h2,h3,h5,hd,hx,hw,aC7,c1,agP.cells,acQ]|refine fsp ?_ ?_<;>intro hb|refine fd ?_|fail))
   refine anJ (lst 77 (y.wants.take k) (fun i (zz:Unit) t h=>t 2=.ptr 0 0 0∧t 3=.ptr 1 0 0∧t 5=.int .i64 (k:Int)∧t 6=.int .i64 i∧h=[.live 7 false false [[slv 3 true m.nS (m.sens.map ak7.cells),slv 4 false m.nV (m.votes.map acT.cells),slv 5 false m.nM (m.moves.map acS.cells),.int .i64 m.states,.int .i64 m.cmds,.int .i64 m.bgn,slv 1 true m.nO (m.opn.map iv)]],.live 5 false false [[.int .i64 y.frm,.int .i64 y.to,slv 2 true y.nn (y.wants.map agP.cells),.int .i64 y.cmd,.int .i64 y.after]]]) (fun rest zz=>aPY w rest) (fun r e t h=>(if r=true then e=.exit 2∧t 2=.ptr 0 0 0∧t 3=.ptr 1 0 0∧t 5=.int .i64 (k:Int)∧h=[.live 7 false false [[slv 3 true m.nS (m.sens.map ak7.cells),slv 4 false m.nV (m.votes.map acT.cells),slv 5 false m.nM (m.moves.map acS.cells),.int .i64 m.states,.int .i64 m.cmds,.int .i64 m.bgn,slv 1 true m.nO (m.opn.map iv)]],.live 5 false false [[.int .i64 y.frm,.int .i64 y.to,slv 2 true y.nn (y.wants.map agP.cells),.int .i64 y.cmd,.int .i64 y.after]]]else e=.ret∧t 4=.bool false)) ?_ ?_ () _ _ ?_) (fun e tC hC hk=>?_)
   ·rintro _ t h Q' kQ ⟨h2,h3,h5,h6,rfl⟩
    (have hb:=trivial;with_reducible repeat' (first|simp only[hb,Vc.down,seval,aB8.down,h2,h3,h5,h6,aeG,decide_false,hlen]|refine fsp ?_ ?_<;>intro hb|refine fd ?_|fail))
    exact kQ _ _ _ (by rw[if_pos (by rfl)];exact⟨rfl,by simp[up,h2],by simp[up,h3],by simp[up,h5],rfl⟩)
   ·rintro x rest i _ t h J Q' kJ kQ hx hi ⟨h2,h3,h5,h6,rfl⟩
    have hd:decide ((i:Int)<((y.wants.take k).length:Int))=true:=decide_eq_true (by omega)
    have hw:=agA hi (by simp;omega)
    rw[hlen]at hd
    have hxi:y.wants[i]?=some x:=by rw[List.getElem?_take]at hx;split at hx;exact hx;cases hx
    cases c3:(x.vote==w.vote)with
    |true=>
     (have hb:=trivial;with_reducible repeat' (first|simp only[hb,Vc.down,seval,aB8.down,h2,h3,h5,h6,hd,hxi,hxk,hw,c3,agP.cells]|refine fsp ?_ ?_<;>intro hb|refine fd ?_|fail))
     exact kQ _ _ _ (by rw[if_neg (by simp[aPY,c3])];exact⟨rfl,by simp[up]⟩)
    |false=>
     (have hb:=trivial;with_reducible repeat' (first|simp only[hb,Vc.down,seval,aB8.down,h2,h3,h5,h6,hd,hxi,hxk,hw,c3,agP.cells]|refine fsp ?_ ?_<;>intro hb|refine fd ?_|fail))
     (refine ai7 (kJ _ _ () ⟨?_,?_,?_,?_,rfl⟩ ?_);(simp[up,h2]);(simp[up,h3]);(simp[up,h5]);(simp[up]);(simp[aPY,c3]))
   ·exact⟨by simp[up,ent,h2,h3,h5],by simp[up,ent,h2,h3,h5],by simp[up,ent,h2,h3,h5],by simp[up],rfl⟩
   ·split at hk
    ·rename_i hdup
     obtain⟨rfl,h2,h3,h5,rfl⟩:=hk
     (have hb:=trivial;with_reducible repeat' (first|simp only[hb,Vc.down,seval,aB8.down,h2,h3,h5,hw]|refine fsp ?_ ?_<;>intro hb|refine fd ?_|fail))
     rw[aG2]at hdup
     (refine ai7 (kJ _ _ (y.wants.take k++[w]) ⟨?_,?_,?_,⟨rfl,by rw[arI,hxk];rfl⟩⟩ ?_);(simp[up,h2]);(simp[up,h3]);(simp[up]);(simp only[asY,c1,hdup,am7]))
    ·rename_i hdup
     obtain⟨rfl,h4⟩:=hk
     (have hb:=trivial;with_reducible repeat' (first|simp only[hb,Vc.down,seval,aB8.down,h4]|refine fsp ?_ ?_<;>intro hb|refine fd ?_|fail))
     rw[aG2]at hdup
     exact kQ _ _ _ (by rw[if_neg (by simp only[asY,c1,am7,alV.2 hdup,aoD];simp)];exact⟨rfl,by simp[up,h4]⟩)
 ·exact⟨by simp[up,ent],by simp[up,ent],by simp[up],⟨rfl,rfl⟩⟩
 ·split at hk
  ·obtain⟨rfl,h2,h3,rfl⟩:=hk
   rename_i hr
   (have hb:=trivial;with_reducible repeat' (first|simp only[hb,Vc.down,seval,aB8.down,h2,h3,aC7,acQ,l6]|refine fsp ?_ ?_<;>intro hb|refine fd ?_|fail))
   all_goals (refine congrArg (fun b=>(Out.ret (AV.bool b),([]:aaP))) ?_;symm;((try simp only[atT,an9,aoF]at *);simp only[asR, *,apM,aoD,aoU,am7,Bool.and_self,Bool.not_not,an9,aoF,List.all_cons,List.all_nil]))
  ·obtain⟨rfl,h4⟩:=hk
   rename_i hr
   (have hb:=trivial;with_reducible repeat' (first|simp only[hb,Vc.down,seval,aB8.down,h4]|refine fsp ?_ ?_<;>intro hb|refine fd ?_|fail))
   all_goals simp_all[asR]
def aLR(s:ak7):Bool:=azR s.lo&&azR s.hi&& !decide (s.hi<s.lo)
def asN(m:ad5):Bool:=decide (m.sens.length≤6)&&decide (m.votes.length≤6)&&decide (m.moves.length≤20)&&inB m.states 1 8&&inB m.cmds 0 4&&inB m.bgn 0 (IntKind.i64.wrap (m.states-1))&&((m.opn.length:Int)==m.states)
def an4(m:ad5):Bool:=asN m&&m.sens.all aLR&&m.votes.all (aw1 m.sens.length)&&m.moves.all (asR m)&&m.opn.all (fun n=>inB n 0 255)
theorem aR0(m:ad5)(x:acS)(hl:x.wants.length≤maxLen):om'.call (.fn 50) [.agg [.int .i64 x.frm,.int .i64 x.to,slv 2 true x.nn (x.wants.map agP.cells),.int .i64 x.cmd,.int .i64 x.after],.ptr 0 0 0] [.live 7 false false [[slv 3 true m.nS (m.sens.map ak7.cells),slv 4 false m.nV (m.votes.map acT.cells),slv 5 false m.nM (m.moves.map acS.cells),.int .i64 m.states,.int .i64 m.cmds,.int .i64 m.bgn,slv 1 true m.nO (m.opn.map iv)]]]=some (.ret (.bool (!asR m x)),[.live 7 false false [[slv 3 true m.nS (m.sens.map ak7.cells),slv 4 false m.nV (m.votes.map acT.cells),slv 5 false m.nM (m.moves.map acS.cells),.int .i64 m.states,.int .i64 m.cmds,.int .i64 m.bgn,slv 1 true m.nO (m.opn.map iv)]]]):=by
 have hm:=aZN m x hl
 (refine ce Tryz.func50 ?_;simp only[Tryz.f50];(have hb:=trivial;with_reducible repeat' (first|simp only[hb,Vc.down,seval,a7D.down,hm]|refine fsp ?_ ?_<;>intro hb|refine fd ?_|fail)))
theorem aN3{l:List acS}{nn:Bool}{g:Nat}{mm:ad5}{p:acS→Bool}(hp:∀x∈l,om'.call (.fn g) (.agg [.int .i64 x.frm,.int .i64 x.to,slv 2 true x.nn (x.wants.map agP.cells),.int .i64 x.cmd,.int .i64 x.after]::[.ptr 0 0 0]) [.live 7 false false [[slv 3 true mm.nS (mm.sens.map ak7.cells),slv 4 false mm.nV (mm.votes.map acT.cells),slv 5 false mm.nM (mm.moves.map acS.cells),.int .i64 mm.states,.int .i64 mm.cmds,.int .i64 mm.bgn,slv 1 true mm.nO (mm.opn.map iv)]]]=some (.ret (.bool (p x)),[.live 7 false false [[slv 3 true mm.nS (mm.sens.map ak7.cells),slv 4 false mm.nV (mm.votes.map acT.cells),slv 5 false mm.nM (mm.moves.map acS.cells),.int .i64 mm.states,.int .i64 mm.cmds,.int .i64 mm.bgn,slv 1 true mm.nO (mm.opn.map iv)]]]))(hl:l.length≤maxLen):
 om'.call (.fn 68) [slv 5 false nn (l.map acS.cells),.func (.func g) [] [.ptr 0 0 0]] [.live 7 false false [[slv 3 true mm.nS (mm.sens.map ak7.cells),slv 4 false mm.nV (mm.votes.map acT.cells),slv 5 false mm.nM (mm.moves.map acS.cells),.int .i64 mm.states,.int .i64 mm.cmds,.int .i64 mm.bgn,slv 1 true mm.nO (mm.opn.map iv)]]]=some (.ret (.int .i64 (idx p l 0)),[.live 7 false false [[slv 3 true mm.nS (mm.sens.map ak7.cells),slv 4 false mm.nV (mm.votes.map acT.cells),slv 5 false mm.nM (mm.moves.map acS.cells),.int .i64 mm.states,.int .i64 mm.cmds,.int .i64 mm.bgn,slv 1 true mm.nO (mm.opn.map iv)]]]):=by
 (refine ce Tryz.func68 ?_;simp only[Tryz.f68];(have hb:=trivial;with_reducible repeat' (first|simp only[hb,Vc.down,seval,aU1.down,acQ]|refine fsp ?_ ?_<;>intro hb|refine fd ?_|fail)))
 refine anJ (lst 19 l (fun i (s:Int) t h=>s=i∧h=[.live 7 false false [[slv 3 true mm.nS (mm.sens.map ak7.cells),slv 4 false mm.nV (mm.votes.map acT.cells),slv 5 false mm.nM (mm.moves.map acS.cells),.int .i64 mm.states,.int .i64 mm.cmds,.int .i64 mm.bgn,slv 1 true mm.nO (mm.opn.map iv)]]]∧t 0=slv 5 false nn (l.map acS.cells)∧t 1=.func (.func g) [] [.ptr 0 0 0]∧t 7=.int .i64 l.length∧t 8=.int .i64 i)
  (fun rest s=>idx p rest s) (fun r e t h=>h=[.live 7 false false [[slv 3 true mm.nS (mm.sens.map ak7.cells),slv 4 false mm.nV (mm.votes.map acT.cells),slv 5 false mm.nM (mm.moves.map acS.cells),.int .i64 mm.states,.int .i64 mm.cmds,.int .i64 mm.bgn,slv 1 true mm.nO (mm.opn.map iv)]]]∧((e=.exit 0∧r= -1)∨(e=.ret∧t 4=.int .i64 r))) ?_ ?_ 0 _ _ ?_) (fun e t h hk=>?_)
 ·rintro s t h Q' kQ ⟨rfl,rfl,h0,h1,h7,h8⟩
  (have hb:=trivial;with_reducible repeat' (first|simp only[hb,Vc.down,seval,aU1.down,h0,h1,h7,h8,aeG,decide_false]|refine fsp ?_ ?_<;>intro hb|refine fd ?_|fail))
  exact kQ _ _ _ ⟨rfl,.inl ⟨rfl,rfl⟩⟩
 ·rintro x rest i s t h J Q' kJ kQ hx hi ⟨rfl,rfl,h0,h1,h7,h8⟩
  have hpx:=hp x (ahB hx)
  have hd:decide ((i:Int)<(l.length:Int))=true:=by simpa using hi
  (have hb:=trivial;with_reducible repeat' (first|simp only[hb,Vc.down,seval,aU1.down,h0,h1,h7,h8,hd,hx,acS.cells,hpx,agA hi hl]|refine fsp ?_ ?_<;>intro hb|refine fd ?_|fail))
  ·exact kQ _ _ _ ⟨rfl,.inr ⟨rfl,by simp[up,idx,hb]⟩⟩
  ·exact ai7 (kJ _ _ (i+1) ⟨by simp,rfl,by simp[up,h0],by simp[up,h1],by simp[up,h7],by simp[up]⟩ (by simp[idx,hb]))
 ·exact⟨rfl,rfl,by simp[up,ent],by simp[up,ent],by simp[up],by simp[up]⟩
 ·obtain⟨rfl,⟨rfl,hi⟩|⟨rfl,hi⟩⟩:=hk
  ·(have hb:=trivial;with_reducible repeat' (first|simp only[hb,Vc.down,seval,aU1.down]|refine fsp ?_ ?_<;>intro hb|refine fd ?_|fail))
   rw[hi]
  ·(have hb:=trivial;with_reducible repeat' (first|simp only[hb,Vc.down,seval,aU1.down,hi]|refine fsp ?_ ?_<;>intro hb|refine fd ?_|fail))
theorem aKT{l:List acS}{nn:Bool}{g:Nat}{mm:ad5}{p:acS→Bool}(hp:∀x∈l,om'.call (.fn g) (.agg [.int .i64 x.frm,.int .i64 x.to,slv 2 true x.nn (x.wants.map agP.cells),.int .i64 x.cmd,.int .i64 x.after]::[.ptr 0 0 0]) [.live 7 false false [[slv 3 true mm.nS (mm.sens.map ak7.cells),slv 4 false mm.nV (mm.votes.map acT.cells),slv 5 false mm.nM (mm.moves.map acS.cells),.int .i64 mm.states,.int .i64 mm.cmds,.int .i64 mm.bgn,slv 1 true mm.nO (mm.opn.map iv)]]]=some (.ret (.bool (p x)),[.live 7 false false [[slv 3 true mm.nS (mm.sens.map ak7.cells),slv 4 false mm.nV (mm.votes.map acT.cells),slv 5 false mm.nM (mm.moves.map acS.cells),.int .i64 mm.states,.int .i64 mm.cmds,.int .i64 mm.bgn,slv 1 true mm.nO (mm.opn.map iv)]]]))(hl:l.length≤maxLen):
 om'.call (.fn 49) [slv 5 false nn (l.map acS.cells),.func (.func g) [] [.ptr 0 0 0]] [.live 7 false false [[slv 3 true mm.nS (mm.sens.map ak7.cells),slv 4 false mm.nV (mm.votes.map acT.cells),slv 5 false mm.nM (mm.moves.map acS.cells),.int .i64 mm.states,.int .i64 mm.cmds,.int .i64 mm.bgn,slv 1 true mm.nO (mm.opn.map iv)]]]=some (.ret (.bool (l.any p)),[.live 7 false false [[slv 3 true mm.nS (mm.sens.map ak7.cells),slv 4 false mm.nV (mm.votes.map acT.cells),slv 5 false mm.nM (mm.moves.map acS.cells),.int .i64 mm.states,.int .i64 mm.cmds,.int .i64 mm.bgn,slv 1 true mm.nO (mm.opn.map iv)]]]):=by
 (refine ce Tryz.func49 ?_;simp only[Tryz.f49];(have hb:=trivial;with_reducible repeat' (first|simp only[hb,Vc.down,seval,aN3 hp hl,ayQ p l 0 (Int.le_refl 0)]|refine fsp ?_ ?_<;>intro hb|refine fd ?_|fail)))
theorem aMF(m:ad5)(hs:m.small):om'.call (.fn 23) [.agg [slv 3 true m.nS (m.sens.map ak7.cells),slv 4 false m.nV (m.votes.map acT.cells),slv 5 false m.nM (m.moves.map acS.cells),.int .i64 m.states,.int .i64 m.cmds,.int .i64 m.bgn,slv 1 true m.nO (m.opn.map iv)]] []=some (.ret (.bool (an4 m)),[]):=by
 have l1:decide ((6:Int)<(m.sens.length:Int))= !decide (m.sens.length≤6):=by rw[←decide_not,decide_eq_decide];omega
 have l2:decide ((6:Int)<(m.votes.length:Int))= !decide (m.votes.length≤6):=by rw[←decide_not,decide_eq_decide];omega
 have l3:decide ((20:Int)<(m.moves.length:Int))= !decide (m.moves.length≤20):=by rw[←decide_not,decide_eq_decide];omega
 cases hp:asN m with
 |false=>
  have hp':an4 m=false:=by simp[an4,hp]
  rw[hp']
  (refine ce Tryz.func23 ?_;simp only[Tryz.f23];(have hb:=trivial;with_reducible repeat' (first|simp only[hb,Vc.down,seval,aEL.down,acQ,aAL,l1,l2,l3]|refine fsp ?_ ?_<;>intro hb|refine fd ?_|fail)))
  all_goals first
   |rfl
   |(exfalso;simp_all[asN];done)
 |true=>
  have hp':=hp
  simp only[asN,aoG]at hp'
  obtain⟨⟨⟨⟨⟨⟨p1,p2⟩,p3⟩,p4⟩,p5⟩,p6⟩,p7⟩:=hp'
  (refine ce Tryz.func23 ?_;simp only[Tryz.f23];(have hb:=trivial;with_reducible repeat' (first|simp only[hb,Vc.down,seval,aEL.down,acQ,aAL,l1,l2,l3,p1,p2,p3,p4,p5,p6,p7]|refine fsp ?_ ?_<;>intro hb|refine fd ?_|fail)))
  refine anJ (lst 118 m.sens (fun i (zz:Unit) t h=>t 1=.ptr 0 0 0∧t 53=slv 3 true m.nS (m.sens.map ak7.cells)∧t 54=.int .i64 m.sens.length∧t 55=.int .i64 i∧(h[0]?=some (.live 7 false false [[slv 3 true m.nS (m.sens.map ak7.cells),slv 4 false m.nV (m.votes.map acT.cells),slv 5 false m.nM (m.moves.map acS.cells),.int .i64 m.states,.int .i64 m.cmds,.int .i64 m.bgn,slv 1 true m.nO (m.opn.map iv)]]))) (fun rest zz=>rest.all aLR) (fun r e t h=>(if r=true then e=.exit 0∧t 1=.ptr 0 0 0∧h[0]?=some (.live 7 false false [[slv 3 true m.nS (m.sens.map ak7.cells),slv 4 false m.nV (m.votes.map acT.cells),slv 5 false m.nM (m.moves.map acS.cells),.int .i64 m.states,.int .i64 m.cmds,.int .i64 m.bgn,slv 1 true m.nO (m.opn.map iv)]])else e=.ret∧t 2=.bool false)) ?_ ?_ () _ _ ?_) (fun e t h hk=>?_)
  ·rintro _ t h Q' kQ ⟨h1,h53,h54,h55,hA⟩
   (have hb:=trivial;with_reducible repeat' (first|simp only[hb,Vc.down,seval,aEL.down,h1,h53,h54,h55,aeG,decide_false]|refine fsp ?_ ?_<;>intro hb|refine fd ?_|fail))
   exact kQ _ _ _ (by rw[if_pos (by rfl)];exact⟨rfl,by simp[up,h1],hA⟩)
  ·rintro x rest i _ t h J Q' kJ kQ hx hi ⟨h1,h53,h54,h55,hA⟩
   have hd:decide ((i:Int)<(m.sens.length:Int))=true:=decide_eq_true (by omega)
   have hw:=agA hi hs.sens
   have hA1:=ahZ hA
   (have hb:=trivial;with_reducible repeat' (first|simp only[hb,Vc.down,seval,aEL.down,h1,h53,h54,h55,hd,hx,hw,aG0,ak7.cells,acQ]|refine fsp ?_ ?_<;>intro hb|refine fd ?_|fail))
   all_goals first
    |exact kQ _ _ _ (by rw[if_neg (by simp_all[aLR])];exact⟨rfl,by simp[up]⟩)
    |(refine ai7 (kJ _ _ () ⟨?_,?_,?_,?_,hA1 _⟩ ?_);(simp[up,h1]);(simp[up,h53]);(simp[up,h54]);(simp[up]);(simp_all[aLR]))
  ·exact⟨by simp[up,ent],by simp[up,ent],by simp[up,ent],by simp[up],rfl⟩
  ·split at hk
   ·obtain⟨rfl,h1,hA⟩:=hk
    rename_i hr1
    have hA1:=ahZ hA
    (have hb:=trivial;with_reducible repeat' (first|simp only[hb,Vc.down,seval,aEL.down,h1,hA,hA1,acQ]|refine fsp ?_ ?_<;>intro hb|refine fd ?_|fail))
    refine anJ (lst 118 m.votes (fun i (zz:Unit) t h=>t 1=.ptr 0 0 0∧t 78=slv 4 false m.nV (m.votes.map acT.cells)∧t 79=.int .i64 m.votes.length∧t 80=.int .i64 i∧(h[0]?=some (.live 7 false false [[slv 3 true m.nS (m.sens.map ak7.cells),slv 4 false m.nV (m.votes.map acT.cells),slv 5 false m.nM (m.moves.map acS.cells),.int .i64 m.states,.int .i64 m.cmds,.int .i64 m.bgn,slv 1 true m.nO (m.opn.map iv)]]))) (fun rest zz=>rest.all (aw1 m.sens.length)) (fun r e t h=>(if r=true then e=.exit 2∧t 1=.ptr 0 0 0∧h[0]?=some (.live 7 false false [[slv 3 true m.nS (m.sens.map ak7.cells),slv 4 false m.nV (m.votes.map acT.cells),slv 5 false m.nM (m.moves.map acS.cells),.int .i64 m.states,.int .i64 m.cmds,.int .i64 m.bgn,slv 1 true m.nO (m.opn.map iv)]])else e=.ret∧t 2=.bool false)) ?_ ?_ () _ _ ?_) (fun e t h hk=>?_)
    ·rintro _ t h Q' kQ ⟨h1,h78,h79,h80,hA⟩
     (have hb:=trivial;with_reducible repeat' (first|simp only[hb,Vc.down,seval,aEL.down,h1,h78,h79,h80,aeG,decide_false]|refine fsp ?_ ?_<;>intro hb|refine fd ?_|fail))
     exact kQ _ _ _ (by rw[if_pos (by rfl)];exact⟨rfl,by simp[up,h1],hA⟩)
    ·rintro x rest i _ t h J Q' kJ kQ hx hi ⟨h1,h78,h79,h80,hA⟩
     have hd:decide ((i:Int)<(m.votes.length:Int))=true:=decide_eq_true (by omega)
     have hw:=agA hi hs.votes
     have hA1:=ahZ hA
     have hin:=aHD (nn:=x.nn) m.sens.length (hs.vs x (ahB hx))
     (have hb:=trivial;with_reducible repeat' (first|simp only[hb,Vc.down,seval,aEL.down,h1,h78,h79,h80,hd,hx,hw,hA1,aG0,aAL,hin,acT.cells,acQ]|refine fsp ?_ ?_<;>intro hb|refine fd ?_|fail))
     all_goals first
      |exact kQ _ _ _ (by rw[if_neg (by simp_all[aw1])];exact⟨rfl,by simp[up]⟩)
      |(refine ai7 (kJ _ _ () ⟨?_,?_,?_,?_,hA1 _⟩ ?_);(simp[up,h1]);(simp[up,h78]);(simp[up,h79]);(simp[up]);(simp_all[aw1]))
    ·exact⟨by simp[up,ent,h1],by simp[up,ent,h1],by simp[up,ent,h1],by simp[up],hA⟩
    ·split at hk
     ·obtain⟨rfl,h1,hA⟩:=hk
      rename_i hr2
      have hA1:=ahZ hA
      have hcM:=aKT (mm:=m) (l:=m.moves) (nn:=m.nM) (g:=50) (p:=fun x=> !asR m x) (fun x hx=>aR0 m x (hs.ws x hx)) hs.moves
      have hcI:=aE4 (l:=m.opn) (nn:=m.nO) (g:=53) (cap:=[]) (p:=fun x=> !inB x 0 255) rfl rfl (fun x _=>aUI x) hs.opn
      (have hb:=trivial;with_reducible repeat' (first|simp only[hb,Vc.down,seval,aEL.down,h1,hA,hA1,acQ,hcM,hcI]|refine fsp ?_ ?_<;>intro hb|refine fd ?_|fail))
      all_goals
       have q1:m.moves.all (asR m)= !(m.moves.any fun x=> !asR m x):=ap1
       have q2:m.opn.all (fun n=>inB n 0 255)= !(m.opn.any fun x=> !inB x 0 255):=ap1
       simp only[an4,hp,hr1,hr2,q1,q2,hb,an9,aoF,am7,aoD,aoU]
       try rfl
     ·obtain⟨rfl,h2⟩:=hk
      rename_i hr2
      (have hb:=trivial;with_reducible repeat' (first|simp only[hb,Vc.down,seval,aEL.down,h2]|refine fsp ?_ ?_<;>intro hb|refine fd ?_|fail))
      all_goals simp[an4,hp,alV.2 hr2]
   ·obtain⟨rfl,h2⟩:=hk
    rename_i hr1
    (have hb:=trivial;with_reducible repeat' (first|simp only[hb,Vc.down,seval,aEL.down,h2]|refine fsp ?_ ?_<;>intro hb|refine fd ?_|fail))
    all_goals simp[an4,hp,alV.2 hr1]
theorem aOI(m:ad5)(hs:m.small):om'.call (.fn 8) [.agg [slv 3 true m.nS (m.sens.map ak7.cells),slv 4 false m.nV (m.votes.map acT.cells),slv 5 false m.nM (m.moves.map acS.cells),.int .i64 m.states,.int .i64 m.cmds,.int .i64 m.bgn,slv 1 true m.nO (m.opn.map iv)]] []=some (.ret (.bool (an4 m)),[]):=by
 have l1:decide ((6:Int)<(m.sens.length:Int))= !decide (m.sens.length≤6):=by rw[←decide_not,decide_eq_decide];omega
 have l2:decide ((6:Int)<(m.votes.length:Int))= !decide (m.votes.length≤6):=by rw[←decide_not,decide_eq_decide];omega
 have l3:decide ((20:Int)<(m.moves.length:Int))= !decide (m.moves.length≤20):=by rw[←decide_not,decide_eq_decide];omega
 have sen:∀x:ak7,aLR x=(!decide (x.lo < -10000)&& !decide (x.hi<x.lo)&& !decide (10000<x.hi)):=fun x=>by
  rw[atV];simp[aLR,azR,inB];omega
 (refine ce Tryz.func8 ?_;simp only[Tryz.f8];(have hb:=trivial;with_reducible repeat' (first|simp only[hb,Vc.down,seval,TY8.down,acQ]|refine fsp ?_ ?_<;>intro hb|refine fd ?_|fail)))
 refine anJ (lst 126 m.sens (fun i (zz:Unit) t h=>t 1=.ptr 0 0 0∧t 3=.int .i64 i∧(h[0]?=some (.live 7 false false [[slv 3 true m.nS (m.sens.map ak7.cells),slv 4 false m.nV (m.votes.map acT.cells),slv 5 false m.nM (m.moves.map acS.cells),.int .i64 m.states,.int .i64 m.cmds,.int .i64 m.bgn,slv 1 true m.nO (m.opn.map iv)]]))) (fun rest zz=>rest.all aLR) (fun r e t h=>(if r=true then e=.exit 0∧t 1=.ptr 0 0 0∧h[0]?=some (.live 7 false false [[slv 3 true m.nS (m.sens.map ak7.cells),slv 4 false m.nV (m.votes.map acT.cells),slv 5 false m.nM (m.moves.map acS.cells),.int .i64 m.states,.int .i64 m.cmds,.int .i64 m.bgn,slv 1 true m.nO (m.opn.map iv)]])else e=.ret∧t 2=.bool false)) ?_ ?_ () _ _ ?_) (fun e t h hk=>?_)
 ·rintro _ t h Q' kQ ⟨h1,h3,hA⟩
  (have hb:=trivial;with_reducible repeat' (first|simp only[hb,Vc.down,seval,TY8.down,h1,h3,aeG,decide_false,hA,acQ]|refine fsp ?_ ?_<;>intro hb|refine fd ?_|fail))
  exact kQ _ _ _ (by rw[if_pos (by rfl)];exact⟨rfl,by simp[up,h1],hA⟩)
 ·rintro x rest i _ t h J Q' kJ kQ hx hi ⟨h1,h3,hA⟩
  have hd:decide ((i:Int)<(m.sens.length:Int))=true:=decide_eq_true (by omega)
  have hw:=agA hi hs.sens
  have hA1:=ahZ hA
  (have hb:=trivial;with_reducible repeat' (first|simp only[hb,Vc.down,seval,TY8.down,h1,h3,hd,hx,hw,hA,hA1,ak7.cells,acQ]|refine fsp ?_ ?_<;>intro hb|refine fd ?_|fail))
  all_goals first
   |exact kQ _ _ _ (by rw[if_neg (by simp_all)];exact⟨rfl,by simp[up]⟩)
   |(refine ai7 (kJ _ _ () ⟨?_,?_,hA1 _⟩ ?_);(simp[up,h1]);(simp[up]);(simp_all))
 ·exact⟨by simp[up,ent],by simp[up],rfl⟩
 split at hk
 rotate_left
 ·obtain⟨rfl,h2⟩:=hk
  rename_i hr1
  (have hb:=trivial;with_reducible repeat' (first|simp only[hb,Vc.down,seval,TY8.down,h2]|refine fsp ?_ ?_<;>intro hb|refine fd ?_|fail))
  all_goals simp[an4,alV.2 hr1]
 obtain⟨rfl,h1,hA⟩:=hk
 rename_i hr1
 have hA1:=ahZ hA
 (have hb:=trivial;with_reducible repeat' (first|simp only[hb,Vc.down,seval,TY8.down,h1,hA,hA1,acQ]|refine fsp ?_ ?_<;>intro hb|refine fd ?_|fail))
 refine anJ (lst 126 m.votes (fun i (zz:Unit) t h=>t 1=.ptr 0 0 0∧t 5=.int .i64 i∧(h[0]?=some (.live 7 false false [[slv 3 true m.nS (m.sens.map ak7.cells),slv 4 false m.nV (m.votes.map acT.cells),slv 5 false m.nM (m.moves.map acS.cells),.int .i64 m.states,.int .i64 m.cmds,.int .i64 m.bgn,slv 1 true m.nO (m.opn.map iv)]]))) (fun rest zz=>rest.all (aw1 m.sens.length)) (fun r e t h=>(if r=true then e=.exit 2∧t 1=.ptr 0 0 0∧h[0]?=some (.live 7 false false [[slv 3 true m.nS (m.sens.map ak7.cells),slv 4 false m.nV (m.votes.map acT.cells),slv 5 false m.nM (m.moves.map acS.cells),.int .i64 m.states,.int .i64 m.cmds,.int .i64 m.bgn,slv 1 true m.nO (m.opn.map iv)]])else e=.ret∧t 2=.bool false)) ?_ ?_ () _ _ ?_) (fun e t h hk=>?_)
 ·rintro _ t h Q' kQ ⟨h1,h5,hA⟩
  (have hb:=trivial;with_reducible repeat' (first|simp only[hb,Vc.down,seval,TY8.down,h1,h5,aeG,decide_false,hA,acQ]|refine fsp ?_ ?_<;>intro hb|refine fd ?_|fail))
  exact kQ _ _ _ (by rw[if_pos (by rfl)];exact⟨rfl,by simp[up,h1],hA⟩)
 ·rintro x rest i _ t h J Q' kJ kQ hx hi ⟨h1,h5,hA⟩
  have hd:decide ((i:Int)<(m.votes.length:Int))=true:=decide_eq_true (by omega)
  have hw:=agA hi hs.votes
  have hA1:=ahZ hA
  have hV:=a3U x m.sens.length (hs.vs x (ahB hx))
  (have hb:=trivial;with_reducible repeat' (first|simp only[hb,Vc.down,seval,TY8.down,h1,h5,hd,hx,hw,hA,hA1,hV,acT.cells,acQ]|refine fsp ?_ ?_<;>intro hb|refine fd ?_|fail))
  all_goals first
   |exact kQ _ _ _ (by rw[if_neg (by simp_all)];exact⟨rfl,by simp[up]⟩)
   |(refine ai7 (kJ _ _ () ⟨?_,?_,hA⟩ ?_);(simp[up,h1]);(simp[up]);(simp_all))
 ·exact⟨by simp[up,ent,h1],by simp[up],hA⟩
 split at hk
 rotate_left
 ·obtain⟨rfl,h2⟩:=hk
  rename_i hr2
  (have hb:=trivial;with_reducible repeat' (first|simp only[hb,Vc.down,seval,TY8.down,h2]|refine fsp ?_ ?_<;>intro hb|refine fd ?_|fail))
  all_goals simp[an4,alV.2 hr2]
 obtain⟨rfl,h1,hA⟩:=hk
 rename_i hr2
 have hA1:=ahZ hA
 cases hp:asN m with
 |false=>
  have hp':an4 m=false:=by simp[an4,hp]
  rw[hp']
  (have hb:=trivial;with_reducible repeat' (first|simp only[hb,Vc.down,seval,TY8.down,h1,hA,hA1,acQ,aC7,l1,l2,l3]|refine fsp ?_ ?_<;>intro hb|refine fd ?_|fail))
  all_goals first
   |rfl
   |(exfalso;simp_all[asN];done)
 |true=>
  have hp':=hp
  simp only[asN,aoG]at hp'
  obtain⟨⟨⟨⟨⟨⟨p1,p2⟩,p3⟩,p4⟩,p5⟩,p6⟩,p7⟩:=hp'
  (have hb:=trivial;with_reducible repeat' (first|simp only[hb,Vc.down,seval,TY8.down,h1,hA,hA1,acQ,aC7,l1,l2,l3,p1,p2,p3,p4,p5,p6,p7]|refine fsp ?_ ?_<;>intro hb|refine fd ?_|fail))
  refine anJ (lst 126 m.opn (fun i (zz:Unit) t h=>t 1=.ptr 0 0 0∧t 6=.int .i64 i∧(h[0]?=some (.live 7 false false [[slv 3 true m.nS (m.sens.map ak7.cells),slv 4 false m.nV (m.votes.map acT.cells),slv 5 false m.nM (m.moves.map acS.cells),.int .i64 m.states,.int .i64 m.cmds,.int .i64 m.bgn,slv 1 true m.nO (m.opn.map iv)]]))) (fun rest zz=>rest.all (fun n=>inB n 0 255)) (fun r e t h=>(if r=true then e=.exit 4∧t 1=.ptr 0 0 0∧h[0]?=some (.live 7 false false [[slv 3 true m.nS (m.sens.map ak7.cells),slv 4 false m.nV (m.votes.map acT.cells),slv 5 false m.nM (m.moves.map acS.cells),.int .i64 m.states,.int .i64 m.cmds,.int .i64 m.bgn,slv 1 true m.nO (m.opn.map iv)]])else e=.ret∧t 2=.bool false)) ?_ ?_ () _ _ ?_) (fun e t h hk=>?_)
  ·rintro _ t h Q' kQ ⟨h1,h6,hA⟩
   (have hb:=trivial;with_reducible repeat' (first|simp only[hb,Vc.down,seval,TY8.down,h1,h6,aeG,decide_false,hA,acQ]|refine fsp ?_ ?_<;>intro hb|refine fd ?_|fail))
   exact kQ _ _ _ (by rw[if_pos (by rfl)];exact⟨rfl,by simp[up,h1],hA⟩)
  ·rintro x rest i _ t h J Q' kJ kQ hx hi ⟨h1,h6,hA⟩
   have hd:decide ((i:Int)<(m.opn.length:Int))=true:=decide_eq_true (by omega)
   have hw:=agA hi hs.opn
   have hA1:=ahZ hA
   (have hb:=trivial;with_reducible repeat' (first|simp only[hb,Vc.down,seval,TY8.down,h1,h6,hd,hx,hw,hA,hA1,aC7,iv,acQ]|refine fsp ?_ ?_<;>intro hb|refine fd ?_|fail))
   all_goals first
    |exact kQ _ _ _ (by rw[if_neg (by simp_all)];exact⟨rfl,by simp[up]⟩)
    |(refine ai7 (kJ _ _ () ⟨?_,?_,hA⟩ ?_);(simp[up,h1]);(simp[up]);(simp_all))
  ·exact⟨by simp[up,ent,h1],by simp[up],hA⟩
  split at hk
  rotate_left
  ·obtain⟨rfl,h2⟩:=hk
   rename_i hr3
   (have hb:=trivial;with_reducible repeat' (first|simp only[hb,Vc.down,seval,TY8.down,h2]|refine fsp ?_ ?_<;>intro hb|refine fd ?_|fail))
   all_goals simp[an4,alV.2 hr3]
  obtain⟨rfl,h1,hA⟩:=hk
  rename_i hr3
  have hA1:=ahZ hA
  (have hb:=trivial;with_reducible repeat' (first|simp only[hb,Vc.down,seval,TY8.down,h1,hA,hA1,acQ]|refine fsp ?_ ?_<;>intro hb|refine fd ?_|fail))
  refine anJ (lst 126 m.moves (fun i (zz:Unit) t h=>t 1=.ptr 0 0 0∧t 7=.int .i64 i∧(h[0]?=some (.live 7 false false [[slv 3 true m.nS (m.sens.map ak7.cells),slv 4 false m.nV (m.votes.map acT.cells),slv 5 false m.nM (m.moves.map acS.cells),.int .i64 m.states,.int .i64 m.cmds,.int .i64 m.bgn,slv 1 true m.nO (m.opn.map iv)]]))) (fun rest zz=>rest.all (asR m)) (fun r e t h=>(if r=true then e=.exit 6 else e=.ret∧t 2=.bool false)) ?_ ?_ () _ _ ?_) (fun e t h hk=>?_)
  ·rintro _ t h Q' kQ ⟨h1,h7,hA⟩
   (have hb:=trivial;with_reducible repeat' (first|simp only[hb,Vc.down,seval,TY8.down,h1,h7,aeG,decide_false,hA,acQ]|refine fsp ?_ ?_<;>intro hb|refine fd ?_|fail))
   exact kQ _ _ _ (by rw[if_pos (by rfl)])
  ·rintro x rest i _ t h J Q' kJ kQ hx hi ⟨h1,h7,hA⟩
   have hd:decide ((i:Int)<(m.moves.length:Int))=true:=decide_eq_true (by omega)
   have hw:=agA hi hs.moves
   have hA1:=ahZ hA
   have hM:=a23 m x (hs.ws x (ahB hx))
   (have hb:=trivial;with_reducible repeat' (first|simp only[hb,Vc.down,seval,TY8.down,h1,h7,hd,hx,hw,hA,hA1,hM,acS.cells,acQ]|refine fsp ?_ ?_<;>intro hb|refine fd ?_|fail))
   all_goals first
    |exact kQ _ _ _ (by rw[if_neg (by simp_all)];exact⟨rfl,by simp[up]⟩)
    |(refine ai7 (kJ _ _ () ⟨?_,?_,hA⟩ ?_);(simp[up,h1]);(simp[up]);(simp_all))
  ·exact⟨by simp[up,ent,h1],by simp[up],hA⟩
  split at hk
  ·subst hk
   rename_i hr4
   (have hb:=trivial;with_reducible repeat' (first|simp only[hb,Vc.down,seval,TY8.down]|refine fsp ?_ ?_<;>intro hb|refine fd ?_|fail))
   all_goals simp[an4,hp,hr1,hr2,hr3,hr4]
  ·obtain⟨rfl,h2⟩:=hk
   rename_i hr4
   (have hb:=trivial;with_reducible repeat' (first|simp only[hb,Vc.down,seval,TY8.down,h2]|refine fsp ?_ ?_<;>intro hb|refine fd ?_|fail))
   all_goals simp[an4,alV.2 hr4]
def aw3(m:ad5)(l:List Int):Bool:=((l.length:Int)==(m.sens.length:Int))&&l.all azR
def ar7(m:ad5)(s:ac6):Bool:=aw3 m s.reads&&inB s.cmd (-1) (IntKind.i64.wrap (m.cmds-1))
theorem a2O(m:ad5){l:List Int}{nn:Bool}(hl:l.length≤maxLen):om'.call (.fn 58) [.agg [slv 3 true m.nS (m.sens.map ak7.cells),slv 4 false m.nV (m.votes.map acT.cells),slv 5 false m.nM (m.moves.map acS.cells),.int .i64 m.states,.int .i64 m.cmds,.int .i64 m.bgn,slv 1 true m.nO (m.opn.map iv)],slv 1 true nn (l.map iv)] []=some (.ret (.bool (aw3 m l)),[]):=by
 have hc:=aE4 (l:=l) (nn:=nn) (g:=72) (cap:=[]) (p:=fun x=> !azR x) rfl rfl (fun x _=>aX6 x) hl
 have q2:l.all azR= !(l.any fun x=> !azR x):=ap1
 (refine ce Tryz.func58 ?_;simp only[Tryz.f58];(have hb:=trivial;with_reducible repeat' (first|simp only[hb,Vc.down,seval,a7K.down,acQ,hc]|refine fsp ?_ ?_<;>intro hb|refine fd ?_|fail)))
 all_goals simp only[aw3,q2,hb,am7,aoD]
theorem aK5(m:ad5){l:List Int}{nn:Bool}(hl:l.length≤maxLen):om'.call (.fn 33) [.agg [slv 3 true m.nS (m.sens.map ak7.cells),slv 4 false m.nV (m.votes.map acT.cells),slv 5 false m.nM (m.moves.map acS.cells),.int .i64 m.states,.int .i64 m.cmds,.int .i64 m.bgn,slv 1 true m.nO (m.opn.map iv)],slv 1 true nn (l.map iv)] []=some (.ret (.bool (aw3 m l)),[]):=by
 (refine ce Tryz.func33 ?_;simp only[Tryz.f33];(have hb:=trivial;with_reducible repeat' (first|simp only[hb,Vc.down,seval,aUH.down,acQ]|refine fsp ?_ ?_<;>intro hb|refine fd ?_|fail)))
 refine anJ (lst 24 l (fun i (zz:Unit) t h=>t 1=slv 1 true nn (l.map iv)∧t 2=.ptr 0 0 0∧t 5=.int .i64 i∧(h[0]?=some (.live 7 false false [[slv 3 true m.nS (m.sens.map ak7.cells),slv 4 false m.nV (m.votes.map acT.cells),slv 5 false m.nM (m.moves.map acS.cells),.int .i64 m.states,.int .i64 m.cmds,.int .i64 m.bgn,slv 1 true m.nO (m.opn.map iv)]]))) (fun rest zz=>rest.all azR) (fun r e t h=>(if r=true then e=.exit 0∧t 1=slv 1 true nn (l.map iv)∧t 2=.ptr 0 0 0∧h[0]?=some (.live 7 false false [[slv 3 true m.nS (m.sens.map ak7.cells),slv 4 false m.nV (m.votes.map acT.cells),slv 5 false m.nM (m.moves.map acS.cells),.int .i64 m.states,.int .i64 m.cmds,.int .i64 m.bgn,slv 1 true m.nO (m.opn.map iv)]])else e=.ret∧t 4=.bool false)) ?_ ?_ () _ _ ?_) (fun e t h hk=>?_)
 ·rintro _ t h Q' kQ ⟨h1,h2,h5,hA⟩
  (have hb:=trivial;with_reducible repeat' (first|simp only[hb,Vc.down,seval,aUH.down,h1,h2,h5,aeG,decide_false,acQ]|refine fsp ?_ ?_<;>intro hb|refine fd ?_|fail))
  exact kQ _ _ _ (by rw[if_pos (by rfl)];exact⟨rfl,by simp[up,h1],by simp[up,h2],hA⟩)
 ·rintro x rest i _ t h J Q' kJ kQ hx hi ⟨h1,h2,h5,hA⟩
  have hd:decide ((i:Int)<(l.length:Int))=true:=decide_eq_true (by omega)
  have hw:=agA hi hl
  have hv:inB x (-10000) 10000=azR x:=rfl
  (have hb:=trivial;with_reducible repeat' (first|simp only[hb,Vc.down,seval,aUH.down,h1,h2,h5,hd,hx,hw,aC7,hv,iv,acQ]|refine fsp ?_ ?_<;>intro hb|refine fd ?_|fail))
  all_goals first
   |exact kQ _ _ _ (by rw[if_neg (by simp_all)];exact⟨rfl,by simp[up]⟩)
   |(refine ai7 (kJ _ _ () ⟨?_,?_,?_,hA⟩ ?_);(simp[up,h1]);(simp[up,h2]);(simp[up]);(simp_all))
 ·exact⟨by simp[up,ent],by simp[up,ent],by simp[up],rfl⟩
 split at hk
 ·obtain⟨rfl,h1,h2,hA⟩:=hk
  rename_i hr1
  have hA1:=ahZ hA
  (have hb:=trivial;with_reducible repeat' (first|simp only[hb,Vc.down,seval,aUH.down,h1,h2,hA,hA1,acQ]|refine fsp ?_ ?_<;>intro hb|refine fd ?_|fail))
  all_goals simp[aw3,hr1]
 ·obtain⟨rfl,h2⟩:=hk
  rename_i hr1
  (have hb:=trivial;with_reducible repeat' (first|simp only[hb,Vc.down,seval,aUH.down,h2]|refine fsp ?_ ?_<;>intro hb|refine fd ?_|fail))
  all_goals simp[aw3,alV.2 hr1]
theorem aOC(m:ad5)(s:ac6)(hl:s.reads.length≤maxLen):om'.call (.fn 29) [.agg [slv 3 true m.nS (m.sens.map ak7.cells),slv 4 false m.nV (m.votes.map acT.cells),slv 5 false m.nM (m.moves.map acS.cells),.int .i64 m.states,.int .i64 m.cmds,.int .i64 m.bgn,slv 1 true m.nO (m.opn.map iv)],.agg [slv 1 true s.nn (s.reads.map iv),.int .i64 s.cmd]] []=some (.ret (.bool (ar7 m s)),[]):=by
 have hr:=a2O m (nn:=s.nn) hl
 (refine ce Tryz.func29 ?_;simp only[Tryz.f29];(have hb:=trivial;with_reducible repeat' (first|simp only[hb,Vc.down,seval,a8A.down,hr,aAL]|refine fsp ?_ ?_<;>intro hb|refine fd ?_|fail)))
 all_goals simp_all[ar7]
theorem aZ7(m:ad5)(s:ac6)(hl:s.reads.length≤maxLen):om'.call (.fn 10) [.agg [slv 3 true m.nS (m.sens.map ak7.cells),slv 4 false m.nV (m.votes.map acT.cells),slv 5 false m.nM (m.moves.map acS.cells),.int .i64 m.states,.int .i64 m.cmds,.int .i64 m.bgn,slv 1 true m.nO (m.opn.map iv)],.agg [slv 1 true s.nn (s.reads.map iv),.int .i64 s.cmd]] []=some (.ret (.bool (ar7 m s)),[]):=by
 have hr:=aK5 m (nn:=s.nn) hl
 (refine ce Tryz.func10 ?_;simp only[Tryz.f10];(have hb:=trivial;with_reducible repeat' (first|simp only[hb,Vc.down,seval,a7F.down,hr,aC7]|refine fsp ?_ ?_<;>intro hb|refine fd ?_|fail)))
 all_goals simp_all[ar7]
def sAt(m:ad5)(k:Int):ak7:=m.sens.getD k.toNat ⟨0,0,false⟩
def rAt(l:List Int)(k:Int):Int:=l.getD k.toNat 0
theorem aMG{m:ad5}{k:Int}(h:k.toNat<m.sens.length):m.sens[k.toNat]?=some (sAt m k):=by
 simp[sAt,List.getD,atX h]
theorem aM6{l:List Int}{k:Int}(h:k.toNat<l.length):l[k.toNat]?=some (rAt l k):=by
 simp[rAt,List.getD,atX h]
def aBU(m:ad5)(v:acT)(l:List Int):List Int→Int→Int
 | [],c=>c
 |k::ks,c=>aBU m v l ks (if aBF (sAt m k) v (rAt l k)=true then IntKind.i64.wrap (c+1)else c)
def awJ(m:ad5)(l:List Int)(v:acT):Bool:=decide (v.need≤aBU m v l v.sens 0)
def Idx(m:ad5)(l:List Int):Prop:=∀k∈l,0≤k∧k.toNat<m.sens.length
theorem aM4{n:Nat}(hn:n≤6):∀{l:List Int} {p:Option Int},avJ n l p=true→∀k∈l,0≤k∧k.toNat<n
 | [],_,_,k,h=>by cases h
 |x::l,p,h,k,hk=>by
  simp only[avJ,aoG]at h
  rcases List.mem_cons.1 hk with rfl|hk
  ·have:=h.1.1
   rw[arY (by omega) (by omega)]at this
   simp[inB]at this
   omega
  ·exact aM4 hn h.2 k hk
theorem aJO{m:ad5}(h:an4 m=true):∀v∈m.votes,Idx m v.sens:=fun v hv=>by
 simp only[an4,asN,aoG,decide_eq_true_eq,List.all_eq_true]at h
 have h2:=h.1.1.2 v hv
 simp only[aw1,aoG]at h2
 exact aM4 h.1.1.1.1.1.1.1.1.1.1 h2.1.1
theorem a07(m:ad5)(v:acT)(k r:Int)(h0:0≤k)(hk:k.toNat<m.sens.length):om'.call (.fn 77) [.agg [slv 3 true m.nS (m.sens.map ak7.cells),slv 4 false m.nV (m.votes.map acT.cells),slv 5 false m.nM (m.moves.map acS.cells),.int .i64 m.states,.int .i64 m.cmds,.int .i64 m.bgn,slv 1 true m.nO (m.opn.map iv)],.agg [slv 1 true v.nn (v.sens.map iv),.int .i64 v.need,.int .i64 v.level,.bool v.above],.int .i64 k,.int .i64 r] []=some (.ret (.bool (aBF (sAt m k) v r)),[]):=by
 have hs:=aMG hk
 have h0':(0≤k)=True:=eq_true h0
 have e:aBF (sAt m k) v r=(!(sAt m k).byp&&((decide (r<(sAt m k).lo)||decide ((sAt m k).hi<r))||((v.above&&decide (v.level≤r))||(!v.above&&decide (r≤v.level))))):=by
  have q:(!inB r (sAt m k).lo (sAt m k).hi)=(decide (r<(sAt m k).lo)||decide ((sAt m k).hi<r)):=by rw[atV];simp[inB]<;>try omega
  unfold aBF
  rw[q]
  cases v.above<;>simp
 rw[e]
 generalize sAt m k=s at hs
 (refine ce Tryz.func77 ?_;simp only[Tryz.f77];(have hb:=trivial;with_reducible repeat' (first|simp only[hb,Vc.down,seval,a7Y.down,hs,h0',ak7.cells]|refine fsp ?_ ?_<;>intro hb|refine fd ?_|fail)))
 all_goals simp_all
theorem a5O(m:ad5)(v:acT){l:List Int}{nn:Bool}(hl:l.length=m.sens.length)(hv:v.sens.length≤maxLen)(hi:Idx m v.sens):om'.call (.fn 61) [.agg [slv 3 true m.nS (m.sens.map ak7.cells),slv 4 false m.nV (m.votes.map acT.cells),slv 5 false m.nM (m.moves.map acS.cells),.int .i64 m.states,.int .i64 m.cmds,.int .i64 m.bgn,slv 1 true m.nO (m.opn.map iv)],.agg [slv 1 true v.nn (v.sens.map iv),.int .i64 v.need,.int .i64 v.level,.bool v.above],slv 1 true nn (l.map iv)] []=some (.ret (.bool (awJ m l v)),[]):=by
 have hI:=hi
 clear hi
 (refine ce Tryz.func61 ?_;simp only[Tryz.f61];(have hb:=trivial;with_reducible repeat' (first|simp only[hb,Vc.down,seval,aYN.down,acQ]|refine fsp ?_ ?_<;>intro hb|refine fd ?_|fail)))
 refine anJ (lst 38 v.sens (fun i (zz:Int) t h=>t 2=slv 1 true nn (l.map iv)∧t 3=.ptr 0 0 0∧t 4=.ptr 1 0 0∧t 8=.int .i64 i∧t 7=.int .i64 zz∧(h=[.live 7 false false [[slv 3 true m.nS (m.sens.map ak7.cells),slv 4 false m.nV (m.votes.map acT.cells),slv 5 false m.nM (m.moves.map acS.cells),.int .i64 m.states,.int .i64 m.cmds,.int .i64 m.bgn,slv 1 true m.nO (m.opn.map iv)]],.live 4 false false [[slv 1 true v.nn (v.sens.map iv),.int .i64 v.need,.int .i64 v.level,.bool v.above]]])) (fun rest zz=>aBU m v l rest zz) (fun r e t h=>e=.exit 0∧t 4=.ptr 1 0 0∧t 7=.int .i64 r∧h=[.live 7 false false [[slv 3 true m.nS (m.sens.map ak7.cells),slv 4 false m.nV (m.votes.map acT.cells),slv 5 false m.nM (m.moves.map acS.cells),.int .i64 m.states,.int .i64 m.cmds,.int .i64 m.bgn,slv 1 true m.nO (m.opn.map iv)]],.live 4 false false [[slv 1 true v.nn (v.sens.map iv),.int .i64 v.need,.int .i64 v.level,.bool v.above]]]) ?_ ?_ (0) _ _ ?_) (fun e t h hk=>?_)
 ·rintro c t h Q' kQ ⟨h2,h3,h4,h8,h7,rfl⟩
  (have hb:=trivial;with_reducible repeat' (first|simp only[hb,Vc.down,seval,aYN.down,h2,h3,h4,h8,h7,aeG,decide_false,acQ]|refine fsp ?_ ?_<;>intro hb|refine fd ?_|fail))
  exact kQ _ _ _ ⟨rfl,by simp[up,h4],by simp[up,h7,aBU],rfl⟩
 ·rintro x rest i c t h J Q' kJ kQ hx hi ⟨h2,h3,h4,h8,h7,rfl⟩
  have hd:decide ((i:Int)<(v.sens.length:Int))=true:=decide_eq_true (by omega)
  have hw:=agA hi hv
  obtain⟨k0,k1⟩:=hI x (ahB hx)
  have hrr:=aM6 (l:=l) (k:=x) (by omega)
  have h0':(0≤x)=True:=eq_true k0
  have hS:=a07 m v x (rAt l x) k0 k1
  generalize hq:aBF (sAt m x) v (rAt l x)=q at hS
  (have hb:=trivial;with_reducible repeat' (first|simp only[hb,Vc.down,seval,aYN.down,h2,h3,h4,h7,h8,hd,hx,hw,hrr,h0',hS,iv,acQ]|refine fsp ?_ ?_<;>intro hb|refine fd ?_|fail))
  all_goals (refine ai7 (kJ _ _ (if q=true then IntKind.i64.wrap (c+1)else c) ⟨?_,?_,?_,?_,?_,rfl⟩ ?_);(simp[up,h2]);(simp[up,h3]);(simp[up,h4]);(simp[up]);(simp[up,h7,hb]);(simp[aBU,hq]))
 ·exact⟨by simp[up,ent],by simp[up,ent],by simp[up,ent],by simp[up],by simp[up,ent],rfl⟩
 obtain⟨rfl,h4,h7,rfl⟩:=hk
 (have hb:=trivial;with_reducible repeat' (first|simp only[hb,Vc.down,seval,aYN.down,h4,h7]|refine fsp ?_ ?_<;>intro hb|refine fd ?_|fail))
 rfl
def orN(a b:Int):Int:=IntKind.i64.wrap ((BitVec.ofInt 64 a|||BitVec.ofInt 64 b).toNat:Int)
theorem a43(ty:TypeId)(a b:Int):ao1 Tryz.prog .or ty (.int .i64 a) (.int .i64 b)=some (.int .i64 (orN a b)):=by
 show(if IntKind.i64=IntKind.i64 then aqA .or .i64 a b else none)=_
 rw[if_pos rfl];rfl
def ar1(m:ad5)(l:List Int):List acT→Nat→Int→Int
 | [],_,b=>b
 |v::vs,i,b=>ar1 m l vs (i+1) (if awJ m l v=true then orN b (aTF i)else b)
theorem aM0(m:ad5){l:List Int}{nn:Bool}(hl:l.length=m.sens.length)(hs:m.small)(hi:∀v∈m.votes,Idx m v.sens):om'.call (.fn 31) [.agg [slv 3 true m.nS (m.sens.map ak7.cells),slv 4 false m.nV (m.votes.map acT.cells),slv 5 false m.nM (m.moves.map acS.cells),.int .i64 m.states,.int .i64 m.cmds,.int .i64 m.bgn,slv 1 true m.nO (m.opn.map iv)],slv 1 true nn (l.map iv)] []=some (.ret (.int .i64 (ar1 m l m.votes 0 0)),[]):=by
 have hI:=hi
 clear hi
 (refine ce Tryz.func31 ?_;simp only[Tryz.f31];(have hb:=trivial;with_reducible repeat' (first|simp only[hb,Vc.down,seval,aKY.down,acQ]|refine fsp ?_ ?_<;>intro hb|refine fd ?_|fail)))
 refine anJ (lst 50 m.votes (fun i (zz:Nat × Int) t h=>t 1=slv 1 true nn (l.map iv)∧t 2=.ptr 0 0 0∧t 12=slv 4 false m.nV (m.votes.map acT.cells)∧t 13=.int .i64 m.votes.length∧t 14=.int .i64 i∧t 5=.int .i64 zz.2∧(h[0]?=some (.live 7 false false [[slv 3 true m.nS (m.sens.map ak7.cells),slv 4 false m.nV (m.votes.map acT.cells),slv 5 false m.nM (m.moves.map acS.cells),.int .i64 m.states,.int .i64 m.cmds,.int .i64 m.bgn,slv 1 true m.nO (m.opn.map iv)]])∧i=zz.1)) (fun rest zz=>ar1 m l rest zz.1 zz.2) (fun r e t h=>e=.exit 0∧t 5=.int .i64 r) ?_ ?_ (0,0) _ _ ?_) (fun e t h hk=>?_)
 ·rintro⟨k,b⟩ t h Q' kQ ⟨h1,h2,h12,h13,h14,h5,⟨hA,rfl⟩⟩
  try dsimp only at *
  (have hb:=trivial;with_reducible repeat' (first|simp only[hb,Vc.down,seval,aKY.down,h1,h2,h12,h13,h14,h5,aeG,decide_false]|refine fsp ?_ ?_<;>intro hb|refine fd ?_|fail))
  exact kQ _ _ _ ⟨rfl,by simp[up,h5,ar1]⟩
 ·rintro x rest i ⟨k,b⟩ t h J Q' kJ kQ hx hi ⟨h1,h2,h12,h13,h14,h5,⟨hA,rfl⟩⟩
  have hd:decide ((i:Int)<(m.votes.length:Int))=true:=decide_eq_true (by omega)
  have hw:=agA hi hs.votes
  try dsimp only at *
  have hA1:=ahZ hA
  have hvs:=hs.vs x (ahB hx)
  have hIx:=hI x (ahB hx)
  obtain⟨w,rfl⟩:∃w,w=x:=⟨_,rfl⟩
  obtain⟨k,rfl⟩:∃k,k=i:=⟨_,rfl⟩
  obtain⟨hL,hLe⟩:∃hL,hL=h.length:=⟨_,rfl⟩
  (have hb:=trivial;with_reducible repeat' (first|simp only[hb,Vc.down,seval,aKY.down,h1,h2,h12,h13,h14,h5,hd,hx,hw,hA1,acT.cells,acQ]|refine fsp ?_ ?_<;>intro hb|refine fd ?_|fail))
  refine anJ (lst 50 w.sens (fun i (zz:Int) t h=>t 1=slv 1 true nn (l.map iv)∧t 2=.ptr 0 0 0∧t 12=slv 4 false m.nV (m.votes.map acT.cells)∧t 13=.int .i64 m.votes.length∧t 14=.int .i64 (k:Int)∧t 5=.int .i64 b∧t 6=.int .i64 (k:Int)∧t 7=.ptr hL 0 0∧t 20=slv 1 true w.nn (w.sens.map iv)∧t 21=.int .i64 w.sens.length∧t 22=.int .i64 i∧t 8=.int .i64 zz∧(h[0]?=some (.live 7 false false [[slv 3 true m.nS (m.sens.map ak7.cells),slv 4 false m.nV (m.votes.map acT.cells),slv 5 false m.nM (m.moves.map acS.cells),.int .i64 m.states,.int .i64 m.cmds,.int .i64 m.bgn,slv 1 true m.nO (m.opn.map iv)]])∧∃wf,h[hL]?=some (.live 4 false wf [[slv 1 true w.nn (w.sens.map iv),.int .i64 w.need,.int .i64 w.level,.bool w.above]]))) (fun rest zz=>aBU m w l rest zz) (fun r e t h=>e=.exit 2∧t 1=slv 1 true nn (l.map iv)∧t 2=.ptr 0 0 0∧t 12=slv 4 false m.nV (m.votes.map acT.cells)∧t 13=.int .i64 m.votes.length∧t 14=.int .i64 (k:Int)∧t 5=.int .i64 b∧t 6=.int .i64 (k:Int)∧t 7=.ptr hL 0 0∧t 8=.int .i64 r∧h[0]?=some (.live 7 false false [[slv 3 true m.nS (m.sens.map ak7.cells),slv 4 false m.nV (m.votes.map acT.cells),slv 5 false m.nM (m.moves.map acS.cells),.int .i64 m.states,.int .i64 m.cmds,.int .i64 m.bgn,slv 1 true m.nO (m.opn.map iv)]])∧∃wf,h[hL]?=some (.live 4 false wf [[slv 1 true w.nn (w.sens.map iv),.int .i64 w.need,.int .i64 w.level,.bool w.above]])) ?_ ?_ (0) _ _ ?_) (fun e tC hC hk=>?_)
  ·rintro c t h Q' kQ ⟨h1,h2,h12,h13,h14,h5,h6,h7,h20,h21,h22,h8,⟨hA,wf,hB⟩⟩
   (have hb:=trivial;with_reducible repeat' (first|simp only[hb,Vc.down,seval,aKY.down,h1,h2,h12,h13,h14,h5,h6,h7,h20,h21,h22,h8,aeG,decide_false]|refine fsp ?_ ?_<;>intro hb|refine fd ?_|fail))
   exact kQ _ _ _ ⟨rfl,by simp[up,h1],by simp[up,h2],by simp[up,h12],by simp[up,h13],by simp[up,h14],by simp[up,h5],by simp[up,h6],by simp[up,h7],by simp[up,h8,aBU],hA,wf,hB⟩
  ·rintro x rest i c t h J Q' kJ kQ hx hi ⟨h1,h2,h12,h13,h14,h5,h6,h7,h20,h21,h22,h8,⟨hA,wf,hB⟩⟩
   have hd:decide ((i:Int)<(w.sens.length:Int))=true:=decide_eq_true (by omega)
   have hw:=agA hi hvs
   obtain⟨k0,k1⟩:=hIx x (ahB hx)
   have hrr:=aM6 (l:=l) (k:=x) (by omega)
   have hss:=aMG k1
   have h0':(0≤x)=True:=eq_true k0
   have hS:=a2J (sAt m x) w (rAt l x)
   generalize hq:aBF (sAt m x) w (rAt l x)=q at hS
   generalize sAt m x=s at hss hS
   (have hb:=trivial;with_reducible repeat' (first|simp only[hb,Vc.down,seval,aKY.down,h1,h2,h7,h8,h20,h21,h22,hd,hx,hw,hrr,hss,h0',hA,hB,hS,iv,ak7.cells,acQ]|refine fsp ?_ ?_<;>intro hb|refine fd ?_|fail))
   all_goals (refine ai7 (kJ _ _ (if q=true then IntKind.i64.wrap (c+1)else c) ⟨?_,?_,?_,?_,?_,?_,?_,?_,?_,?_,?_,?_,⟨hA,wf,hB⟩⟩ ?_);(simp[up,h1]);(simp[up,h2]);(simp[up,h12]);(simp[up,h13]);(simp[up,h14]);(simp[up,h5]);(simp[up,h6]);(simp[up,h7]);(simp[up,h20]);(simp[up,h21]);(simp[up]);(simp[up,h8,hb]);(simp[aBU,hq]))
  ·exact⟨by simp[up,ent,h1,h2,h12,h13,h14,h5,hLe],by simp[up,ent,h1,h2,h12,h13,h14,h5,hLe],by simp[up,ent,h1,h2,h12,h13,h14,h5,hLe],by simp[up,ent,h1,h2,h12,h13,h14,h5,hLe],by simp[up,ent,h1,h2,h12,h13,h14,h5,hLe],by simp[up,ent,h1,h2,h12,h13,h14,h5,hLe],by simp[up,ent,h1,h2,h12,h13,h14,h5,hLe],by simp[up,ent,h1,h2,h12,h13,h14,h5,hLe],by simp[up,ent,h1,h2,h12,h13,h14,h5,hLe],by simp[up,ent,h1,h2,h12,h13,h14,h5,hLe],by simp[up],by simp[up,ent,h1,h2,h12,h13,h14,h5,hLe],⟨hA1 _,true,by rw[hLe];simp⟩⟩
  ·obtain⟨rfl,h1,h2,h12,h13,h14,h5,h6,h7,h8,hA,wf,hB⟩:=hk
   have hy:decide (w.need≤aBU m w l w.sens 0)=awJ m l w:=rfl
   (have hb:=trivial;with_reducible repeat' (first|simp only[hb,Vc.down,seval,aKY.down,h1,h2,h12,h13,h14,h5,h6,h7,h8,hA,hB,hw,hy,a43]|refine fsp ?_ ?_<;>intro hb|refine fd ?_|fail))
   all_goals (refine ai7 (kJ _ _ (k+1,(if awJ m l w=true then orN b (aTF k)else b)) ⟨?_,?_,?_,?_,?_,?_,⟨hA,rfl⟩⟩ ?_);(simp[up,h1]);(simp[up,h2]);(simp[up,h12]);(simp[up,h13]);(simp[up]);(simp[up,h5,hb]);(simp[ar1]))
 ·exact⟨by simp[up,ent],by simp[up,ent],by simp[up,ent],by simp[up,ent],by simp[up],by simp[up,ent],⟨rfl,rfl⟩⟩
 obtain⟨rfl,h5⟩:=hk
 (have hb:=trivial;with_reducible repeat' (first|simp only[hb,Vc.down,seval,aKY.down,h5]|refine fsp ?_ ?_<;>intro hb|refine fd ?_|fail))
def bv(b:Bool):List AV:=[.bool b]
theorem aGG{h:aaP}{b:Nat}(hb:b<h.length)(l:aaP)(c:CB):(h++l).set b c=h.set b c++l:=List.set_append_left _ _ hb
theorem aDY{h:aaP}{b:Nat}(c:CB)(l:aaP):(h.set b c++l)[h.length]?=l[0]?:=by
 have:=aM3 (h.set b c) l
 rwa[apD]at this
theorem azH{h:aaP}{b:Nat}(c:CB)(l:aaP)(k:Nat):(h.set b c++l)[h.length+k]?=l[k]?:=by
 have:=aGP (h.set b c) l k
 rwa[apD]at this
theorem aV8{h:aaP}{b b':Nat}{x:CB}(c:CB)(hne:b≠b')(hb:h[b']?=some x)(l:aaP):(h.set b c++l)[b']?=some x:=by
 rw[List.getElem?_append_left (by rw[apD];exact(aq0.1 hb).1),List.getElem?_set_ne hne];exact hb
def aYZ(v:AV)(i:Nat)(rows:List (List AV))(h:aaP):Prop:=(i=0∧v=.nils)∨(0<i∧∃b,0<b∧v=.slr 1 b 0 i∧h[b]?=some (.live 1 true false rows))
theorem aVK(m:ad5){l:List Int}{nn:Bool}(hl:l.length=m.sens.length)(hs:m.small)(h6:m.votes.length≤6)(hi:∀v∈m.votes,Idx m v.sens)(o:Out)(h':aaP)(c0:m.votes=[]→(o,h')=(.ret .nils,[]))(c1:m.votes≠[]→(o,h')=(.ret (.slr 1 0 0 m.votes.length),[.live 1 true false ((m.votes.map (awJ m l)).map bv)])):
 om'.call (.fn 34) [.agg [slv 3 true m.nS (m.sens.map ak7.cells),slv 4 false m.nV (m.votes.map acT.cells),slv 5 false m.nM (m.moves.map acS.cells),.int .i64 m.states,.int .i64 m.cmds,.int .i64 m.bgn,slv 1 true m.nO (m.opn.map iv)],slv 1 true nn (l.map iv)] []=some (o,h'):=by
 have hI:=hi
 clear hi
 (refine ce Tryz.func34 ?_;simp only[Tryz.f34];(have hb:=trivial;with_reducible repeat' (first|simp only[hb,Vc.down,seval,aQB.down,acQ]|refine fsp ?_ ?_<;>intro hb|refine fd ?_|fail)))
 refine anJ (lst 26 m.votes (fun i (zz:List Bool) t h=>t 1=slv 1 true nn (l.map iv)∧t 2=.ptr 0 0 0∧t 6=.int .i64 i∧(h[0]?=some (.live 7 false false [[slv 3 true m.nS (m.sens.map ak7.cells),slv 4 false m.nV (m.votes.map acT.cells),slv 5 false m.nM (m.moves.map acS.cells),.int .i64 m.states,.int .i64 m.cmds,.int .i64 m.bgn,slv 1 true m.nO (m.opn.map iv)]])∧zz.length=i∧aYZ (t 5) i (zz.map bv) h)) (fun rest zz=>zz++rest.map (awJ m l)) (fun r e t h=>e=.exit 0∧aYZ (t 5) m.votes.length (r.map bv) h) ?_ ?_ ([]) _ _ ?_) (fun e t h hk=>?_)
 ·rintro a t h Q' kQ ⟨h1,h2,h6,⟨hA,hp,hc⟩⟩
  (have hb:=trivial;with_reducible repeat' (first|simp only[hb,Vc.down,seval,aQB.down,h1,h2,h6,aeG,decide_false,hA,acQ]|refine fsp ?_ ?_<;>intro hb|refine fd ?_|fail))
  exact kQ _ _ _ ⟨rfl,by simpa [up]using hc⟩
 ·rintro x rest i a t h J Q' kJ kQ hx hi ⟨h1,h2,h6,⟨hA,hp,hc⟩⟩
  have hd:decide ((i:Int)<(m.votes.length:Int))=true:=decide_eq_true (by omega)
  have hw:=agA hi hs.votes
  have hV:=a5O m x (l:=l) (nn:=nn) hl (hs.vs x (ahB hx)) (hI x (ahB hx))
  have hA1:=ahZ hA
  have h0l:0<h.length:=(aq0.1 hA).1
  rcases hc with⟨rfl,ho⟩|⟨h0,b,hb0,ho,hb⟩
  ·simp only[Int.natCast_zero]at hd
   (have hb:=trivial;with_reducible repeat' (first|simp only[hb,Vc.down,seval,aQB.down,h1,h2,h6,ho,hd,hw,hx,hA,hA1,hV,acT.cells,acQ]|refine fsp ?_ ?_<;>intro hb|refine fd ?_|fail))
   obtain rfl:a=[]:=atY.1 hp
   (refine ai7 (kJ _ _ [awJ m l x] ⟨?_,?_,?_,⟨hA1 _,rfl,.inr ⟨by omega,h.length+1,by omega,by simp[up],by rw[aGP];simp[bv]⟩⟩⟩ ?_);(simp[up,h1]);(simp[up,h2]);(simp[up]);(simp))
  ·have hbl:b<h.length:=(aq0.1 hb).1
   have hB:=ahZ hb
   have hS:=aGG hbl
   have hlp:0+i=a.length:=by omega
   have hi39:(i+1≤549755813888)=True:=eq_true (by omega)
   (have hb:=trivial;with_reducible repeat' (first|simp only[hb,Vc.down,seval,aQB.down,h1,h2,h6,ho,hd,hw,hx,hA,hA1,hV,acT.cells,acQ,hB,hS,aDY,azH,apD,hp,hi39]|refine fsp ?_ ?_<;>intro hb|refine fd ?_|fail))
   (refine ai7 (kJ _ _ (a++[awJ m l x]) ⟨?_,?_,?_,⟨aV8 _ (by omega) hA _,by simp[hp],.inr ⟨by omega,h.length+1,by omega,by simp[up],by rw[azH];simp[bv]⟩⟩⟩ ?_);(simp[up,h1]);(simp[up,h2]);(simp[up]);(simp))
 ·exact⟨by simp[up,ent],by simp[up,ent],by simp[up],⟨rfl,rfl,.inl ⟨rfl,by simp[up]⟩⟩⟩
 obtain⟨rfl,⟨hn,ho⟩|⟨hn,b,hb0,ho,hb⟩⟩:=hk
 ·rw[c0 (atY.1 hn)]
  (have hb:=trivial;with_reducible repeat' (first|simp only[hb,Vc.down,seval,aQB.down,ho]|refine fsp ?_ ?_<;>intro hb|refine fd ?_|fail))
 ·rw[c1 (fun e=>by rw[e]at hn;simp at hn)]
  (with_reducible repeat' (first|simp only[hb,Vc.down,seval,aQB.down,ho,hb]|refine fsp ?_ ?_<;>intro hb|refine fd ?_|fail))
end Go.Proofs.YtfkokgjfpojeoaaGreatDoor
