/- The functions of the layer, walked. -/
import Derived.Test.YtfkokgjfpojeoaaPartAB
import Derived.Test.YtfkokgjfpojeoaaLibD
open List renaming length_map→aa9,mem_of_getElem?→aeU,getElem?_set_ne→ajP,getElem?_set_self→ajS,all_cons→am1,all_eq_not_any_not→arO,all_eq_true→arP,getElem?_eq_getElem→auT,length_set→au3,getElem?_eq_some_iff→awE,contains_cons→awM,contains_nil→awY,getElem?_append_left→ayB,length_cons→ayC,length_append→ayS,getElem?_eq_none→ayU
open Int renaming lt_irrefl→adE,le_refl→as6
open Bool renaming and_eq_true→adJ,eq_false_iff→aiZ,true_and→akQ,false_and→alW,not_true→anK,not_false→anU,and_true→at6,not_eq_eq_eq_not→ayE,and_false→ayR
set_option linter.unusedSimpArgs false
set_option linter.unusedVariables false
namespace Go.Proofs.Ytfkokgjfpojeoaa
open Go.Ev Go
set_option maxRecDepth 100000
set_option maxHeartbeats 16000000
def aHC(s:ad1):Bool:=awX s.lo&&awX s.hi&& !decide (s.hi<s.lo)
def aw0(m:aaW):Bool:=decide (m.sens.length≤6)&&decide (m.votes.length≤6)&&decide (m.moves.length≤20)&&inB m.states 1 8&&inB m.cmds 0 4&&inB m.bgn 0 (IntKind.i64.wrap (m.states-1))&&((m.opn.length:Int)==m.states)
def adZ(m:aaW):Bool:=aw0 m&&m.sens.all aHC&&m.votes.all (ay9 m.sens.length)&&m.moves.all (avG m)&&m.opn.all (fun n=>inB n 0 255)
theorem aJ7(m:aaW)(x:ac4)(hl:x.wants.length≤maxLen):om'.call (.fn 71) [.agg [.int .i64 x.frm,.int .i64 x.to,slv 2 true x.nn (x.wants.map acI.cells),.int .i64 x.cmd,.int .i64 x.after],.ptr 0 0 0] [.live 7 false false [[slv 3 true m.nS (m.sens.map ad1.cells),slv 4 false m.nV (m.votes.map abT.cells),slv 5 false m.nM (m.moves.map ac4.cells),.int .i64 m.states,.int .i64 m.cmds,.int .i64 m.bgn,slv 1 true m.nO (m.opn.map iv)]]]=some (.ret (.bool (!avG m x)),[.live 7 false false [[slv 3 true m.nS (m.sens.map ad1.cells),slv 4 false m.nV (m.votes.map abT.cells),slv 5 false m.nM (m.moves.map ac4.cells),.int .i64 m.states,.int .i64 m.cmds,.int .i64 m.bgn,slv 1 true m.nO (m.opn.map iv)]]]):=by
 have hm:=aTV m x hl
 (refine ce Try.func71 ?_;simp only[Try.f71];(have hb:=trivial;with_reducible repeat' (first|simp only[hb,Vc.down,seval,bgD.down,hm]|refine fsp ?_ ?_<;>intro hb|refine fd ?_|fail)))
theorem aGI{l:List ac4}{nn:Bool}{g:Nat}{mm:aaW}{p:ac4→Bool}(hp:∀x∈l,om'.call (.fn g) (.agg [.int .i64 x.frm,.int .i64 x.to,slv 2 true x.nn (x.wants.map acI.cells),.int .i64 x.cmd,.int .i64 x.after]::[.ptr 0 0 0]) [.live 7 false false [[slv 3 true mm.nS (mm.sens.map ad1.cells),slv 4 false mm.nV (mm.votes.map abT.cells),slv 5 false mm.nM (mm.moves.map ac4.cells),.int .i64 mm.states,.int .i64 mm.cmds,.int .i64 mm.bgn,slv 1 true mm.nO (mm.opn.map iv)]]]=some (.ret (.bool (p x)),[.live 7 false false [[slv 3 true mm.nS (mm.sens.map ad1.cells),slv 4 false mm.nV (mm.votes.map abT.cells),slv 5 false mm.nM (mm.moves.map ac4.cells),.int .i64 mm.states,.int .i64 mm.cmds,.int .i64 mm.bgn,slv 1 true mm.nO (mm.opn.map iv)]]]))(hl:l.length≤maxLen)(hgm:om'.md g=false:=by exact rfl):
 om'.call (.fn 88) [slv 5 false nn (l.map ac4.cells),.func (.func g) [] [.ptr 0 0 0]] [.live 7 false false [[slv 3 true mm.nS (mm.sens.map ad1.cells),slv 4 false mm.nV (mm.votes.map abT.cells),slv 5 false mm.nM (mm.moves.map ac4.cells),.int .i64 mm.states,.int .i64 mm.cmds,.int .i64 mm.bgn,slv 1 true mm.nO (mm.opn.map iv)]]]=some (.ret (.int .i64 (idx p l 0)),[.live 7 false false [[slv 3 true mm.nS (mm.sens.map ad1.cells),slv 4 false mm.nV (mm.votes.map abT.cells),slv 5 false mm.nM (mm.moves.map ac4.cells),.int .i64 mm.states,.int .i64 mm.cmds,.int .i64 mm.bgn,slv 1 true mm.nO (mm.opn.map iv)]]]):=by
 (refine ce Try.func88 ?_;simp only[Try.f88];(have hb:=trivial;with_reducible repeat' (first|simp only[hb,Vc.down,seval,aMC.down,aa9]|refine fsp ?_ ?_<;>intro hb|refine fd ?_|fail)))
 refine ahX (lst 19 l (fun i (s:Int) t h=>s=i∧h=[.live 7 false false [[slv 3 true mm.nS (mm.sens.map ad1.cells),slv 4 false mm.nV (mm.votes.map abT.cells),slv 5 false mm.nM (mm.moves.map ac4.cells),.int .i64 mm.states,.int .i64 mm.cmds,.int .i64 mm.bgn,slv 1 true mm.nO (mm.opn.map iv)]]]∧t 0=slv 5 false nn (l.map ac4.cells)∧t 1=.func (.func g) [] [.ptr 0 0 0]∧t 7=.int .i64 l.length∧t 8=.int .i64 i)
  (fun rest s=>idx p rest s) (fun r e t h=>h=[.live 7 false false [[slv 3 true mm.nS (mm.sens.map ad1.cells),slv 4 false mm.nV (mm.votes.map abT.cells),slv 5 false mm.nM (mm.moves.map ac4.cells),.int .i64 mm.states,.int .i64 mm.cmds,.int .i64 mm.bgn,slv 1 true mm.nO (mm.opn.map iv)]]]∧((e=.exit 0∧r= -1)∨(e=.ret∧t 4=.int .i64 r))) ?_ ?_ 0 _ _ ?_) (fun e t h hk=>?_)
 ·rintro s t h Q' kQ ⟨rfl,rfl,h0,h1,h7,h8⟩
  (have hb:=trivial;with_reducible repeat' (first|simp only[hb,Vc.down,seval,aMC.down,h0,h1,h7,h8,adE,decide_false]|refine fsp ?_ ?_<;>intro hb|refine fd ?_|fail))
  exact kQ _ _ _ ⟨rfl,.inl ⟨rfl,rfl⟩⟩
 ·rintro x rest i s t h J Q' kJ kQ hx hi ⟨rfl,rfl,h0,h1,h7,h8⟩
  have hgm2:=hgm
  simp only[aB2,awM,awY,Bool.or_false]at hgm2
  have hpx:=hp x (aeU hx)
  have hd:decide ((i:Int)<(l.length:Int))=true:=by simpa using hi
  (have hb:=trivial;with_reducible repeat' (first|simp only[hb,Vc.down,seval,aMC.down,h0,h1,h7,h8,hd,hx,ac4.cells,hpx,hgm2,adL hi hl]|refine fsp ?_ ?_<;>intro hb|refine fd ?_|fail))
  ·exact kQ _ _ _ ⟨rfl,.inr ⟨rfl,by simp[up,idx,hb]⟩⟩
  ·exact adW (kJ _ _ (i+1) ⟨by simp,rfl,by simp[up,h0],by simp[up,h1],by simp[up,h7],by simp[up]⟩ (by simp[idx,hb]))
 ·exact⟨rfl,rfl,by simp[up,ent],by simp[up,ent],by simp[up],by simp[up]⟩
 ·obtain⟨rfl,⟨rfl,hi⟩|⟨rfl,hi⟩⟩:=hk
  ·(have hb:=trivial;with_reducible repeat' (first|simp only[hb,Vc.down,seval,aMC.down]|refine fsp ?_ ?_<;>intro hb|refine fd ?_|fail))
   rw[hi]
  ·(have hb:=trivial;with_reducible repeat' (first|simp only[hb,Vc.down,seval,aMC.down,hi]|refine fsp ?_ ?_<;>intro hb|refine fd ?_|fail))
theorem aEI{l:List ac4}{nn:Bool}{g:Nat}{mm:aaW}{p:ac4→Bool}(hp:∀x∈l,om'.call (.fn g) (.agg [.int .i64 x.frm,.int .i64 x.to,slv 2 true x.nn (x.wants.map acI.cells),.int .i64 x.cmd,.int .i64 x.after]::[.ptr 0 0 0]) [.live 7 false false [[slv 3 true mm.nS (mm.sens.map ad1.cells),slv 4 false mm.nV (mm.votes.map abT.cells),slv 5 false mm.nM (mm.moves.map ac4.cells),.int .i64 mm.states,.int .i64 mm.cmds,.int .i64 mm.bgn,slv 1 true mm.nO (mm.opn.map iv)]]]=some (.ret (.bool (p x)),[.live 7 false false [[slv 3 true mm.nS (mm.sens.map ad1.cells),slv 4 false mm.nV (mm.votes.map abT.cells),slv 5 false mm.nM (mm.moves.map ac4.cells),.int .i64 mm.states,.int .i64 mm.cmds,.int .i64 mm.bgn,slv 1 true mm.nO (mm.opn.map iv)]]]))(hl:l.length≤maxLen)(hgm:om'.md g=false:=by exact rfl):
 om'.call (.fn 70) [slv 5 false nn (l.map ac4.cells),.func (.func g) [] [.ptr 0 0 0]] [.live 7 false false [[slv 3 true mm.nS (mm.sens.map ad1.cells),slv 4 false mm.nV (mm.votes.map abT.cells),slv 5 false mm.nM (mm.moves.map ac4.cells),.int .i64 mm.states,.int .i64 mm.cmds,.int .i64 mm.bgn,slv 1 true mm.nO (mm.opn.map iv)]]]=some (.ret (.bool (l.any p)),[.live 7 false false [[slv 3 true mm.nS (mm.sens.map ad1.cells),slv 4 false mm.nV (mm.votes.map abT.cells),slv 5 false mm.nM (mm.moves.map ac4.cells),.int .i64 mm.states,.int .i64 mm.cmds,.int .i64 mm.bgn,slv 1 true mm.nO (mm.opn.map iv)]]]):=by
 (refine ce Try.func70 ?_;simp only[Try.f70];(have hb:=trivial;with_reducible repeat' (first|simp only[hb,Vc.down,seval,aGI hp hl hgm,awG p l 0 (as6 0)]|refine fsp ?_ ?_<;>intro hb|refine fd ?_|fail)))
theorem aFV(m:aaW)(hs:m.small):om'.call (.fn 42) [.agg [slv 3 true m.nS (m.sens.map ad1.cells),slv 4 false m.nV (m.votes.map abT.cells),slv 5 false m.nM (m.moves.map ac4.cells),.int .i64 m.states,.int .i64 m.cmds,.int .i64 m.bgn,slv 1 true m.nO (m.opn.map iv)]] []=some (.ret (.bool (adZ m)),[]):=by
 have l1:decide ((6:Int)<(m.sens.length:Int))= !decide (m.sens.length≤6):=by rw[←decide_not,decide_eq_decide];omega
 have l2:decide ((6:Int)<(m.votes.length:Int))= !decide (m.votes.length≤6):=by rw[←decide_not,decide_eq_decide];omega
 have l3:decide ((20:Int)<(m.moves.length:Int))= !decide (m.moves.length≤20):=by rw[←decide_not,decide_eq_decide];omega
 cases hp:aw0 m with
 |false=>
  have hp':adZ m=false:=by simp[adZ,hp]
  rw[hp']
  (refine ce Try.func42 ?_;simp only[Try.f42];(have hb:=trivial;with_reducible repeat' (first|simp only[hb,Vc.down,seval,az6.down,aa9,axB,l1,l2,l3]|refine fsp ?_ ?_<;>intro hb|refine fd ?_|fail)))
  all_goals first
   |rfl
   |(exfalso;simp_all[aw0];done)
 |true=>
  have hp':=hp
  simp only[aw0,adJ]at hp'
  obtain⟨⟨⟨⟨⟨⟨p1,p2⟩,p3⟩,p4⟩,p5⟩,p6⟩,p7⟩:=hp'
  (refine ce Try.func42 ?_;simp only[Try.f42];(have hb:=trivial;with_reducible repeat' (first|simp only[hb,Vc.down,seval,az6.down,aa9,axB,l1,l2,l3,p1,p2,p3,p4,p5,p6,p7]|refine fsp ?_ ?_<;>intro hb|refine fd ?_|fail)))
  refine ahX (lst 118 m.sens (fun i (zz:Unit) t h=>t 1=.ptr 0 0 0∧t 53=slv 3 true m.nS (m.sens.map ad1.cells)∧t 54=.int .i64 m.sens.length∧t 55=.int .i64 i∧(h[0]?=some (.live 7 false false [[slv 3 true m.nS (m.sens.map ad1.cells),slv 4 false m.nV (m.votes.map abT.cells),slv 5 false m.nM (m.moves.map ac4.cells),.int .i64 m.states,.int .i64 m.cmds,.int .i64 m.bgn,slv 1 true m.nO (m.opn.map iv)]]))) (fun rest zz=>rest.all aHC) (fun r e t h=>(if r=true then e=.exit 0∧t 1=.ptr 0 0 0∧h[0]?=some (.live 7 false false [[slv 3 true m.nS (m.sens.map ad1.cells),slv 4 false m.nV (m.votes.map abT.cells),slv 5 false m.nM (m.moves.map ac4.cells),.int .i64 m.states,.int .i64 m.cmds,.int .i64 m.bgn,slv 1 true m.nO (m.opn.map iv)]])else e=.ret∧t 2=.bool false)) ?_ ?_ () _ _ ?_) (fun e t h hk=>?_)
  ·rintro _ t h Q' kQ ⟨h1,h53,h54,h55,hA⟩
   (have hb:=trivial;with_reducible repeat' (first|simp only[hb,Vc.down,seval,az6.down,h1,h53,h54,h55,adE,decide_false]|refine fsp ?_ ?_<;>intro hb|refine fd ?_|fail))
   exact kQ _ _ _ (by rw[if_pos (by rfl)];exact⟨rfl,by simp[up,h1],hA⟩)
  ·rintro x rest i _ t h J Q' kJ kQ hx hi ⟨h1,h53,h54,h55,hA⟩
   have hd:decide ((i:Int)<(m.sens.length:Int))=true:=decide_eq_true (by omega)
   have hw:=adL hi hs.sens
   have hA1:=aaO hA
   (have hb:=trivial;with_reducible repeat' (first|simp only[hb,Vc.down,seval,az6.down,h1,h53,h54,h55,hd,hx,hw,aA9,ad1.cells,aa9]|refine fsp ?_ ?_<;>intro hb|refine fd ?_|fail))
   all_goals first
    |exact kQ _ _ _ (by rw[if_neg (by simp_all[aHC])];exact⟨rfl,by simp[up]⟩)
    |(refine adW (kJ _ _ () ⟨?_,?_,?_,?_,hA1 _⟩ ?_);(simp[up,h1]);(simp[up,h53]);(simp[up,h54]);(simp[up]);(simp_all[aHC]))
  ·exact⟨by simp[up,ent],by simp[up,ent],by simp[up,ent],by simp[up],rfl⟩
  ·split at hk
   ·obtain⟨rfl,h1,hA⟩:=hk
    rename_i hr1
    have hA1:=aaO hA
    (have hb:=trivial;with_reducible repeat' (first|simp only[hb,Vc.down,seval,az6.down,h1,hA,hA1,aa9]|refine fsp ?_ ?_<;>intro hb|refine fd ?_|fail))
    refine ahX (lst 118 m.votes (fun i (zz:Unit) t h=>t 1=.ptr 0 0 0∧t 78=slv 4 false m.nV (m.votes.map abT.cells)∧t 79=.int .i64 m.votes.length∧t 80=.int .i64 i∧(h[0]?=some (.live 7 false false [[slv 3 true m.nS (m.sens.map ad1.cells),slv 4 false m.nV (m.votes.map abT.cells),slv 5 false m.nM (m.moves.map ac4.cells),.int .i64 m.states,.int .i64 m.cmds,.int .i64 m.bgn,slv 1 true m.nO (m.opn.map iv)]]))) (fun rest zz=>rest.all (ay9 m.sens.length)) (fun r e t h=>(if r=true then e=.exit 2∧t 1=.ptr 0 0 0∧h[0]?=some (.live 7 false false [[slv 3 true m.nS (m.sens.map ad1.cells),slv 4 false m.nV (m.votes.map abT.cells),slv 5 false m.nM (m.moves.map ac4.cells),.int .i64 m.states,.int .i64 m.cmds,.int .i64 m.bgn,slv 1 true m.nO (m.opn.map iv)]])else e=.ret∧t 2=.bool false)) ?_ ?_ () _ _ ?_) (fun e t h hk=>?_)
    ·rintro _ t h Q' kQ ⟨h1,h78,h79,h80,hA⟩
     (have hb:=trivial;with_reducible repeat' (first|simp only[hb,Vc.down,seval,az6.down,h1,h78,h79,h80,adE,decide_false]|refine fsp ?_ ?_<;>intro hb|refine fd ?_|fail))
     exact kQ _ _ _ (by rw[if_pos (by rfl)];exact⟨rfl,by simp[up,h1],hA⟩)
    ·rintro x rest i _ t h J Q' kJ kQ hx hi ⟨h1,h78,h79,h80,hA⟩
     have hd:decide ((i:Int)<(m.votes.length:Int))=true:=decide_eq_true (by omega)
     have hw:=adL hi hs.votes
     have hA1:=aaO hA
     have hin:=aA8 (nn:=x.nn) m.sens.length (hs.vs x (aeU hx))
     (have hb:=trivial;with_reducible repeat' (first|simp only[hb,Vc.down,seval,az6.down,h1,h78,h79,h80,hd,hx,hw,hA1,aA9,axB,hin,abT.cells,aa9]|refine fsp ?_ ?_<;>intro hb|refine fd ?_|fail))
     all_goals first
      |exact kQ _ _ _ (by rw[if_neg (by simp_all[ay9])];exact⟨rfl,by simp[up]⟩)
      |(refine adW (kJ _ _ () ⟨?_,?_,?_,?_,hA1 _⟩ ?_);(simp[up,h1]);(simp[up,h78]);(simp[up,h79]);(simp[up]);(simp_all[ay9]))
    ·exact⟨by simp[up,ent,h1],by simp[up,ent,h1],by simp[up,ent,h1],by simp[up],hA⟩
    ·split at hk
     ·obtain⟨rfl,h1,hA⟩:=hk
      rename_i hr2
      have hA1:=aaO hA
      have hcM:=aEI (mm:=m) (l:=m.moves) (nn:=m.nM) (g:=71) (p:=fun x=> !avG m x) (fun x hx=>aJ7 m x (hs.ws x hx)) hs.moves
      have hcI:=aDG (l:=m.opn) (nn:=m.nO) (g:=74) (cap:=[]) (p:=fun x=> !inB x 0 255) rfl rfl (fun x _=>aJ9 x) hs.opn
      (have hb:=trivial;with_reducible repeat' (first|simp only[hb,Vc.down,seval,az6.down,h1,hA,hA1,aa9,hcM,hcI]|refine fsp ?_ ?_<;>intro hb|refine fd ?_|fail))
      all_goals
       have q1:m.moves.all (avG m)= !(m.moves.any fun x=> !avG m x):=arO
       have q2:m.opn.all (fun n=>inB n 0 255)= !(m.opn.any fun x=> !inB x 0 255):=arO
       simp only[adZ,hp,hr1,hr2,q1,q2,hb,anK,anU,akQ,alW,at6]
       try rfl
     ·obtain⟨rfl,h2⟩:=hk
      rename_i hr2
      (have hb:=trivial;with_reducible repeat' (first|simp only[hb,Vc.down,seval,az6.down,h2]|refine fsp ?_ ?_<;>intro hb|refine fd ?_|fail))
      all_goals simp[adZ,hp,aiZ.2 hr2]
   ·obtain⟨rfl,h2⟩:=hk
    rename_i hr1
    (have hb:=trivial;with_reducible repeat' (first|simp only[hb,Vc.down,seval,az6.down,h2]|refine fsp ?_ ?_<;>intro hb|refine fd ?_|fail))
    all_goals simp[adZ,hp,aiZ.2 hr1]
theorem aGX(m:aaW)(hs:m.small):om'.call (.fn 15) [.agg [slv 3 true m.nS (m.sens.map ad1.cells),slv 4 false m.nV (m.votes.map abT.cells),slv 5 false m.nM (m.moves.map ac4.cells),.int .i64 m.states,.int .i64 m.cmds,.int .i64 m.bgn,slv 1 true m.nO (m.opn.map iv)]] []=some (.ret (.bool (adZ m)),[]):=by
 have l1:decide ((6:Int)<(m.sens.length:Int))= !decide (m.sens.length≤6):=by rw[←decide_not,decide_eq_decide];omega
 have l2:decide ((6:Int)<(m.votes.length:Int))= !decide (m.votes.length≤6):=by rw[←decide_not,decide_eq_decide];omega
 have l3:decide ((20:Int)<(m.moves.length:Int))= !decide (m.moves.length≤20):=by rw[←decide_not,decide_eq_decide];omega
 have sen:∀x:ad1,aHC x=(!decide (x.lo < -10000)&& !decide (x.hi<x.lo)&& !decide (10000<x.hi)):=fun x=>by
  rw[Bool.eq_iff_iff];simp[aHC,awX,inB];omega
 (refine ce Try.func15 ?_;simp only[Try.f15];(have hb:=trivial;with_reducible repeat' (first|simp only[hb,Vc.down,seval,aBR.down,aa9]|refine fsp ?_ ?_<;>intro hb|refine fd ?_|fail)))
 refine ahX (lst 126 m.sens (fun i (zz:Unit) t h=>t 1=.ptr 0 0 0∧t 3=.int .i64 i∧(h[0]?=some (.live 7 false false [[slv 3 true m.nS (m.sens.map ad1.cells),slv 4 false m.nV (m.votes.map abT.cells),slv 5 false m.nM (m.moves.map ac4.cells),.int .i64 m.states,.int .i64 m.cmds,.int .i64 m.bgn,slv 1 true m.nO (m.opn.map iv)]]))) (fun rest zz=>rest.all aHC) (fun r e t h=>(if r=true then e=.exit 0∧t 1=.ptr 0 0 0∧h[0]?=some (.live 7 false false [[slv 3 true m.nS (m.sens.map ad1.cells),slv 4 false m.nV (m.votes.map abT.cells),slv 5 false m.nM (m.moves.map ac4.cells),.int .i64 m.states,.int .i64 m.cmds,.int .i64 m.bgn,slv 1 true m.nO (m.opn.map iv)]])else e=.ret∧t 2=.bool false)) ?_ ?_ () _ _ ?_) (fun e t h hk=>?_)
 ·rintro _ t h Q' kQ ⟨h1,h3,hA⟩
  (have hb:=trivial;with_reducible repeat' (first|simp only[hb,Vc.down,seval,aBR.down,h1,h3,adE,decide_false,hA,aa9]|refine fsp ?_ ?_<;>intro hb|refine fd ?_|fail))
  exact kQ _ _ _ (by rw[if_pos (by rfl)];exact⟨rfl,by simp[up,h1],hA⟩)
 ·rintro x rest i _ t h J Q' kJ kQ hx hi ⟨h1,h3,hA⟩
  have hd:decide ((i:Int)<(m.sens.length:Int))=true:=decide_eq_true (by omega)
  have hw:=adL hi hs.sens
  have hA1:=aaO hA
  (have hb:=trivial;with_reducible repeat' (first|simp only[hb,Vc.down,seval,aBR.down,h1,h3,hd,hx,hw,hA,hA1,ad1.cells,aa9]|refine fsp ?_ ?_<;>intro hb|refine fd ?_|fail))
  all_goals first
   |exact kQ _ _ _ (by rw[if_neg (by simp_all)];exact⟨rfl,by simp[up]⟩)
   |(refine adW (kJ _ _ () ⟨?_,?_,hA1 _⟩ ?_);(simp[up,h1]);(simp[up]);(simp_all))
 ·exact⟨by simp[up,ent],by simp[up],rfl⟩
 split at hk
 rotate_left
 ·obtain⟨rfl,h2⟩:=hk
  rename_i hr1
  (have hb:=trivial;with_reducible repeat' (first|simp only[hb,Vc.down,seval,aBR.down,h2]|refine fsp ?_ ?_<;>intro hb|refine fd ?_|fail))
  all_goals simp[adZ,aiZ.2 hr1]
 obtain⟨rfl,h1,hA⟩:=hk
 rename_i hr1
 have hA1:=aaO hA
 (have hb:=trivial;with_reducible repeat' (first|simp only[hb,Vc.down,seval,aBR.down,h1,hA,hA1,aa9]|refine fsp ?_ ?_<;>intro hb|refine fd ?_|fail))
 refine ahX (lst 126 m.votes (fun i (zz:Unit) t h=>t 1=.ptr 0 0 0∧t 5=.int .i64 i∧(h[0]?=some (.live 7 false false [[slv 3 true m.nS (m.sens.map ad1.cells),slv 4 false m.nV (m.votes.map abT.cells),slv 5 false m.nM (m.moves.map ac4.cells),.int .i64 m.states,.int .i64 m.cmds,.int .i64 m.bgn,slv 1 true m.nO (m.opn.map iv)]]))) (fun rest zz=>rest.all (ay9 m.sens.length)) (fun r e t h=>(if r=true then e=.exit 2∧t 1=.ptr 0 0 0∧h[0]?=some (.live 7 false false [[slv 3 true m.nS (m.sens.map ad1.cells),slv 4 false m.nV (m.votes.map abT.cells),slv 5 false m.nM (m.moves.map ac4.cells),.int .i64 m.states,.int .i64 m.cmds,.int .i64 m.bgn,slv 1 true m.nO (m.opn.map iv)]])else e=.ret∧t 2=.bool false)) ?_ ?_ () _ _ ?_) (fun e t h hk=>?_)
 ·rintro _ t h Q' kQ ⟨h1,h5,hA⟩
  (have hb:=trivial;with_reducible repeat' (first|simp only[hb,Vc.down,seval,aBR.down,h1,h5,adE,decide_false,hA,aa9]|refine fsp ?_ ?_<;>intro hb|refine fd ?_|fail))
  exact kQ _ _ _ (by rw[if_pos (by rfl)];exact⟨rfl,by simp[up,h1],hA⟩)
 ·rintro x rest i _ t h J Q' kJ kQ hx hi ⟨h1,h5,hA⟩
  have hd:decide ((i:Int)<(m.votes.length:Int))=true:=decide_eq_true (by omega)
  have hw:=adL hi hs.votes
  have hA1:=aaO hA
  have hV:=bdS x m.sens.length (hs.vs x (aeU hx))
  (have hb:=trivial;with_reducible repeat' (first|simp only[hb,Vc.down,seval,aBR.down,h1,h5,hd,hx,hw,hA,hA1,hV,abT.cells,aa9]|refine fsp ?_ ?_<;>intro hb|refine fd ?_|fail))
  all_goals first
   |exact kQ _ _ _ (by rw[if_neg (by simp_all)];exact⟨rfl,by simp[up]⟩)
   |(refine adW (kJ _ _ () ⟨?_,?_,hA⟩ ?_);(simp[up,h1]);(simp[up]);(simp_all))
 ·exact⟨by simp[up,ent,h1],by simp[up],hA⟩
 split at hk
 rotate_left
 ·obtain⟨rfl,h2⟩:=hk
  rename_i hr2
  (have hb:=trivial;with_reducible repeat' (first|simp only[hb,Vc.down,seval,aBR.down,h2]|refine fsp ?_ ?_<;>intro hb|refine fd ?_|fail))
  all_goals simp[adZ,aiZ.2 hr2]
 obtain⟨rfl,h1,hA⟩:=hk
 rename_i hr2
 have hA1:=aaO hA
 cases hp:aw0 m with
 |false=>
  have hp':adZ m=false:=by simp[adZ,hp]
  rw[hp']
  (have hb:=trivial;with_reducible repeat' (first|simp only[hb,Vc.down,seval,aBR.down,h1,hA,hA1,aa9,aGM,l1,l2,l3]|refine fsp ?_ ?_<;>intro hb|refine fd ?_|fail))
  all_goals first
   |rfl
   |(exfalso;simp_all[aw0];done)
 |true=>
  have hp':=hp
  simp only[aw0,adJ]at hp'
  obtain⟨⟨⟨⟨⟨⟨p1,p2⟩,p3⟩,p4⟩,p5⟩,p6⟩,p7⟩:=hp'
  (have hb:=trivial;with_reducible repeat' (first|simp only[hb,Vc.down,seval,aBR.down,h1,hA,hA1,aa9,aGM,l1,l2,l3,p1,p2,p3,p4,p5,p6,p7]|refine fsp ?_ ?_<;>intro hb|refine fd ?_|fail))
  refine ahX (lst 126 m.opn (fun i (zz:Unit) t h=>t 1=.ptr 0 0 0∧t 6=.int .i64 i∧(h[0]?=some (.live 7 false false [[slv 3 true m.nS (m.sens.map ad1.cells),slv 4 false m.nV (m.votes.map abT.cells),slv 5 false m.nM (m.moves.map ac4.cells),.int .i64 m.states,.int .i64 m.cmds,.int .i64 m.bgn,slv 1 true m.nO (m.opn.map iv)]]))) (fun rest zz=>rest.all (fun n=>inB n 0 255)) (fun r e t h=>(if r=true then e=.exit 4∧t 1=.ptr 0 0 0∧h[0]?=some (.live 7 false false [[slv 3 true m.nS (m.sens.map ad1.cells),slv 4 false m.nV (m.votes.map abT.cells),slv 5 false m.nM (m.moves.map ac4.cells),.int .i64 m.states,.int .i64 m.cmds,.int .i64 m.bgn,slv 1 true m.nO (m.opn.map iv)]])else e=.ret∧t 2=.bool false)) ?_ ?_ () _ _ ?_) (fun e t h hk=>?_)
  ·rintro _ t h Q' kQ ⟨h1,h6,hA⟩
   (have hb:=trivial;with_reducible repeat' (first|simp only[hb,Vc.down,seval,aBR.down,h1,h6,adE,decide_false,hA,aa9]|refine fsp ?_ ?_<;>intro hb|refine fd ?_|fail))
   exact kQ _ _ _ (by rw[if_pos (by rfl)];exact⟨rfl,by simp[up,h1],hA⟩)
  ·rintro x rest i _ t h J Q' kJ kQ hx hi ⟨h1,h6,hA⟩
   have hd:decide ((i:Int)<(m.opn.length:Int))=true:=decide_eq_true (by omega)
   have hw:=adL hi hs.opn
   have hA1:=aaO hA
   (have hb:=trivial;with_reducible repeat' (first|simp only[hb,Vc.down,seval,aBR.down,h1,h6,hd,hx,hw,hA,hA1,aGM,iv,aa9]|refine fsp ?_ ?_<;>intro hb|refine fd ?_|fail))
   all_goals first
    |exact kQ _ _ _ (by rw[if_neg (by simp_all)];exact⟨rfl,by simp[up]⟩)
    |(refine adW (kJ _ _ () ⟨?_,?_,hA⟩ ?_);(simp[up,h1]);(simp[up]);(simp_all))
  ·exact⟨by simp[up,ent,h1],by simp[up],hA⟩
  split at hk
  rotate_left
  ·obtain⟨rfl,h2⟩:=hk
   rename_i hr3
   (have hb:=trivial;with_reducible repeat' (first|simp only[hb,Vc.down,seval,aBR.down,h2]|refine fsp ?_ ?_<;>intro hb|refine fd ?_|fail))
   all_goals simp[adZ,aiZ.2 hr3]
  obtain⟨rfl,h1,hA⟩:=hk
  rename_i hr3
  have hA1:=aaO hA
  (have hb:=trivial;with_reducible repeat' (first|simp only[hb,Vc.down,seval,aBR.down,h1,hA,hA1,aa9]|refine fsp ?_ ?_<;>intro hb|refine fd ?_|fail))
  refine ahX (lst 126 m.moves (fun i (zz:Unit) t h=>t 1=.ptr 0 0 0∧t 7=.int .i64 i∧(h[0]?=some (.live 7 false false [[slv 3 true m.nS (m.sens.map ad1.cells),slv 4 false m.nV (m.votes.map abT.cells),slv 5 false m.nM (m.moves.map ac4.cells),.int .i64 m.states,.int .i64 m.cmds,.int .i64 m.bgn,slv 1 true m.nO (m.opn.map iv)]]))) (fun rest zz=>rest.all (avG m)) (fun r e t h=>(if r=true then e=.exit 6 else e=.ret∧t 2=.bool false)) ?_ ?_ () _ _ ?_) (fun e t h hk=>?_)
  ·rintro _ t h Q' kQ ⟨h1,h7,hA⟩
   (have hb:=trivial;with_reducible repeat' (first|simp only[hb,Vc.down,seval,aBR.down,h1,h7,adE,decide_false,hA,aa9]|refine fsp ?_ ?_<;>intro hb|refine fd ?_|fail))
   exact kQ _ _ _ (by rw[if_pos (by rfl)])
  ·rintro x rest i _ t h J Q' kJ kQ hx hi ⟨h1,h7,hA⟩
   have hd:decide ((i:Int)<(m.moves.length:Int))=true:=decide_eq_true (by omega)
   have hw:=adL hi hs.moves
   have hA1:=aaO hA
   have hM:=bdP m x (hs.ws x (aeU hx))
   (have hb:=trivial;with_reducible repeat' (first|simp only[hb,Vc.down,seval,aBR.down,h1,h7,hd,hx,hw,hA,hA1,hM,ac4.cells,aa9]|refine fsp ?_ ?_<;>intro hb|refine fd ?_|fail))
   all_goals first
    |exact kQ _ _ _ (by rw[if_neg (by simp_all)];exact⟨rfl,by simp[up]⟩)
    |(refine adW (kJ _ _ () ⟨?_,?_,hA⟩ ?_);(simp[up,h1]);(simp[up]);(simp_all))
  ·exact⟨by simp[up,ent,h1],by simp[up],hA⟩
  split at hk
  ·subst hk
   rename_i hr4
   (have hb:=trivial;with_reducible repeat' (first|simp only[hb,Vc.down,seval,aBR.down]|refine fsp ?_ ?_<;>intro hb|refine fd ?_|fail))
   all_goals simp[adZ,hp,hr1,hr2,hr3,hr4]
  ·obtain⟨rfl,h2⟩:=hk
   rename_i hr4
   (have hb:=trivial;with_reducible repeat' (first|simp only[hb,Vc.down,seval,aBR.down,h2]|refine fsp ?_ ?_<;>intro hb|refine fd ?_|fail))
   all_goals simp[adZ,aiZ.2 hr4]
def aDT(m:aaW)(l:List Int):Bool:=((l.length:Int)==(m.sens.length:Int))&&l.all awX
def av2(m:aaW)(s:aeH):Bool:=aDT m s.reads&&inB s.cmd (-1) (IntKind.i64.wrap (m.cmds-1))
theorem a99(m:aaW){l:List Int}{nn:Bool}(hl:l.length≤maxLen):om'.call (.fn 62) [.agg [slv 3 true m.nS (m.sens.map ad1.cells),slv 4 false m.nV (m.votes.map abT.cells),slv 5 false m.nM (m.moves.map ac4.cells),.int .i64 m.states,.int .i64 m.cmds,.int .i64 m.bgn,slv 1 true m.nO (m.opn.map iv)],slv 1 true nn (l.map iv)] []=some (.ret (.bool (aDT m l)),[]):=by
 have hc:=aDG (l:=l) (nn:=nn) (g:=82) (cap:=[]) (p:=fun x=> !awX x) rfl rfl (fun x _=>a5X x) hl
 have q2:l.all awX= !(l.any fun x=> !awX x):=arO
 (refine ce Try.func62 ?_;simp only[Try.f62];(have hb:=trivial;with_reducible repeat' (first|simp only[hb,Vc.down,seval,bh6.down,aa9,hc]|refine fsp ?_ ?_<;>intro hb|refine fd ?_|fail)))
 all_goals simp only[aDT,q2,hb,akQ,alW]
theorem aTT(m:aaW){l:List Int}{nn:Bool}(hl:l.length≤maxLen):om'.call (.fn 24) [.agg [slv 3 true m.nS (m.sens.map ad1.cells),slv 4 false m.nV (m.votes.map abT.cells),slv 5 false m.nM (m.moves.map ac4.cells),.int .i64 m.states,.int .i64 m.cmds,.int .i64 m.bgn,slv 1 true m.nO (m.opn.map iv)],slv 1 true nn (l.map iv)] []=some (.ret (.bool (aDT m l)),[]):=by
 (refine ce Try.func24 ?_;simp only[Try.f24];(have hb:=trivial;with_reducible repeat' (first|simp only[hb,Vc.down,seval,a2D.down,aa9]|refine fsp ?_ ?_<;>intro hb|refine fd ?_|fail)))
 refine ahX (lst 24 l (fun i (zz:Unit) t h=>t 1=slv 1 true nn (l.map iv)∧t 2=.ptr 0 0 0∧t 5=.int .i64 i∧(h[0]?=some (.live 7 false false [[slv 3 true m.nS (m.sens.map ad1.cells),slv 4 false m.nV (m.votes.map abT.cells),slv 5 false m.nM (m.moves.map ac4.cells),.int .i64 m.states,.int .i64 m.cmds,.int .i64 m.bgn,slv 1 true m.nO (m.opn.map iv)]]))) (fun rest zz=>rest.all awX) (fun r e t h=>(if r=true then e=.exit 0∧t 1=slv 1 true nn (l.map iv)∧t 2=.ptr 0 0 0∧h[0]?=some (.live 7 false false [[slv 3 true m.nS (m.sens.map ad1.cells),slv 4 false m.nV (m.votes.map abT.cells),slv 5 false m.nM (m.moves.map ac4.cells),.int .i64 m.states,.int .i64 m.cmds,.int .i64 m.bgn,slv 1 true m.nO (m.opn.map iv)]])else e=.ret∧t 4=.bool false)) ?_ ?_ () _ _ ?_) (fun e t h hk=>?_)
 ·rintro _ t h Q' kQ ⟨h1,h2,h5,hA⟩
  (have hb:=trivial;with_reducible repeat' (first|simp only[hb,Vc.down,seval,a2D.down,h1,h2,h5,adE,decide_false,aa9]|refine fsp ?_ ?_<;>intro hb|refine fd ?_|fail))
  exact kQ _ _ _ (by rw[if_pos (by rfl)];exact⟨rfl,by simp[up,h1],by simp[up,h2],hA⟩)
 ·rintro x rest i _ t h J Q' kJ kQ hx hi ⟨h1,h2,h5,hA⟩
  have hd:decide ((i:Int)<(l.length:Int))=true:=decide_eq_true (by omega)
  have hw:=adL hi hl
  have hv:inB x (-10000) 10000=awX x:=rfl
  (have hb:=trivial;with_reducible repeat' (first|simp only[hb,Vc.down,seval,a2D.down,h1,h2,h5,hd,hx,hw,aGM,hv,iv,aa9]|refine fsp ?_ ?_<;>intro hb|refine fd ?_|fail))
  all_goals first
   |exact kQ _ _ _ (by rw[if_neg (by simp_all)];exact⟨rfl,by simp[up]⟩)
   |(refine adW (kJ _ _ () ⟨?_,?_,?_,hA⟩ ?_);(simp[up,h1]);(simp[up,h2]);(simp[up]);(simp_all))
 ·exact⟨by simp[up,ent],by simp[up,ent],by simp[up],rfl⟩
 split at hk
 ·obtain⟨rfl,h1,h2,hA⟩:=hk
  rename_i hr1
  have hA1:=aaO hA
  (have hb:=trivial;with_reducible repeat' (first|simp only[hb,Vc.down,seval,a2D.down,h1,h2,hA,hA1,aa9]|refine fsp ?_ ?_<;>intro hb|refine fd ?_|fail))
  all_goals simp[aDT,hr1]
 ·obtain⟨rfl,h2⟩:=hk
  rename_i hr1
  (have hb:=trivial;with_reducible repeat' (first|simp only[hb,Vc.down,seval,a2D.down,h2]|refine fsp ?_ ?_<;>intro hb|refine fd ?_|fail))
  all_goals simp[aDT,aiZ.2 hr1]
theorem aZI(m:aaW)(s:aeH)(hl:s.reads.length≤maxLen):om'.call (.fn 44) [.agg [slv 3 true m.nS (m.sens.map ad1.cells),slv 4 false m.nV (m.votes.map abT.cells),slv 5 false m.nM (m.moves.map ac4.cells),.int .i64 m.states,.int .i64 m.cmds,.int .i64 m.bgn,slv 1 true m.nO (m.opn.map iv)],.agg [slv 1 true s.nn (s.reads.map iv),.int .i64 s.cmd]] []=some (.ret (.bool (av2 m s)),[]):=by
 have hr:=a99 m (nn:=s.nn) hl
 (refine ce Try.func44 ?_;simp only[Try.f44];(have hb:=trivial;with_reducible repeat' (first|simp only[hb,Vc.down,seval,biG.down,hr,axB]|refine fsp ?_ ?_<;>intro hb|refine fd ?_|fail)))
 all_goals simp_all[av2]
theorem bc4(m:aaW)(s:aeH)(hl:s.reads.length≤maxLen):om'.call (.fn 16) [.agg [slv 3 true m.nS (m.sens.map ad1.cells),slv 4 false m.nV (m.votes.map abT.cells),slv 5 false m.nM (m.moves.map ac4.cells),.int .i64 m.states,.int .i64 m.cmds,.int .i64 m.bgn,slv 1 true m.nO (m.opn.map iv)],.agg [slv 1 true s.nn (s.reads.map iv),.int .i64 s.cmd]] []=some (.ret (.bool (av2 m s)),[]):=by
 have hr:=aTT m (nn:=s.nn) hl
 (refine ce Try.func16 ?_;simp only[Try.f16];(have hb:=trivial;with_reducible repeat' (first|simp only[hb,Vc.down,seval,biA.down,hr,aGM]|refine fsp ?_ ?_<;>intro hb|refine fd ?_|fail)))
 all_goals simp_all[av2]
def sAt(m:aaW)(k:Int):ad1:=m.sens.getD k.toNat ⟨0,0,false⟩
def rAt(l:List Int)(k:Int):Int:=l.getD k.toNat 0
theorem aA3{m:aaW}{k:Int}(h:k.toNat<m.sens.length):m.sens[k.toNat]?=some (sAt m k):=by
 simp[sAt,List.getD,auT h]
theorem aPV{l:List Int}{k:Int}(h:k.toNat<l.length):l[k.toNat]?=some (rAt l k):=by
 simp[rAt,List.getD,auT h]
def aDR(m:aaW)(v:abT)(l:List Int):List Int→Int→Int
 | [],c=>c
 |k::ks,c=>aDR m v l ks (if aw5 (sAt m k) v (rAt l k)=true then IntKind.i64.wrap (c+1)else c)
def aON(m:aaW)(l:List Int)(v:abT):Bool:=decide (v.need≤aDR m v l v.sens 0)
def Idx(m:aaW)(l:List Int):Prop:=∀k∈l,0≤k∧k.toNat<m.sens.length
theorem aWN{n:Nat}(hn:n≤6):∀{l:List Int} {p:Option Int},as7 n l p=true→∀k∈l,0≤k∧k.toNat<n
 | [],_,_,k,h=>by cases h
 |x::l,p,h,k,hk=>by
  simp only[as7,adJ]at h
  rcases List.mem_cons.1 hk with rfl|hk
  ·have:=h.1.1
   rw[ajR (by omega) (by omega)]at this
   simp[inB]at this
   omega
  ·exact aWN hn h.2 k hk
theorem aFW{m:aaW}(h:adZ m=true):∀v∈m.votes,Idx m v.sens:=fun v hv=>by
 simp only[adZ,aw0,adJ,decide_eq_true_eq,arP]at h
 have h2:=h.1.1.2 v hv
 simp only[ay9,adJ]at h2
 exact aWN h.1.1.1.1.1.1.1.1.1.1 h2.1.1
def orN(a b:Int):Int:=IntKind.i64.wrap ((BitVec.ofInt 64 a|||BitVec.ofInt 64 b).toNat:Int)
theorem aNQ(ty:TypeId)(a b:Int):avL Try.prog .or ty (.int .i64 a) (.int .i64 b)=some (.int .i64 (orN a b)):=by
 show(if IntKind.i64=IntKind.i64 then auZ .or .i64 a b else none)=_
 rw[if_pos rfl];rfl
def axF(m:aaW)(l:List Int):List abT→Nat→Int→Int
 | [],_,b=>b
 |v::vs,i,b=>axF m l vs (i+1) (if aON m l v=true then orN b (aSM i)else b)
theorem aFZ(m:aaW){l:List Int}{nn:Bool}(hl:l.length=m.sens.length)(hs:m.small)(hi:∀v∈m.votes,Idx m v.sens):om'.call (.fn 46) [.agg [slv 3 true m.nS (m.sens.map ad1.cells),slv 4 false m.nV (m.votes.map abT.cells),slv 5 false m.nM (m.moves.map ac4.cells),.int .i64 m.states,.int .i64 m.cmds,.int .i64 m.bgn,slv 1 true m.nO (m.opn.map iv)],slv 1 true nn (l.map iv)] []=some (.ret (.int .i64 (axF m l m.votes 0 0)),[]):=by
 have hI:=hi
 clear hi
 (refine ce Try.func46 ?_;simp only[Try.f46];(have hb:=trivial;with_reducible repeat' (first|simp only[hb,Vc.down,seval,aFP.down,aa9]|refine fsp ?_ ?_<;>intro hb|refine fd ?_|fail)))
 refine ahX (lst 50 m.votes (fun i (zz:Nat × Int) t h=>t 1=slv 1 true nn (l.map iv)∧t 2=.ptr 0 0 0∧t 12=slv 4 false m.nV (m.votes.map abT.cells)∧t 13=.int .i64 m.votes.length∧t 14=.int .i64 i∧t 5=.int .i64 zz.2∧(h[0]?=some (.live 7 false false [[slv 3 true m.nS (m.sens.map ad1.cells),slv 4 false m.nV (m.votes.map abT.cells),slv 5 false m.nM (m.moves.map ac4.cells),.int .i64 m.states,.int .i64 m.cmds,.int .i64 m.bgn,slv 1 true m.nO (m.opn.map iv)]])∧i=zz.1)) (fun rest zz=>axF m l rest zz.1 zz.2) (fun r e t h=>e=.exit 0∧t 5=.int .i64 r) ?_ ?_ (0,0) _ _ ?_) (fun e t h hk=>?_)
 ·rintro⟨k,b⟩ t h Q' kQ ⟨h1,h2,h12,h13,h14,h5,⟨hA,rfl⟩⟩
  try dsimp only at *
  (have hb:=trivial;with_reducible repeat' (first|simp only[hb,Vc.down,seval,aFP.down,h1,h2,h12,h13,h14,h5,adE,decide_false]|refine fsp ?_ ?_<;>intro hb|refine fd ?_|fail))
  exact kQ _ _ _ ⟨rfl,by simp[up,h5,axF]⟩
 ·rintro x rest i ⟨k,b⟩ t h J Q' kJ kQ hx hi ⟨h1,h2,h12,h13,h14,h5,⟨hA,rfl⟩⟩
  have hd:decide ((i:Int)<(m.votes.length:Int))=true:=decide_eq_true (by omega)
  have hw:=adL hi hs.votes
  try dsimp only at *
  have hA1:=aaO hA
  have hvs:=hs.vs x (aeU hx)
  have hIx:=hI x (aeU hx)
  obtain⟨w,rfl⟩:∃w,w=x:=⟨_,rfl⟩
  obtain⟨k,rfl⟩:∃k,k=i:=⟨_,rfl⟩
  obtain⟨hL,hLe⟩:∃hL,hL=h.length:=⟨_,rfl⟩
  (have hb:=trivial;with_reducible repeat' (first|simp only[hb,Vc.down,seval,aFP.down,h1,h2,h12,h13,h14,h5,hd,hx,hw,hA1,abT.cells,aa9]|refine fsp ?_ ?_<;>intro hb|refine fd ?_|fail))
  refine ahX (lst 50 w.sens (fun i (zz:Int) t h=>t 1=slv 1 true nn (l.map iv)∧t 2=.ptr 0 0 0∧t 12=slv 4 false m.nV (m.votes.map abT.cells)∧t 13=.int .i64 m.votes.length∧t 14=.int .i64 (k:Int)∧t 5=.int .i64 b∧t 6=.int .i64 (k:Int)∧t 7=.ptr hL 0 0∧t 20=slv 1 true w.nn (w.sens.map iv)∧t 21=.int .i64 w.sens.length∧t 22=.int .i64 i∧t 8=.int .i64 zz∧(h[0]?=some (.live 7 false false [[slv 3 true m.nS (m.sens.map ad1.cells),slv 4 false m.nV (m.votes.map abT.cells),slv 5 false m.nM (m.moves.map ac4.cells),.int .i64 m.states,.int .i64 m.cmds,.int .i64 m.bgn,slv 1 true m.nO (m.opn.map iv)]])∧∃wf,h[hL]?=some (.live 4 false wf [[slv 1 true w.nn (w.sens.map iv),.int .i64 w.need,.int .i64 w.level,.bool w.above]]))) (fun rest zz=>aDR m w l rest zz) (fun r e t h=>e=.exit 2∧t 1=slv 1 true nn (l.map iv)∧t 2=.ptr 0 0 0∧t 12=slv 4 false m.nV (m.votes.map abT.cells)∧t 13=.int .i64 m.votes.length∧t 14=.int .i64 (k:Int)∧t 5=.int .i64 b∧t 6=.int .i64 (k:Int)∧t 7=.ptr hL 0 0∧t 8=.int .i64 r∧h[0]?=some (.live 7 false false [[slv 3 true m.nS (m.sens.map ad1.cells),slv 4 false m.nV (m.votes.map abT.cells),slv 5 false m.nM (m.moves.map ac4.cells),.int .i64 m.states,.int .i64 m.cmds,.int .i64 m.bgn,slv 1 true m.nO (m.opn.map iv)]])∧∃wf,h[hL]?=some (.live 4 false wf [[slv 1 true w.nn (w.sens.map iv),.int .i64 w.need,.int .i64 w.level,.bool w.above]])) ?_ ?_ (0) _ _ ?_) (fun e tC hC hk=>?_)
  ·rintro c t h Q' kQ ⟨h1,h2,h12,h13,h14,h5,h6,h7,h20,h21,h22,h8,⟨hA,wf,hB⟩⟩
   (have hb:=trivial;with_reducible repeat' (first|simp only[hb,Vc.down,seval,aFP.down,h1,h2,h12,h13,h14,h5,h6,h7,h20,h21,h22,h8,adE,decide_false]|refine fsp ?_ ?_<;>intro hb|refine fd ?_|fail))
   exact kQ _ _ _ ⟨rfl,by simp[up,h1],by simp[up,h2],by simp[up,h12],by simp[up,h13],by simp[up,h14],by simp[up,h5],by simp[up,h6],by simp[up,h7],by simp[up,h8,aDR],hA,wf,hB⟩
  ·rintro x rest i c t h J Q' kJ kQ hx hi ⟨h1,h2,h12,h13,h14,h5,h6,h7,h20,h21,h22,h8,⟨hA,wf,hB⟩⟩
   have hd:decide ((i:Int)<(w.sens.length:Int))=true:=decide_eq_true (by omega)
   have hw:=adL hi hvs
   obtain⟨k0,k1⟩:=hIx x (aeU hx)
   have hrr:=aPV (l:=l) (k:=x) (by omega)
   have hss:=aA3 k1
   have h0':(0≤x)=True:=eq_true k0
   have hS:=aO6 (sAt m x) w (rAt l x)
   generalize hq:aw5 (sAt m x) w (rAt l x)=q at hS
   generalize sAt m x=s at hss hS
   (have hb:=trivial;with_reducible repeat' (first|simp only[hb,Vc.down,seval,aFP.down,h1,h2,h7,h8,h20,h21,h22,hd,hx,hw,hrr,hss,h0',hA,hB,hS,iv,ad1.cells,aa9]|refine fsp ?_ ?_<;>intro hb|refine fd ?_|fail))
   all_goals (refine adW (kJ _ _ (if q=true then IntKind.i64.wrap (c+1)else c) ⟨?_,?_,?_,?_,?_,?_,?_,?_,?_,?_,?_,?_,⟨hA,wf,hB⟩⟩ ?_);(simp[up,h1]);(simp[up,h2]);(simp[up,h12]);(simp[up,h13]);(simp[up,h14]);(simp[up,h5]);(simp[up,h6]);(simp[up,h7]);(simp[up,h20]);(simp[up,h21]);(simp[up]);(simp[up,h8,hb]);(simp[aDR,hq]))
  ·exact⟨by simp[up,ent,h1,h2,h12,h13,h14,h5,hLe],by simp[up,ent,h1,h2,h12,h13,h14,h5,hLe],by simp[up,ent,h1,h2,h12,h13,h14,h5,hLe],by simp[up,ent,h1,h2,h12,h13,h14,h5,hLe],by simp[up,ent,h1,h2,h12,h13,h14,h5,hLe],by simp[up,ent,h1,h2,h12,h13,h14,h5,hLe],by simp[up,ent,h1,h2,h12,h13,h14,h5,hLe],by simp[up,ent,h1,h2,h12,h13,h14,h5,hLe],by simp[up,ent,h1,h2,h12,h13,h14,h5,hLe],by simp[up,ent,h1,h2,h12,h13,h14,h5,hLe],by simp[up],by simp[up,ent,h1,h2,h12,h13,h14,h5,hLe],⟨hA1 _,true,by rw[hLe];simp⟩⟩
  ·obtain⟨rfl,h1,h2,h12,h13,h14,h5,h6,h7,h8,hA,wf,hB⟩:=hk
   have hy:decide (w.need≤aDR m w l w.sens 0)=aON m l w:=rfl
   (have hb:=trivial;with_reducible repeat' (first|simp only[hb,Vc.down,seval,aFP.down,h1,h2,h12,h13,h14,h5,h6,h7,h8,hA,hB,hw,hy,aNQ]|refine fsp ?_ ?_<;>intro hb|refine fd ?_|fail))
   all_goals (refine adW (kJ _ _ (k+1,(if aON m l w=true then orN b (aSM k)else b)) ⟨?_,?_,?_,?_,?_,?_,⟨hA,rfl⟩⟩ ?_);(simp[up,h1]);(simp[up,h2]);(simp[up,h12]);(simp[up,h13]);(simp[up]);(simp[up,h5,hb]);(simp[axF]))
 ·exact⟨by simp[up,ent],by simp[up,ent],by simp[up,ent],by simp[up,ent],by simp[up],by simp[up,ent],⟨rfl,rfl⟩⟩
 obtain⟨rfl,h5⟩:=hk
 (have hb:=trivial;with_reducible repeat' (first|simp only[hb,Vc.down,seval,aFP.down,h5]|refine fsp ?_ ?_<;>intro hb|refine fd ?_|fail))
theorem au8{h:aaL}{b:Nat}(hb:b<h.length)(l:aaL)(c:CB):(h++l).set b c=h.set b c++l:=List.set_append_left _ _ hb
theorem avH{h:aaL}{b:Nat}(c:CB)(l:aaL):(h.set b c++l)[h.length]?=l[0]?:=by
 have:=aVD (h.set b c) l
 rwa[au3]at this
theorem arQ{h:aaL}{b:Nat}(c:CB)(l:aaL)(k:Nat):(h.set b c++l)[h.length+k]?=l[k]?:=by
 have:=aU6 (h.set b c) l k
 rwa[au3]at this
theorem aw3{h:aaL}{b b':Nat}{x:CB}(c:CB)(hne:b≠b')(hb:h[b']?=some x)(l:aaL):(h.set b c++l)[b']?=some x:=by
 rw[ayB (by rw[au3];exact(awE.1 hb).1),ajP hne];exact hb
def ax0:List Bool→Nat→Int→Int
 | [],_,b=>b
 |v::vs,i,b=>ax0 vs (i+1) (if v=true then orN b (aSM i)else b)
theorem aJE(m:aaW)(l:List Int):∀(vs:List abT) (i:Nat) (b:Int),axF m l vs i b=ax0 (vs.map (aON m l)) i b
 | [],_,_=>rfl
 |v::vs,i,b=>by simp only[axF,List.map_cons,ax0];exact aJE m l vs _ _
def axG(b v:Int):Bool:=baG (a7N b v.toNat)==1
theorem a3E:∀(l:List Bool),l.length≤6→∀i:Nat,i<l.length→l[i]?=some (axG (ax0 l 0 0) i)
 | [],_,i,h=>by simp at h
 | [a],_,i,h=>by
   have:∀a:Bool,∀i:Fin 1,[a][i.val]?=some (axG (ax0 [a] 0 0) (i.val:Nat)):=by decide+kernel
   exact this a ⟨i,h⟩
 | [a,b],_,i,h=>by
   have:∀a b:Bool,∀i:Fin 2,[a,b][i.val]?=some (axG (ax0 [a,b] 0 0) (i.val:Nat)):=by decide+kernel
   exact this a b ⟨i,h⟩
 | [a,b,c],_,i,h=>by
   have:∀a b c:Bool,∀i:Fin 3,[a,b,c][i.val]?=some (axG (ax0 [a,b,c] 0 0) (i.val:Nat)):=by decide+kernel
   exact this a b c ⟨i,h⟩
 | [a,b,c,d],_,i,h=>by
   have:∀a b c d:Bool,∀i:Fin 4,[a,b,c,d][i.val]?=some (axG (ax0 [a,b,c,d] 0 0) (i.val:Nat)):=by decide+kernel
   exact this a b c d ⟨i,h⟩
 | [a,b,c,d,e],_,i,h=>by
   have:∀a b c d e:Bool,∀i:Fin 5,[a,b,c,d,e][i.val]?=some (axG (ax0 [a,b,c,d,e] 0 0) (i.val:Nat)):=by decide+kernel
   exact this a b c d e ⟨i,h⟩
 | [a,b,c,d,e,f],_,i,h=>by
   have:∀a b c d e f:Bool,∀i:Fin 6,[a,b,c,d,e,f][i.val]?=some (axG (ax0 [a,b,c,d,e,f] 0 0) (i.val:Nat)):=by decide+kernel
   exact this a b c d e f ⟨i,h⟩
 |_::_::_::_::_::_::_::_,h,_,_=>by simp only[ayC]at h;omega
theorem aUL(a b:Bool):avL Try.prog .neq 4 (.bool a) (.bool b)=some (.bool (!(a==b))):=by cases a<;>cases b<;>kernel_rfl
structure awC where
 frm:Int
 to:Int
 nn:Bool
 wants:List acI
 cmd:Int
 after:Int
 st:Int
 ag:Int
 bits:Int
 com:Int
theorem aTL(n:awC):om'.call (.fn 92) [.agg [.int .i64 n.frm,.int .i64 n.to,slv 2 true n.nn (n.wants.map acI.cells),.int .i64 n.cmd,.int .i64 n.after,.int .i64 n.st,.int .i64 n.ag,.int .i64 n.bits,.int .i64 n.com]] []=some (.ret (.bool (n.frm==n.st)),[]):=by
 (refine ce Try.func92 ?_;simp only[Try.f92];(have hb:=trivial;with_reducible repeat' (first|simp only[hb,Vc.down,seval,bfY.down]|refine fsp ?_ ?_<;>intro hb|refine fd ?_|fail)))
theorem a00(n:awC):om'.call (.fn 93) [.agg [.int .i64 n.frm,.int .i64 n.to,slv 2 true n.nn (n.wants.map acI.cells),.int .i64 n.cmd,.int .i64 n.after,.int .i64 n.st,.int .i64 n.ag,.int .i64 n.bits,.int .i64 n.com]] []=some (.ret (.bool (decide (n.after≤n.ag))),[]):=by
 (refine ce Try.func93 ?_;simp only[Try.f93];(have hb:=trivial;with_reducible repeat' (first|simp only[hb,Vc.down,seval,be0.down]|refine fsp ?_ ?_<;>intro hb|refine fd ?_|fail)))
theorem aUG(n:awC):om'.call (.fn 95) [.agg [.int .i64 n.frm,.int .i64 n.to,slv 2 true n.nn (n.wants.map acI.cells),.int .i64 n.cmd,.int .i64 n.after,.int .i64 n.st,.int .i64 n.ag,.int .i64 n.bits,.int .i64 n.com]] []=some (.ret (.bool (n.cmd== -1||n.cmd==n.com)),[]):=by
 (refine ce Try.func95 ?_;simp only[Try.f95];(have hb:=trivial;with_reducible repeat' (first|simp only[hb,Vc.down,seval,bgX.down]|refine fsp ?_ ?_<;>intro hb|refine fd ?_|fail)))
 all_goals simp_all
theorem aG1(n:awC)(w:acI)(h0:0≤w.vote):om'.call (.fn 99) [.agg [.int .i64 w.vote,.bool w.is],.ptr 0 0 0] [.live 9 false false [[.int .i64 n.frm,.int .i64 n.to,slv 2 true n.nn (n.wants.map acI.cells),.int .i64 n.cmd,.int .i64 n.after,.int .i64 n.st,.int .i64 n.ag,.int .i64 n.bits,.int .i64 n.com]]]=some (.ret (.bool (!(axG n.bits w.vote==w.is))),[.live 9 false false [[.int .i64 n.frm,.int .i64 n.to,slv 2 true n.nn (n.wants.map acI.cells),.int .i64 n.cmd,.int .i64 n.after,.int .i64 n.st,.int .i64 n.ag,.int .i64 n.bits,.int .i64 n.com]]]):=by
 obtain⟨v,is⟩:=w
 obtain⟨k,hk⟩:∃k:Nat,v=k:=⟨v.toNat,by simp at h0;omega⟩
 subst hk
 (refine ce Try.func99 ?_;simp only[Try.f99];(have hb:=trivial;with_reducible repeat' (first|simp only[hb,Vc.down,seval,beU.down,aUL]|refine fsp ?_ ?_<;>intro hb|refine fd ?_|fail)))
 all_goals simp[axG]
theorem aEM{l:List acI}{nn:Bool}{g:Nat}{ndq:awC}{p:acI→Bool}(hp:∀x∈l,om'.call (.fn g) (.agg [.int .i64 x.vote,.bool x.is]::[.ptr 0 0 0]) [.live 9 false false [[.int .i64 ndq.frm,.int .i64 ndq.to,slv 2 true ndq.nn (ndq.wants.map acI.cells),.int .i64 ndq.cmd,.int .i64 ndq.after,.int .i64 ndq.st,.int .i64 ndq.ag,.int .i64 ndq.bits,.int .i64 ndq.com]]]=some (.ret (.bool (p x)),[.live 9 false false [[.int .i64 ndq.frm,.int .i64 ndq.to,slv 2 true ndq.nn (ndq.wants.map acI.cells),.int .i64 ndq.cmd,.int .i64 ndq.after,.int .i64 ndq.st,.int .i64 ndq.ag,.int .i64 ndq.bits,.int .i64 ndq.com]]]))(hl:l.length≤maxLen)(hgm:om'.md g=false:=by exact rfl):
 om'.call (.fn 98) [slv 2 true nn (l.map acI.cells),.func (.func g) [] [.ptr 0 0 0]] [.live 9 false false [[.int .i64 ndq.frm,.int .i64 ndq.to,slv 2 true ndq.nn (ndq.wants.map acI.cells),.int .i64 ndq.cmd,.int .i64 ndq.after,.int .i64 ndq.st,.int .i64 ndq.ag,.int .i64 ndq.bits,.int .i64 ndq.com]]]=some (.ret (.int .i64 (idx p l 0)),[.live 9 false false [[.int .i64 ndq.frm,.int .i64 ndq.to,slv 2 true ndq.nn (ndq.wants.map acI.cells),.int .i64 ndq.cmd,.int .i64 ndq.after,.int .i64 ndq.st,.int .i64 ndq.ag,.int .i64 ndq.bits,.int .i64 ndq.com]]]):=by
 (refine ce Try.func98 ?_;simp only[Try.f98];(have hb:=trivial;with_reducible repeat' (first|simp only[hb,Vc.down,seval,aAN.down,aa9]|refine fsp ?_ ?_<;>intro hb|refine fd ?_|fail)))
 refine ahX (lst 19 l (fun i (s:Int) t h=>s=i∧h=[.live 9 false false [[.int .i64 ndq.frm,.int .i64 ndq.to,slv 2 true ndq.nn (ndq.wants.map acI.cells),.int .i64 ndq.cmd,.int .i64 ndq.after,.int .i64 ndq.st,.int .i64 ndq.ag,.int .i64 ndq.bits,.int .i64 ndq.com]]]∧t 0=slv 2 true nn (l.map acI.cells)∧t 1=.func (.func g) [] [.ptr 0 0 0]∧t 7=.int .i64 l.length∧t 8=.int .i64 i)
  (fun rest s=>idx p rest s) (fun r e t h=>h=[.live 9 false false [[.int .i64 ndq.frm,.int .i64 ndq.to,slv 2 true ndq.nn (ndq.wants.map acI.cells),.int .i64 ndq.cmd,.int .i64 ndq.after,.int .i64 ndq.st,.int .i64 ndq.ag,.int .i64 ndq.bits,.int .i64 ndq.com]]]∧((e=.exit 0∧r= -1)∨(e=.ret∧t 4=.int .i64 r))) ?_ ?_ 0 _ _ ?_) (fun e t h hk=>?_)
 ·rintro s t h Q' kQ ⟨rfl,rfl,h0,h1,h7,h8⟩
  (have hb:=trivial;with_reducible repeat' (first|simp only[hb,Vc.down,seval,aAN.down,h0,h1,h7,h8,adE,decide_false]|refine fsp ?_ ?_<;>intro hb|refine fd ?_|fail))
  exact kQ _ _ _ ⟨rfl,.inl ⟨rfl,rfl⟩⟩
 ·rintro x rest i s t h J Q' kJ kQ hx hi ⟨rfl,rfl,h0,h1,h7,h8⟩
  have hgm2:=hgm
  simp only[aB2,awM,awY,Bool.or_false]at hgm2
  have hpx:=hp x (aeU hx)
  have hd:decide ((i:Int)<(l.length:Int))=true:=by simpa using hi
  (have hb:=trivial;with_reducible repeat' (first|simp only[hb,Vc.down,seval,aAN.down,h0,h1,h7,h8,hd,hx,acI.cells,hpx,hgm2,adL hi hl]|refine fsp ?_ ?_<;>intro hb|refine fd ?_|fail))
  ·exact kQ _ _ _ ⟨rfl,.inr ⟨rfl,by simp[up,idx,hb]⟩⟩
  ·exact adW (kJ _ _ (i+1) ⟨by simp,rfl,by simp[up,h0],by simp[up,h1],by simp[up,h7],by simp[up]⟩ (by simp[idx,hb]))
 ·exact⟨rfl,rfl,by simp[up,ent],by simp[up,ent],by simp[up],by simp[up]⟩
 ·obtain⟨rfl,⟨rfl,hi⟩|⟨rfl,hi⟩⟩:=hk
  ·(have hb:=trivial;with_reducible repeat' (first|simp only[hb,Vc.down,seval,aAN.down]|refine fsp ?_ ?_<;>intro hb|refine fd ?_|fail))
   rw[hi]
  ·(have hb:=trivial;with_reducible repeat' (first|simp only[hb,Vc.down,seval,aAN.down,hi]|refine fsp ?_ ?_<;>intro hb|refine fd ?_|fail))
theorem aB7{l:List acI}{nn:Bool}{g:Nat}{ndq:awC}{p:acI→Bool}(hp:∀x∈l,om'.call (.fn g) (.agg [.int .i64 x.vote,.bool x.is]::[.ptr 0 0 0]) [.live 9 false false [[.int .i64 ndq.frm,.int .i64 ndq.to,slv 2 true ndq.nn (ndq.wants.map acI.cells),.int .i64 ndq.cmd,.int .i64 ndq.after,.int .i64 ndq.st,.int .i64 ndq.ag,.int .i64 ndq.bits,.int .i64 ndq.com]]]=some (.ret (.bool (p x)),[.live 9 false false [[.int .i64 ndq.frm,.int .i64 ndq.to,slv 2 true ndq.nn (ndq.wants.map acI.cells),.int .i64 ndq.cmd,.int .i64 ndq.after,.int .i64 ndq.st,.int .i64 ndq.ag,.int .i64 ndq.bits,.int .i64 ndq.com]]]))(hl:l.length≤maxLen)(hgm:om'.md g=false:=by exact rfl):
 om'.call (.fn 89) [slv 2 true nn (l.map acI.cells),.func (.func g) [] [.ptr 0 0 0]] [.live 9 false false [[.int .i64 ndq.frm,.int .i64 ndq.to,slv 2 true ndq.nn (ndq.wants.map acI.cells),.int .i64 ndq.cmd,.int .i64 ndq.after,.int .i64 ndq.st,.int .i64 ndq.ag,.int .i64 ndq.bits,.int .i64 ndq.com]]]=some (.ret (.bool (l.any p)),[.live 9 false false [[.int .i64 ndq.frm,.int .i64 ndq.to,slv 2 true ndq.nn (ndq.wants.map acI.cells),.int .i64 ndq.cmd,.int .i64 ndq.after,.int .i64 ndq.st,.int .i64 ndq.ag,.int .i64 ndq.bits,.int .i64 ndq.com]]]):=by
 (refine ce Try.func89 ?_;simp only[Try.f89];(have hb:=trivial;with_reducible repeat' (first|simp only[hb,Vc.down,seval,aEM hp hl hgm,awG p l 0 (as6 0)]|refine fsp ?_ ?_<;>intro hb|refine fd ?_|fail)))
def aBJ(bits:Int)(l:List acI):Bool:=l.all fun w=>axG bits w.vote==w.is
theorem aLG(n:awC)(hl:n.wants.length≤maxLen)(h0:∀w∈n.wants,0≤w.vote):om'.call (.fn 94) [.agg [.int .i64 n.frm,.int .i64 n.to,slv 2 true n.nn (n.wants.map acI.cells),.int .i64 n.cmd,.int .i64 n.after,.int .i64 n.st,.int .i64 n.ag,.int .i64 n.bits,.int .i64 n.com]] []=some (.ret (.bool (aBJ n.bits n.wants)),[]):=by
 have hc:=aB7 (ndq:=n) (l:=n.wants) (nn:=n.nn) (g:=99) (p:=fun w=> !(axG n.bits w.vote==w.is)) (fun w hw=>aG1 n w (h0 w hw)) hl
 have q1:aBJ n.bits n.wants= !(n.wants.any fun w=> !(axG n.bits w.vote==w.is)):=arO
 (refine ce Try.func94 ?_;simp only[Try.f94];(have hb:=trivial;with_reducible repeat' (first|simp only[hb,Vc.down,seval,bgJ.down,hc]|refine fsp ?_ ?_<;>intro hb|refine fd ?_|fail)))
 all_goals simp[q1]
theorem a24(f0 f1 f2 f3:Fn)(a0 a1 a2 a3 c0 c1 c2 c3:List AV):ayD Try.prog 155 [(0,.func f0 a0 c0),(1,.func f1 a1 c1),(2,.func f2 a2 c2),(3,.func f3 a3 c3)]=some (.agg [.func f0 a0 c0,.func f1 a1 c1,.func f2 a2 c2,.func f3 a3 c3]):=by kernel_rfl
theorem aSG(a b c d:AV):ayG Try.prog 155 (.agg [a,b,c,d]) (.int .i64 0)=some a:=by kernel_rfl
theorem aP9(a b c d:AV):ayG Try.prog 155 (.agg [a,b,c,d]) (.int .i64 1)=some b:=by kernel_rfl
theorem aSK(a b c d:AV):ayG Try.prog 155 (.agg [a,b,c,d]) (.int .i64 2)=some c:=by kernel_rfl
theorem aQ0(a b c d:AV):ayG Try.prog 155 (.agg [a,b,c,d]) (.int .i64 3)=some d:=by kernel_rfl
def aO4(n:awC):Bool:=(n.frm==n.st)&&decide (n.after≤n.ag)&&aBJ n.bits n.wants&&(n.cmd== -1||n.cmd==n.com)
theorem w2:IntKind.i64.wrap 2=2:=Eq.trans rfl rfl
theorem w3:IntKind.i64.wrap 3=3:=Eq.trans rfl rfl
theorem w4:IntKind.i64.wrap 4=4:=Eq.trans rfl rfl
theorem aG2(n:awC)(hl:n.wants.length≤maxLen)(h0:∀w∈n.wants,0≤w.vote):om'.call (.fn 75) [.agg [.int .i64 n.frm,.int .i64 n.to,slv 2 true n.nn (n.wants.map acI.cells),.int .i64 n.cmd,.int .i64 n.after,.int .i64 n.st,.int .i64 n.ag,.int .i64 n.bits,.int .i64 n.com]] []=some (.ret (.bool (aO4 n)),[]):=by
 have q1:=aTL n
 have q2:=a00 n
 have q3:=aLG n hl h0
 have q4:=aUG n
 (refine ce Try.func75 ?_;simp only[Try.f75];(have hb:=trivial;with_reducible repeat' (first|simp only[hb,Vc.down,seval,a6G.down,a24,aSG,aP9,aSK,aQ0,q1,q2,q3,q4,w2,w3,w4]|refine fsp ?_ ?_<;>intro hb|refine fd ?_|fail)))
 (have hb:=trivial;with_reducible repeat' (first|simp only[hb,Vc.down,seval,a6G.down,a24,aSG,aP9,aSK,aQ0,q1,q2,q3,q4,w2,w3,w4]|refine fsp ?_ ?_<;>intro hb|refine fd ?_|refine bcK ?_|fail))
 all_goals (refine congrArg (fun b=>(Out.ret (AV.bool b),([]:aaL))) ?_;symm;((try simp only[ayE,anK,anU]at *);simp only[aO4, *,ayR,alW,at6,akQ,Bool.and_self,Bool.not_not,anK,anU,am1,List.all_nil]))
def nd(x:ac4)(st ag bits com:Int):awC:=⟨x.frm,x.to,x.nn,x.wants,x.cmd,x.after,st,ag,bits,com⟩
def aL0(a:Int):Int:=if IntKind.i64.wrap (a+1)<10 then IntKind.i64.wrap (a+1)else 10
def axD(st ag bits com:Int):List ac4→Int × Int
 | []=>(st,aL0 ag)
 |x::l=>if aO4 (nd x st ag bits com)=true then(x.to,0)else axD st ag bits com l
theorem aPC(m:aaW)(st ag bits com:Int)(hs:m.small)(h0:∀x∈m.moves,∀w∈x.wants,0≤w.vote):
 om'.call (.fn 45) [.agg [slv 3 true m.nS (m.sens.map ad1.cells),slv 4 false m.nV (m.votes.map abT.cells),slv 5 false m.nM (m.moves.map ac4.cells),.int .i64 m.states,.int .i64 m.cmds,.int .i64 m.bgn,slv 1 true m.nO (m.opn.map iv)],.agg [.int .i64 st,.int .i64 ag],.agg [.int .i64 bits,.int .i64 com]] []=some (.ret (.agg [.int .i64 (axD st ag bits com m.moves).1,.int .i64 (axD st ag bits com m.moves).2]),[]):=by
 (refine ce Try.func45 ?_;simp only[Try.f45];(have hb:=trivial;with_reducible repeat' (first|simp only[hb,Vc.down,seval,aL5.down,aa9]|refine fsp ?_ ?_<;>intro hb|refine fd ?_|fail)))
 refine ahX (lst 32 m.moves (fun i (zz:Unit) t h=>t 4=.ptr 1 0 0∧t 5=.ptr 2 0 0∧t 6=.ptr 3 0 0∧t 10=slv 5 false m.nM (m.moves.map ac4.cells)∧t 11=.int .i64 m.moves.length∧t 12=.int .i64 i∧(h[1]?=some (.live 2 true false [[.int .i64 st,.int .i64 ag]])∧h[2]?=some (.live 2 true false [[.int .i64 bits,.int .i64 com]])∧h[3]?=some (.live 2 true false [[.int .i64 0,.int .i64 0]]))) (fun rest zz=>axD st ag bits com rest) (fun r e t h=>(e=.exit 0∧t 4=.ptr 1 0 0∧t 6=.ptr 3 0 0∧h[1]?=some (.live 2 true false [[.int .i64 st,.int .i64 ag]])∧h[3]?=some (.live 2 true false [[.int .i64 0,.int .i64 0]])∧r=(st,aL0 ag))∨(e=.ret∧t 6=.ptr 3 0 0∧h[3]?=some (.live 2 true true [[.int .i64 r.1,.int .i64 r.2]]))) ?_ ?_ () _ _ ?_) (fun e t h hk=>?_)
 ·rintro _ t h Q' kQ ⟨h4,h5,h6,h10,h11,h12,⟨hA,hB,hC⟩⟩
  (have hb:=trivial;with_reducible repeat' (first|simp only[hb,Vc.down,seval,aL5.down,h4,h5,h6,h10,h11,h12,adE,decide_false]|refine fsp ?_ ?_<;>intro hb|refine fd ?_|fail))
  exact kQ _ _ _ (.inl ⟨rfl,by simp[up,h4],by simp[up,h6],hA,hC,rfl⟩)
 ·rintro x rest i _ t h J Q' kJ kQ hx hi ⟨h4,h5,h6,h10,h11,h12,⟨hA,hB,hC⟩⟩
  have hd:decide ((i:Int)<(m.moves.length:Int))=true:=decide_eq_true (by omega)
  have hw:=adL hi hs.moves
  have hA1:=aaO hA
  have hB1:=aaO hB
  have hC1:=aaO hC
  have hap:=aG2 (nd x st ag bits com) (hs.ws x (aeU hx)) (h0 x (aeU hx))
  have h3l:3<h.length:=(awE.1 hC).1
  generalize hq:aO4 (nd x st ag bits com)=q at hap
  simp only[nd]at hap
  (have hb:=trivial;with_reducible repeat' (first|simp only[hb,Vc.down,seval,aL5.down,h4,h5,h6,h10,h11,h12,hd,hx,hw,hA1,hB1,hC1,hap,ac4.cells,aa9]|refine fsp ?_ ?_<;>intro hb|refine fd ?_|fail))
  ·exact kQ _ _ _ (.inr ⟨rfl,by simp[up,h6],by rw[ajS (by simp;omega)];simp[axD,hq,hb]⟩)
  ·(refine adW (kJ _ _ () ⟨?_,?_,?_,?_,?_,?_,⟨hA1 _,hB1 _,hC1 _⟩⟩ ?_);(simp[up,h4]);(simp[up,h5]);(simp[up,h6]);(simp[up,h10]);(simp[up,h11]);(simp[up]);(simp[axD,hq,hb]))
 ·exact⟨by simp[up,ent],by simp[up,ent],by simp[up,ent],by simp[up,ent],by simp[up,ent],by simp[up],⟨rfl,rfl,rfl⟩⟩
 rcases hk with⟨rfl,h4,h6,hA,hC,hr⟩|⟨rfl,h6,hC⟩
 ·have hA1:=aaO hA
  have hC1:=aaO hC
  have h3l:3<h.length:=(awE.1 hC).1
  have hset:∀c:CB,(h.set 3 c)[3]?=some c:=fun c=>ajS h3l
  have hmt:(if IntKind.i64.wrap (ag+1)<10 then IntKind.i64.wrap (ag+1)else 10)=aL0 ag:=rfl
  rw[hr]
  (have hb:=trivial;with_reducible repeat' (first|simp only[hb,Vc.down,seval,aL5.down,h4,h6,hA,hC,hA1,hC1,hset,hmt]|refine fsp ?_ ?_<;>intro hb|refine fd ?_|fail))
 ·(have hb:=trivial;with_reducible repeat' (first|simp only[hb,Vc.down,seval,aL5.down,h6,hC]|refine fsp ?_ ?_<;>intro hb|refine fd ?_|fail))
theorem aNX{m:aaW}(h:adZ m=true):∀x∈m.moves,∀w∈x.wants,0≤w.vote∧w.vote.toNat<m.votes.length:=fun x hx w hw=>by
 simp only[adZ,aw0,adJ,decide_eq_true_eq,arP]at h
 have h2:=h.1.2 x hx
 simp only[avG,adJ]at h2
 have h3:=h2.1.1.1.1.1
 have h6:m.votes.length≤6:=h.1.1.1.1.1.1.1.1.1.2
 have key:∀(l p:List acI),au1 m.votes.length p l=true→w∈l→0≤w.vote∧w.vote.toNat<m.votes.length:=by
  intro l
  induction l with
  |nil=>intro p _ h;cases h
  |cons y l ih=>
   intro p h hm
   simp only[au1,adJ]at h
   rcases List.mem_cons.1 hm with rfl|hm
   ·have:=h.1.1
    rw[ajR (by omega) (by omega)]at this
    simp[inB]at this
    omega
   ·exact ih _ h.2 hm
 exact key x.wants [] h3 hw
def aVU(m:aaW)(st ag:Int)(s:aeH):Int × Int:=axD st ag (axF m s.reads m.votes 0 0) s.cmd m.moves
def okB(m:aaW)(st ag:Int)(s:aeH):Bool:=adZ m&&inB st 0 (IntKind.i64.wrap (m.states-1))&&inB ag 0 10&&av2 m s
theorem aLJ{m:aaW}{l:List Int}(h:aDT m l=true):l.length=m.sens.length:=by
 simp only[aDT,adJ,beq_iff_eq]at h
 omega
theorem aPK(m:aaW)(st ag:Int)(s:aeH)(hs:m.small)(hl:s.reads.length≤maxLen):om'.call (.fn 14) [.agg [slv 3 true m.nS (m.sens.map ad1.cells),slv 4 false m.nV (m.votes.map abT.cells),slv 5 false m.nM (m.moves.map ac4.cells),.int .i64 m.states,.int .i64 m.cmds,.int .i64 m.bgn,slv 1 true m.nO (m.opn.map iv)],.int .i64 st,.int .i64 ag,.agg [slv 1 true s.nn (s.reads.map iv),.int .i64 s.cmd]] []=
 some (.ret (if okB m st ag s=true then .tup [.int .i64 (aVU m st ag s).1,.int .i64 (aVU m st ag s).2,.int .i64 0]else .tup [.int .i64 0,.int .i64 0,.int .i64 2]),[]):=by
 have hv:=aFV m hs
 have hsc:=aZI m s hl
 cases hok:okB m st ag s with
 |false=>
  (refine ce Try.func14 ?_;simp only[Try.f14];(have hb:=trivial;with_reducible repeat' (first|simp only[hb,Vc.down,seval,bf6.down,hv,hsc,axB]|refine fsp ?_ ?_<;>intro hb|refine fd ?_|fail)))
  all_goals first
   |rfl
   |(exfalso;simp_all[okB];done)
 |true=>
  have hok':=hok
  simp only[okB,adJ]at hok'
  obtain⟨⟨⟨o1,o2⟩,o3⟩,o4⟩:=hok'
  have o5:=o4
  simp only[av2,adJ]at o5
  have hbits:=aFZ m (l:=s.reads) (nn:=s.nn) (aLJ o5.1) hs (aFW o1)
  have hst:=aPC m st ag (axF m s.reads m.votes 0 0) s.cmd hs (fun x hx w hw=>(aNX o1 x hx w hw).1)
  rw[o1]at hv
  rw[o4]at hsc
  (refine ce Try.func14 ?_;simp only[Try.f14];(have hb:=trivial;with_reducible repeat' (first|simp only[hb,Vc.down,seval,bf6.down,hv,hsc,axB,o2,o3,hbits,hst]|refine fsp ?_ ?_<;>intro hb|refine fd ?_|fail)))
  all_goals rfl
theorem aDA{m:aaW}(h:adZ m=true):m.votes.length≤6:=by
 simp only[adZ,aw0,adJ,decide_eq_true_eq]at h
 exact h.1.1.1.1.1.1.1.1.1.2
def aGO(m:aaW):Bool:=m.votes.all (fun v=>decide (v.sens.length≤10))&&m.moves.all (fun x=>decide (x.wants.length≤10))&&decide (m.sens.length≤10)&&decide (m.votes.length≤10)&&decide (m.moves.length≤30)&&decide (m.opn.length≤20)
theorem a5K(m:aaW)(hs:m.small):om'.call (.fn 12) [.agg [slv 3 true m.nS (m.sens.map ad1.cells),slv 4 false m.nV (m.votes.map abT.cells),slv 5 false m.nM (m.moves.map ac4.cells),.int .i64 m.states,.int .i64 m.cmds,.int .i64 m.bgn,slv 1 true m.nO (m.opn.map iv)]] []=some (.ret (.bool (aGO m)),[]):=by
 have l1:decide ((m.sens.length:Int)≤10)=decide (m.sens.length≤10):=by rw[decide_eq_decide];omega
 have l2:decide ((m.votes.length:Int)≤10)=decide (m.votes.length≤10):=by rw[decide_eq_decide];omega
 have l3:decide ((m.moves.length:Int)≤30)=decide (m.moves.length≤30):=by rw[decide_eq_decide];omega
 have l4:decide ((m.opn.length:Int)≤20)=decide (m.opn.length≤20):=by rw[decide_eq_decide];omega
 (refine ce Try.func12 ?_;simp only[Try.f12];(have hb:=trivial;with_reducible repeat' (first|simp only[hb,Vc.down,seval,aK4.down,aa9]|refine fsp ?_ ?_<;>intro hb|refine fd ?_|fail)))
 refine ahX (lst 57 m.votes (fun i (zz:Unit) t h=>t 1=.ptr 0 0 0∧t 3=.int .i64 i∧(h=[.live 7 false false [[slv 3 true m.nS (m.sens.map ad1.cells),slv 4 false m.nV (m.votes.map abT.cells),slv 5 false m.nM (m.moves.map ac4.cells),.int .i64 m.states,.int .i64 m.cmds,.int .i64 m.bgn,slv 1 true m.nO (m.opn.map iv)]]])) (fun rest zz=>rest.all (fun v=>decide (v.sens.length≤10))) (fun r e t h=>(if r=true then e=.exit 0∧t 1=.ptr 0 0 0∧h=[.live 7 false false [[slv 3 true m.nS (m.sens.map ad1.cells),slv 4 false m.nV (m.votes.map abT.cells),slv 5 false m.nM (m.moves.map ac4.cells),.int .i64 m.states,.int .i64 m.cmds,.int .i64 m.bgn,slv 1 true m.nO (m.opn.map iv)]]]else e=.ret∧t 2=.bool false)) ?_ ?_ () _ _ ?_) (fun e t h hk=>?_)
 ·rintro _ t h Q' kQ ⟨h1,h3,rfl⟩
  (have hb:=trivial;with_reducible repeat' (first|simp only[hb,Vc.down,seval,aK4.down,h1,h3,adE,decide_false,aa9]|refine fsp ?_ ?_<;>intro hb|refine fd ?_|fail))
  exact kQ _ _ _ (by rw[if_pos (by rfl)];exact⟨rfl,by simp[up,h1],rfl⟩)
 ·rintro x rest i _ t h J Q' kJ kQ hx hi ⟨h1,h3,rfl⟩
  have hd:decide ((i:Int)<(m.votes.length:Int))=true:=decide_eq_true (by omega)
  have hw:=adL hi hs.votes
  have lx:decide ((10:Int)<(x.sens.length:Int))= !decide (x.sens.length≤10):=by rw[←decide_not,decide_eq_decide];omega
  cases c1:decide (x.sens.length≤10)with
  |false=>
   (have hb:=trivial;with_reducible repeat' (first|simp only[hb,Vc.down,seval,aK4.down,h1,h3,hd,hx,hw,lx,c1,abT.cells,aa9]|refine fsp ?_ ?_<;>intro hb|refine fd ?_|fail))
   exact kQ _ _ _ (by rw[if_neg (by simp only[am1,c1,alW];simp)];exact⟨rfl,by simp[up]⟩)
  |true=>
   (have hb:=trivial;with_reducible repeat' (first|simp only[hb,Vc.down,seval,aK4.down,h1,h3,hd,hx,hw,lx,c1,abT.cells,aa9]|refine fsp ?_ ?_<;>intro hb|refine fd ?_|fail))
   (refine adW (kJ _ _ () ⟨?_,?_,rfl⟩ ?_);(simp[up,h1]);(simp[up]);(simp only[am1,c1,akQ]))
 ·exact⟨by simp[up,ent],by simp[up],rfl⟩
 split at hk
 rotate_left
 ·obtain⟨rfl,h2⟩:=hk
  rename_i hr1
  (have hb:=trivial;with_reducible repeat' (first|simp only[hb,Vc.down,seval,aK4.down,h2]|refine fsp ?_ ?_<;>intro hb|refine fd ?_|fail))
  all_goals simp[aGO,aiZ.2 hr1]
 obtain⟨rfl,h1,rfl⟩:=hk
 rename_i hr1
 (have hb:=trivial;with_reducible repeat' (first|simp only[hb,Vc.down,seval,aK4.down,h1,aa9]|refine fsp ?_ ?_<;>intro hb|refine fd ?_|fail))
 refine ahX (lst 57 m.moves (fun i (zz:Unit) t h=>t 1=.ptr 0 0 0∧t 4=.int .i64 i∧(h=[.live 7 false false [[slv 3 true m.nS (m.sens.map ad1.cells),slv 4 false m.nV (m.votes.map abT.cells),slv 5 false m.nM (m.moves.map ac4.cells),.int .i64 m.states,.int .i64 m.cmds,.int .i64 m.bgn,slv 1 true m.nO (m.opn.map iv)]]])) (fun rest zz=>rest.all (fun x=>decide (x.wants.length≤10))) (fun r e t h=>(if r=true then e=.exit 2∧t 1=.ptr 0 0 0∧h=[.live 7 false false [[slv 3 true m.nS (m.sens.map ad1.cells),slv 4 false m.nV (m.votes.map abT.cells),slv 5 false m.nM (m.moves.map ac4.cells),.int .i64 m.states,.int .i64 m.cmds,.int .i64 m.bgn,slv 1 true m.nO (m.opn.map iv)]]]else e=.ret∧t 2=.bool false)) ?_ ?_ () _ _ ?_) (fun e t h hk=>?_)
 ·rintro _ t h Q' kQ ⟨h1,h4,rfl⟩
  (have hb:=trivial;with_reducible repeat' (first|simp only[hb,Vc.down,seval,aK4.down,h1,h4,adE,decide_false,aa9]|refine fsp ?_ ?_<;>intro hb|refine fd ?_|fail))
  exact kQ _ _ _ (by rw[if_pos (by rfl)];exact⟨rfl,by simp[up,h1],rfl⟩)
 ·rintro x rest i _ t h J Q' kJ kQ hx hi ⟨h1,h4,rfl⟩
  have hd:decide ((i:Int)<(m.moves.length:Int))=true:=decide_eq_true (by omega)
  have hw:=adL hi hs.moves
  have lx:decide ((10:Int)<(x.wants.length:Int))= !decide (x.wants.length≤10):=by rw[←decide_not,decide_eq_decide];omega
  cases c1:decide (x.wants.length≤10)with
  |false=>
   (have hb:=trivial;with_reducible repeat' (first|simp only[hb,Vc.down,seval,aK4.down,h1,h4,hd,hx,hw,lx,c1,ac4.cells,aa9]|refine fsp ?_ ?_<;>intro hb|refine fd ?_|fail))
   exact kQ _ _ _ (by rw[if_neg (by simp only[am1,c1,alW];simp)];exact⟨rfl,by simp[up]⟩)
  |true=>
   (have hb:=trivial;with_reducible repeat' (first|simp only[hb,Vc.down,seval,aK4.down,h1,h4,hd,hx,hw,lx,c1,ac4.cells,aa9]|refine fsp ?_ ?_<;>intro hb|refine fd ?_|fail))
   (refine adW (kJ _ _ () ⟨?_,?_,rfl⟩ ?_);(simp[up,h1]);(simp[up]);(simp only[am1,c1,akQ]))
 ·exact⟨by simp[up,ent,h1],by simp[up],rfl⟩
 split at hk
 rotate_left
 ·obtain⟨rfl,h2⟩:=hk
  rename_i hr2
  (have hb:=trivial;with_reducible repeat' (first|simp only[hb,Vc.down,seval,aK4.down,h2]|refine fsp ?_ ?_<;>intro hb|refine fd ?_|fail))
  all_goals simp[aGO,aiZ.2 hr2]
 obtain⟨rfl,h1,rfl⟩:=hk
 rename_i hr2
 (have hb:=trivial;with_reducible repeat' (first|simp only[hb,Vc.down,seval,aK4.down,h1,aa9,l1,l2,l3,l4]|refine fsp ?_ ?_<;>intro hb|refine fd ?_|fail))
 all_goals (refine congrArg (fun b=>(Out.ret (AV.bool b),([]:aaL))) ?_;symm;((try simp only[ayE,anK,anU]at *);simp only[aGO, *,ayR,alW,at6,akQ,Bool.and_self,Bool.not_not,anK,anU,am1,List.all_nil]))
theorem a5Q{l:List Int}{nn:Bool}(k:Int)(hl:l.length≤maxLen):om'.call (.fn 80) [slv 1 true nn (l.map iv),.int .i64 k] []=some (.ret (.int .i64 (idx (fun x=>k==x) l 0)),[]):=by
 (refine ce Try.func80 ?_;simp only[Try.f80];(have hb:=trivial;with_reducible repeat' (first|simp only[hb,Vc.down,seval,a0H.down,aa9]|refine fsp ?_ ?_<;>intro hb|refine fd ?_|fail)))
 refine ahX (lst 19 l (fun i (s:Int) t h=>s=i∧h=[]∧t 0=slv 1 true nn (l.map iv)∧t 1=.int .i64 k∧t 7=.int .i64 l.length∧t 8=.int .i64 i)
  (fun rest s=>idx (fun x=>k==x) rest s) (fun r e t h=>h=[]∧((e=.exit 0∧r= -1)∨(e=.ret∧t 4=.int .i64 r))) ?_ ?_ 0 _ _ ?_) (fun e t h hk=>?_)
 ·rintro s t h Q' kQ ⟨rfl,rfl,h0,h1,h7,h8⟩
  (have hb:=trivial;with_reducible repeat' (first|simp only[hb,Vc.down,seval,a0H.down,h0,h1,h7,h8,adE,decide_false]|refine fsp ?_ ?_<;>intro hb|refine fd ?_|fail))
  exact kQ _ _ _ ⟨rfl,.inl ⟨rfl,rfl⟩⟩
 ·rintro x rest i s t h J Q' kJ kQ hx hi ⟨rfl,rfl,h0,h1,h7,h8⟩
  have hd:decide ((i:Int)<(l.length:Int))=true:=by simpa using hi
  (have hb:=trivial;with_reducible repeat' (first|simp only[hb,Vc.down,seval,a0H.down,h0,h1,h7,h8,hd,hx,iv,adL hi hl]|refine fsp ?_ ?_<;>intro hb|refine fd ?_|fail))
  ·exact kQ _ _ _ ⟨rfl,.inr ⟨rfl,by simp only[idx,up];rw[if_pos hb];rfl⟩⟩
  ·exact adW (kJ _ _ (i+1) ⟨by simp,rfl,by simp[up,h0],by simp[up,h1],by simp[up,h7],by simp[up]⟩ (by simp only[idx];rw[if_neg (by rw[hb];simp)]))
 ·exact⟨rfl,rfl,by simp[up,ent],by simp[up,ent],by simp[up],by simp[up]⟩
 ·obtain⟨rfl,⟨rfl,hi⟩|⟨rfl,hi⟩⟩:=hk
  ·(have hb:=trivial;with_reducible repeat' (first|simp only[hb,Vc.down,seval,a0H.down]|refine fsp ?_ ?_<;>intro hb|refine fd ?_|fail))
   rw[hi]
  ·(have hb:=trivial;with_reducible repeat' (first|simp only[hb,Vc.down,seval,a0H.down,hi]|refine fsp ?_ ?_<;>intro hb|refine fd ?_|fail))
theorem aS8{l:List Int}{nn:Bool}(k:Int)(hl:l.length≤maxLen):om'.call (.fn 57) [slv 1 true nn (l.map iv),.int .i64 k] []=some (.ret (.bool (l.any fun x=>k==x)),[]):=by
 have h1:=a5Q (l:=l) (nn:=nn) k hl
 have h2:=awG (fun x=>k==x) l 0 (as6 0)
 (refine ce Try.func57 ?_;simp only[Try.f57];(have hb:=trivial;with_reducible repeat' (first|simp only[hb,Vc.down,seval,h1,h2]|refine fsp ?_ ?_<;>intro hb|refine fd ?_|fail)))
def aE0(k:Int)(s:ad1)(r:Int)(vs:List abT):List Bool:=vs.map fun v=>(v.sens.any fun x=>k==x)&&aw5 s v r
def aw8(k:Int)(s:ad1)(r:Int)(vs:List abT):Int:=ax0 (aE0 k s r vs) 0 0
def azU(s:ad1)(vs:List abT):List Int:=[-10000,s.lo,s.hi+1]++vs.flatMap fun v=>[v.level,v.level+1]
theorem aB8(s:ad1):∀vs:List abT,(azU s vs).length=3+2*vs.length
 | []=>rfl
 |v::vs=>by
  have:=aB8 s vs
  simp only[azU,ayS,ayC,List.flatMap_cons]at this ⊢
  simp at this ⊢;omega
theorem aJT{m:aaW}(h:adZ m=true){s:ad1}(hs:s∈m.sens): -10000≤s.lo∧s.lo≤s.hi∧s.hi≤10000:=by
 unfold adZ at h
 simp only[adJ,arP]at h
 have:=h.1.1.1.2 s hs
 simp only[aHC,awX,inB,adJ,Bool.not_eq_true',decide_eq_true_eq,decide_eq_false_iff_not]at this
 omega
theorem aR8{m:aaW}(h:adZ m=true){v:abT}(hv:v∈m.votes): -10000≤v.level∧v.level≤10000:=by
 unfold adZ at h
 simp only[adJ,arP]at h
 have:=h.1.1.2 v hv
 simp only[ay9,awX,inB,adJ,decide_eq_true_eq]at this
 omega
theorem ba1{h:aaL}(hq:adK h=true){b:Nat}{w:Bool}{zs:List Int}(hb:h[b]?=some (.live 1 true w (zs.map iv)))(h1:1≤zs.length)(h2:zs.length≤1000):
 ∃es,cl om' h (some (.func (.func 96) [] [])) (some [.slr 1 b 0 zs.length])=some (.ret (.tup []),es)∧agN h es=h.set b (.live 1 true true ((axW zs).map iv)):=by
 have hbl:=adM hb
 have hbc:=auJ hb
 simp only[CB.clean]at hbc
 have hp:aNI [.slr 1 b 0 zs.length] (clH h)=some (.ret (.tup []),(clH h).set b (.live 1 true true ((axW zs).map iv))):=by
  simp only[aNI,hbc]
  rw[if_pos ⟨by simp,h1,by omega⟩]
  have:aCZ (zs.map iv)=some zs:=aT5 zs
  rw[this];rfl
 have K:ShQ om' 96 [.slr 1 b 0 zs.length] (clH h) fun o G=>o=.ret (.tup [])∧G=(clH h).set b (.live 1 true true ((axW zs).map iv)):=⟨_,_,aZ9 (P:=Try.prog) (pr:=pr) (p:=aNI) rfl hp,rfl,rfl⟩
 have kp:aOF [b] (clH h) ((clH h).set b (.live 1 true true ((axW zs).map iv))):=⟨by simp,fun i hi hn=>by rw[ajP (fun e=>hn (by simp[e]))]⟩
 have hX:∀i∈[b],i<h.length∧∀c0 c,h[i]?=some c0→((clH h).set b (.live 1 true true ((axW zs).map iv)))[i]?=some c→c0.isLive=true∧c0.quiet c=false:=fun i hi=>by
  simp at hi;subst hi
  refine⟨hbl,fun c0 c k1 k2=>?_⟩
  rw[hb]at k1;rw[ajS (by rw[aeL];exact hbl)]at k2
  cases k1;cases k2;exact⟨rfl,rfl⟩
 obtain⟨g1,g2,g3,g4,g5⟩:=a2O hq kp hX
 obtain⟨o,G,es,e1,e2,rfl,rfl⟩:=a8K rfl rfl K (fun o G hQ=>by obtain⟨_,rfl⟩:=hQ;exact g1)
 refine⟨es,e1,?_⟩
 rw[e2]
 apply List.ext_getElem?
 intro i
 by_cases hi:i<h.length
 ·by_cases e:i=b
  ·subst e
   rw[ajS hbl]
   exact g5 i (List.mem_cons_self ..) _ (ajS (by rw[aeL];exact hbl))
  ·rw[g4 i hi (by simpa using e),ajP (fun q=>e q.symm)]
 ·rw[ayU (by rw[g2];simp[aeL];omega),ayU (by simp;omega)]
theorem biJ{h l:aaL}{b q b':Nat}{d e c:CB}(n1:b'≠b)(n2:b'≠q)(g:h[b']?=some c):((h.set b d++l).set q e)[b']?=some c:=by
 rw[ajP (fun e=>n2 e.symm),ayB (by simpa using adM g),ajP (fun e=>n1 e.symm)];exact g
def RdI(m:aaW)(k:Int)(H:aaL)(vs:List abT)(h:aaL):Prop:=aOF [] H h∧adK h=true∧(∃x,h[H.length]?=some (.live 7 false x [m.cells]))∧(∃x,h[H.length+1]?=some (.live 1 true x [[.int .i64 k]]))∧(∃x,h[H.length+2]?=some (.live 3 true x [(sAt m k).cells]))∧
     ∃b x y,H.length+2<b∧b≠H.length+4∧h[H.length+4]?=some (.live 1 false x [[.slr 1 b 0 (azU (sAt m k) vs).length]])∧h[b]?=some (.live 1 true y ((azU (sAt m k) vs).map iv))
theorem aU3(m:aaW)(hs:m.small)(hm:adZ m=true){k:Int}(h0:0≤k)(hk:k.toNat<m.sens.length){H:aaL}(hq:adK H=true):
 ShQ om' 79 [.agg [slv 3 true m.nS (m.sens.map ad1.cells),slv 4 false m.nV (m.votes.map abT.cells),slv 5 false m.nM (m.moves.map ac4.cells),.int .i64 m.states,.int .i64 m.cmds,.int .i64 m.bgn,slv 1 true m.nO (m.opn.map iv)],.int .i64 k] H fun o G=>aOF [] H G∧adK G=true∧o=.ret (.func (.func 97) [] [.ptr (H.length+4) 0 0,.ptr H.length 0 0,.ptr (H.length+1) 0 0,.ptr (H.length+2) 0 0])∧
  (∃x,G[H.length]?=some (.live 7 false x [m.cells]))∧(∃x,G[H.length+1]?=some (.live 1 true x [[.int .i64 k]]))∧(∃x,G[H.length+2]?=some (.live 3 true x [(sAt m k).cells]))∧
  ∃b x y,H.length+2<b∧b≠H.length+4∧G[H.length+4]?=some (.live 1 false x [[.slr 1 b 0 (azU (sAt m k) m.votes).length]])∧G[b]?=some (.live 1 true y ((axW (azU (sAt m k) m.votes)).map iv)):=by
 have hsv:=hs.votes
 have hget:=aA3 hk
 have hmem:=aeU hget
 obtain⟨s1,s2,s3⟩:=aJT hm hmem
 have hd0:(0≤k)=True:=eq_true h0
 have hwh:IntKind.i64.wrap ((sAt m k).hi+1)=(sAt m k).hi+1:=ajR (by omega) (by omega)
 refine aDP rfl Try.func79 rfl rfl ?_
 simp only[Try.f79]
 (have hb:=trivial;with_reducible repeat' (first|simp only[hb,Vc.down,seval,a8D.down,hget,hd0,hwh,ad1.cells,aa9]|refine fsp ?_ ?_<;>intro hb|refine fd ?_|fail))
 refine ahX (lst 39 m.votes (fun i (_:Unit) t h=>t 2=.ptr H.length 0 0∧t 3=.ptr (H.length+1) 0 0∧t 5=.ptr (H.length+2) 0 0∧t 6=.ptr (H.length+4) 0 0∧t 21=slv 4 false m.nV (m.votes.map abT.cells)∧t 22=.int .i64 (m.votes.length:Nat)∧t 23=.int .i64 (i:Int)∧RdI m k H (m.votes.take i) h) (fun _ _=>()) (fun _ e t h=>e=.exit 0∧t 2=.ptr H.length 0 0∧t 3=.ptr (H.length+1) 0 0∧t 5=.ptr (H.length+2) 0 0∧t 6=.ptr (H.length+4) 0 0∧RdI m k H m.votes h) ?_ ?_ () _ _ ?_) (fun e t h hk=>?_)
 ·rintro _ t h Q' kQ ⟨g2,g3,g5,g6,g21,g22,g23,hI⟩
  (have hb:=trivial;with_reducible repeat' (first|simp only[hb,Vc.down,seval,a8D.down,g22,g23,adE,decide_false]|refine fsp ?_ ?_<;>intro hb|refine fd ?_|fail))
  rw[List.take_length]at hI
  exact kQ _ _ _ ⟨rfl,by simp[up,g2],by simp[up,g3],by simp[up,g5],by simp[up,g6],hI⟩
 ·rintro v rest i _ t h J Q' kJ kQ hx hi ⟨g2,g3,g5,g6,g21,g22,g23,hI⟩
  have hdd:decide ((i:Int)<(m.votes.length:Int))=true:=decide_eq_true (by omega)
  have hww:=adL hi hsv
  obtain⟨l1,l2⟩:=aR8 hm (aeU hx)
  have hwl:IntKind.i64.wrap (v.level+1)=v.level+1:=ajR (by omega) (by omega)
  obtain⟨K,hqh,⟨x0,a0⟩,⟨x1,a1⟩,⟨x2,a2⟩,b,x,y,hb,hb4,a4,a5⟩:=hI
  have hLl:(azU (sAt m k) (m.votes.take i)).length≤3+2*1000:=by
   rw[aB8];have:=List.length_take_le i m.votes;have:=aDA hm;omega
  have hnx:azU (sAt m k) (m.votes.take (i+1))=azU (sAt m k) (m.votes.take i)++[v.level,v.level+1]:=by
   rw[List.take_add_one,hx];simp[azU]
  obtain⟨L,hL⟩:∃L,azU (sAt m k) (m.votes.take i)=L:=⟨_,rfl⟩
  rw[hL]at a4 a5 hLl hnx
  have a4A:=aaO a4
  have a5A:=aaO a5
  have h39:(L.length+2≤549755813888)=True:=eq_true (by omega)
  have hS:=au8 (adM a5)
  have a4S:=fun c l=>aw3 (b:=b) c hb4 a4 l
  (have hb:=trivial;with_reducible repeat' (first|simp only[hb,Vc.down,seval,a8D.down,g2,g3,g5,g6,g21,g22,g23,hdd,hww,hx,hwl,a4A,a5A,hS,a4S,h39,abT.cells,aa9,Nat.zero_add]|refine fsp ?_ ?_<;>intro hb|refine fd ?_|fail))
  have hb0:h.length≠H.length+4:=by have:=adM a4;omega
  have G2:=fun(b':Nat) (c:CB) (n1:b'≠b) (n2:b'≠H.length+4) (g:h[b']?=some c)=>biJ (d:=CB.dead) (e:=.live 1 false true [[.slr 1 (h.length+2) 0 (L.length+2)]]) (l:=[.live 4 false true [[slv 1 true v.nn (v.sens.map iv),.int .i64 v.need,.int .i64 v.level,.bool v.above]],.live 1 true false [[.int .i64 v.level],[.int .i64 (v.level+1)]],.live 1 true false (L.map iv++[[.int .i64 v.level],[.int .i64 (v.level+1)]])]) n1 n2 g
  have hl4:=adM a4
  refine adW (kJ _ _ () ⟨by simp[up,g2],by simp[up,g3],by simp[up,g5],by simp[up,g6],by simp[up,g21],by simp[up,g22],by simp[up],⟨⟨by have:=K.len;simp;omega,fun b' hb' _=>?_⟩,?_,⟨x0,G2 _ _ (by omega) (by omega) a0⟩,⟨x1,G2 _ _ (by omega) (by omega) a1⟩,⟨x2,G2 _ _ (by omega) (by omega) a2⟩,h.length+2,true,false,by omega,by omega,?_,?_⟩⟩ rfl)
  ·rw[←K.same b' hb' (by simp)]
   obtain⟨c,hc⟩:∃c,h[b']?=some c:=⟨_,auT (by have:=K.len;omega)⟩
   rw[hc];exact G2 _ _ (by omega) (by omega) hc
  ·exact aeX (adY (aeX hqh _ rfl) rfl) _ rfl
  ·rw[ajS (by simp;omega),hnx,ayS];rfl
  ·rw[ajP (by omega),arQ,hnx];simp[iv]
 ·have p0:∀(n:Nat) (l:aaL),(H++l)[H.length+n]?=l[n]?:=fun n l=>by rw[List.getElem?_append_right (by omega),Nat.add_sub_cancel_left]
  refine⟨by simp[up,ent],by simp[up,ent],by simp[up,ent],by simp[up,ent],by simp[up,ent],by simp[up,ent],by simp[up,ent],aOF.app _ _,adY hq rfl,⟨false,?_⟩,⟨false,?_⟩,⟨true,?_⟩,H.length+3,true,false,by omega,by omega,?_,?_⟩
  ·exact p0 0 _
  ·exact p0 1 _
  ·exact p0 2 _
  ·exact p0 4 _
  ·exact p0 3 _
 obtain⟨rfl,g2,g3,g5,g6,K,hqh,⟨x0,a0⟩,⟨x1,a1⟩,⟨x2,a2⟩,b,x,y,hbb,hb4,a4,a5⟩:=hk
 have hl1:1≤(azU (sAt m k) m.votes).length:=by rw[aB8];omega
 have hl2:(azU (sAt m k) m.votes).length≤1000:=by rw[aB8];have:=aDA hm;omega
 generalize azU (sAt m k) m.votes=L at *
 obtain⟨es,e1,e2⟩:=ba1 hqh a5 hl1 hl2
 have e1':shK h (om'.call (.sh 96) [.slr 1 b 0 L.length] (clH h))=some (.ret (.tup []),es):=e1
 (have hb:=trivial;with_reducible repeat' (first|simp only[hb,Vc.down,seval,a8D.down,g2,g3,g5,g6,a4,e1',e2]|refine fsp ?_ ?_<;>intro hb|refine fd ?_|fail))
 have ne:∀(b':Nat) (c:CB),b'≠b→h[b']?=some c→(h.set b (.live 1 true true ((axW L).map iv)))[b']?=some c:=fun b' c n g=>by rw[ajP (fun e=>n e.symm)];exact g
 refine⟨⟨by have:=K.len;simp;omega,fun b' hb' _=>?_⟩,aeX hqh _ rfl,⟨x0,ne _ _ (by omega) a0⟩,⟨x1,ne _ _ (by omega) a1⟩,⟨x2,ne _ _ (by omega) a2⟩,b,x,true,hbb,hb4,ne _ _ (by omega) a4,ajS (adM a5)⟩
 rw[ajP (by omega)];exact K.same b' hb' (by simp)
end Go.Proofs.Ytfkokgjfpojeoaa
