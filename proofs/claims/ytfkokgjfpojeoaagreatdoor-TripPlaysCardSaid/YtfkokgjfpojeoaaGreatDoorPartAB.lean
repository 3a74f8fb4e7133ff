/- The functions of the layer, walked. -/
import Derived.Test.YtfkokgjfpojeoaaGreatDoorPartAA
open List renaming length_map→aaP,mem_of_getElem?→acQ,getElem?_eq_some_iff→acT,all_eq_not_any_not→acU,length_set→acV,getElem?_eq_getElem→af2,all_eq_true→agA,length_eq_zero_iff→agG,getElem?_set_self→agI
open Int renaming lt_irrefl→acP
open Bool renaming and_eq_true→acR,eq_false_iff→acS,not_true→ac6,not_false→ad5,true_and→aeG,false_and→afG,eq_iff_iff→afV
set_option linter.unusedSimpArgs false
set_option linter.unusedVariables false
namespace Go.Proofs.YtfkokgjfpojeoaaGreatDoor
open Go.Ev Go
set_option maxRecDepth 100000
set_option maxHeartbeats 16000000
def nR(s:Bg):Bool:=Vw s.lo&&Vw s.hi&& !decide (s.hi<s.lo)
def Nb(m:Ap):Bool:=decide (m.sens.length≤6)&&decide (m.votes.length≤6)&&decide (m.moves.length≤20)&&Po m.states 1 8&&Po m.cmds 0 4&&Po m.bgn 0 (IntKind.i64.wrap (m.states-1))&&((m.opn.length:Int)==m.states)
def Dq(m:Ap):Bool:=Nb m&&m.sens.all nR&&m.votes.all (Wp m.sens.length)&&m.moves.all (Nv m)&&m.opn.all (fun n=>Po n 0 255)
theorem zS(m:Ap)(x:Ai)(hl:x.wants.length≤maxLen):Da.call (.fn 50) [.agg [.int .i64 x.frm,.int .i64 x.to,Ad 2 true x.nn (x.wants.map Aq.cells),.int .i64 x.cmd,.int .i64 x.after],.ptr 0 0 0] [.live 7 false false [[Ad 3 true m.nS (m.sens.map Bg.cells),Ad 4 false m.nV (m.votes.map Ak.cells),Ad 5 false m.nM (m.moves.map Ai.cells),.int .i64 m.states,.int .i64 m.cmds,.int .i64 m.bgn,Ad 1 true m.nO (m.opn.map iv)]]]=some (.ret (.bool (!Nv m x)),[.live 7 false false [[Ad 3 true m.nS (m.sens.map Bg.cells),Ad 4 false m.nV (m.votes.map Ak.cells),Ad 5 false m.nM (m.moves.map Ai.cells),.int .i64 m.states,.int .i64 m.cmds,.int .i64 m.bgn,Ad 1 true m.nO (m.opn.map iv)]]]):=by
 have hm:=akR m x hl
 (refine ce Tryz.func50 ?_;simp only[Tryz.f50];(have hb:=trivial;with_reducible repeat' (first|simp only[hb,Vc.down,seval,aoV.down,hm]|refine Au ?_ ?_<;>intro hb|refine fd ?_|fail)))
theorem uV{l:List Ai}{nn:Bool}{g:Nat}{mm:Ap}{p:Ai→Bool}(hp:∀x∈l,Da.call (.fn g) (.agg [.int .i64 x.frm,.int .i64 x.to,Ad 2 true x.nn (x.wants.map Aq.cells),.int .i64 x.cmd,.int .i64 x.after]::[.ptr 0 0 0]) [.live 7 false false [[Ad 3 true mm.nS (mm.sens.map Bg.cells),Ad 4 false mm.nV (mm.votes.map Ak.cells),Ad 5 false mm.nM (mm.moves.map Ai.cells),.int .i64 mm.states,.int .i64 mm.cmds,.int .i64 mm.bgn,Ad 1 true mm.nO (mm.opn.map iv)]]]=some (.ret (.bool (p x)),[.live 7 false false [[Ad 3 true mm.nS (mm.sens.map Bg.cells),Ad 4 false mm.nV (mm.votes.map Ak.cells),Ad 5 false mm.nM (mm.moves.map Ai.cells),.int .i64 mm.states,.int .i64 mm.cmds,.int .i64 mm.bgn,Ad 1 true mm.nO (mm.opn.map iv)]]]))(hl:l.length≤maxLen):
 Da.call (.fn 68) [Ad 5 false nn (l.map Ai.cells),.func (.func g) [] [.ptr 0 0 0]] [.live 7 false false [[Ad 3 true mm.nS (mm.sens.map Bg.cells),Ad 4 false mm.nV (mm.votes.map Ak.cells),Ad 5 false mm.nM (mm.moves.map Ai.cells),.int .i64 mm.states,.int .i64 mm.cmds,.int .i64 mm.bgn,Ad 1 true mm.nO (mm.opn.map iv)]]]=some (.ret (.int .i64 (gY p l 0)),[.live 7 false false [[Ad 3 true mm.nS (mm.sens.map Bg.cells),Ad 4 false mm.nV (mm.votes.map Ak.cells),Ad 5 false mm.nM (mm.moves.map Ai.cells),.int .i64 mm.states,.int .i64 mm.cmds,.int .i64 mm.bgn,Ad 1 true mm.nO (mm.opn.map iv)]]]):=by
 (refine ce Tryz.func68 ?_;simp only[Tryz.f68];(have hb:=trivial;with_reducible repeat' (first|simp only[hb,Vc.down,seval,yW.down,aaP]|refine Au ?_ ?_<;>intro hb|refine fd ?_|fail)))
 refine Ee (Uf 19 l (fun i (s:Int) t h=>s=i∧h=[.live 7 false false [[Ad 3 true mm.nS (mm.sens.map Bg.cells),Ad 4 false mm.nV (mm.votes.map Ak.cells),Ad 5 false mm.nM (mm.moves.map Ai.cells),.int .i64 mm.states,.int .i64 mm.cmds,.int .i64 mm.bgn,Ad 1 true mm.nO (mm.opn.map iv)]]]∧t 0=Ad 5 false nn (l.map Ai.cells)∧t 1=.func (.func g) [] [.ptr 0 0 0]∧t 7=.int .i64 l.length∧t 8=.int .i64 i)
  (fun rest s=>gY p rest s) (fun r e t h=>h=[.live 7 false false [[Ad 3 true mm.nS (mm.sens.map Bg.cells),Ad 4 false mm.nV (mm.votes.map Ak.cells),Ad 5 false mm.nM (mm.moves.map Ai.cells),.int .i64 mm.states,.int .i64 mm.cmds,.int .i64 mm.bgn,Ad 1 true mm.nO (mm.opn.map iv)]]]∧((e=.exit 0∧r= -1)∨(e=.ret∧t 4=.int .i64 r))) ?_ ?_ 0 _ _ ?_) (fun e t h hk=>?_)
 ·rintro s t h Q' kQ ⟨rfl,rfl,h0,h1,h7,h8⟩
  (have hb:=trivial;with_reducible repeat' (first|simp only[hb,Vc.down,seval,yW.down,h0,h1,h7,h8,acP,decide_false]|refine Au ?_ ?_<;>intro hb|refine fd ?_|fail))
  exact kQ _ _ _ ⟨rfl,.inl ⟨rfl,rfl⟩⟩
 ·rintro x rest i s t h J Q' kJ kQ hx hi ⟨rfl,rfl,h0,h1,h7,h8⟩
  have hpx:=hp x (acQ hx)
  have hd:decide ((i:Int)<(l.length:Int))=true:=by simpa using hi
  (have hb:=trivial;with_reducible repeat' (first|simp only[hb,Vc.down,seval,yW.down,h0,h1,h7,h8,hd,hx,Ai.cells,hpx,As hi hl]|refine Au ?_ ?_<;>intro hb|refine fd ?_|fail))
  ·exact kQ _ _ _ ⟨rfl,.inr ⟨rfl,by simp[up,gY,hb]⟩⟩
  ·exact Bl (kJ _ _ (i+1) ⟨by simp,rfl,by simp[up,h0],by simp[up,h1],by simp[up,h7],by simp[up]⟩ (by simp[gY,hb]))
 ·exact⟨rfl,rfl,by simp[up,Eg],by simp[up,Eg],by simp[up],by simp[up]⟩
 ·obtain⟨rfl,⟨rfl,hi⟩|⟨rfl,hi⟩⟩:=hk
  ·(have hb:=trivial;with_reducible repeat' (first|simp only[hb,Vc.down,seval,yW.down]|refine Au ?_ ?_<;>intro hb|refine fd ?_|fail))
   rw[hi]
  ·(have hb:=trivial;with_reducible repeat' (first|simp only[hb,Vc.down,seval,yW.down,hi]|refine Au ?_ ?_<;>intro hb|refine fd ?_|fail))
theorem oC{l:List Ai}{nn:Bool}{g:Nat}{mm:Ap}{p:Ai→Bool}(hp:∀x∈l,Da.call (.fn g) (.agg [.int .i64 x.frm,.int .i64 x.to,Ad 2 true x.nn (x.wants.map Aq.cells),.int .i64 x.cmd,.int .i64 x.after]::[.ptr 0 0 0]) [.live 7 false false [[Ad 3 true mm.nS (mm.sens.map Bg.cells),Ad 4 false mm.nV (mm.votes.map Ak.cells),Ad 5 false mm.nM (mm.moves.map Ai.cells),.int .i64 mm.states,.int .i64 mm.cmds,.int .i64 mm.bgn,Ad 1 true mm.nO (mm.opn.map iv)]]]=some (.ret (.bool (p x)),[.live 7 false false [[Ad 3 true mm.nS (mm.sens.map Bg.cells),Ad 4 false mm.nV (mm.votes.map Ak.cells),Ad 5 false mm.nM (mm.moves.map Ai.cells),.int .i64 mm.states,.int .i64 mm.cmds,.int .i64 mm.bgn,Ad 1 true mm.nO (mm.opn.map iv)]]]))(hl:l.length≤maxLen):
 Da.call (.fn 49) [Ad 5 false nn (l.map Ai.cells),.func (.func g) [] [.ptr 0 0 0]] [.live 7 false false [[Ad 3 true mm.nS (mm.sens.map Bg.cells),Ad 4 false mm.nV (mm.votes.map Ak.cells),Ad 5 false mm.nM (mm.moves.map Ai.cells),.int .i64 mm.states,.int .i64 mm.cmds,.int .i64 mm.bgn,Ad 1 true mm.nO (mm.opn.map iv)]]]=some (.ret (.bool (l.any p)),[.live 7 false false [[Ad 3 true mm.nS (mm.sens.map Bg.cells),Ad 4 false mm.nV (mm.votes.map Ak.cells),Ad 5 false mm.nM (mm.moves.map Ai.cells),.int .i64 mm.states,.int .i64 mm.cmds,.int .i64 mm.bgn,Ad 1 true mm.nO (mm.opn.map iv)]]]):=by
 (refine ce Tryz.func49 ?_;simp only[Tryz.f49];(have hb:=trivial;with_reducible repeat' (first|simp only[hb,Vc.down,seval,uV hp hl,Wc p l 0 (Int.le_refl 0)]|refine Au ?_ ?_<;>intro hb|refine fd ?_|fail)))
theorem iS(m:Ap)(hs:m.small):Da.call (.fn 23) [.agg [Ad 3 true m.nS (m.sens.map Bg.cells),Ad 4 false m.nV (m.votes.map Ak.cells),Ad 5 false m.nM (m.moves.map Ai.cells),.int .i64 m.states,.int .i64 m.cmds,.int .i64 m.bgn,Ad 1 true m.nO (m.opn.map iv)]] []=some (.ret (.bool (Dq m)),[]):=by
 have l1:decide ((6:Int)<(m.sens.length:Int))= !decide (m.sens.length≤6):=by rw[←decide_not,decide_eq_decide];omega
 have l2:decide ((6:Int)<(m.votes.length:Int))= !decide (m.votes.length≤6):=by rw[←decide_not,decide_eq_decide];omega
 have l3:decide ((20:Int)<(m.moves.length:Int))= !decide (m.moves.length≤20):=by rw[←decide_not,decide_eq_decide];omega
 cases hp:Nb m with
 |false=>
  have hp':Dq m=false:=by simp[Dq,hp]
  rw[hp']
  (refine ce Tryz.func23 ?_;simp only[Tryz.f23];(have hb:=trivial;with_reducible repeat' (first|simp only[hb,Vc.down,seval,dR.down,aaP,Yk,l1,l2,l3]|refine Au ?_ ?_<;>intro hb|refine fd ?_|fail)))
  all_goals first
   |rfl
   |(exfalso;simp_all[Nb];done)
 |true=>
  have hp':=hp
  simp only[Nb,acR]at hp'
  obtain⟨⟨⟨⟨⟨⟨p1,p2⟩,p3⟩,p4⟩,p5⟩,p6⟩,p7⟩:=hp'
  (refine ce Tryz.func23 ?_;simp only[Tryz.f23];(have hb:=trivial;with_reducible repeat' (first|simp only[hb,Vc.down,seval,dR.down,aaP,Yk,l1,l2,l3,p1,p2,p3,p4,p5,p6,p7]|refine Au ?_ ?_<;>intro hb|refine fd ?_|fail)))
  refine Ee (Uf 118 m.sens (fun i (zz:Unit) t h=>t 1=.ptr 0 0 0∧t 53=Ad 3 true m.nS (m.sens.map Bg.cells)∧t 54=.int .i64 m.sens.length∧t 55=.int .i64 i∧(h[0]?=some (.live 7 false false [[Ad 3 true m.nS (m.sens.map Bg.cells),Ad 4 false m.nV (m.votes.map Ak.cells),Ad 5 false m.nM (m.moves.map Ai.cells),.int .i64 m.states,.int .i64 m.cmds,.int .i64 m.bgn,Ad 1 true m.nO (m.opn.map iv)]]))) (fun rest zz=>rest.all nR) (fun r e t h=>(if r=true then e=.exit 0∧t 1=.ptr 0 0 0∧h[0]?=some (.live 7 false false [[Ad 3 true m.nS (m.sens.map Bg.cells),Ad 4 false m.nV (m.votes.map Ak.cells),Ad 5 false m.nM (m.moves.map Ai.cells),.int .i64 m.states,.int .i64 m.cmds,.int .i64 m.bgn,Ad 1 true m.nO (m.opn.map iv)]])else e=.ret∧t 2=.bool false)) ?_ ?_ () _ _ ?_) (fun e t h hk=>?_)
  ·rintro _ t h Q' kQ ⟨h1,h53,h54,h55,hA⟩
   (have hb:=trivial;with_reducible repeat' (first|simp only[hb,Vc.down,seval,dR.down,h1,h53,h54,h55,acP,decide_false]|refine Au ?_ ?_<;>intro hb|refine fd ?_|fail))
   exact kQ _ _ _ (by rw[if_pos (by rfl)];exact⟨rfl,by simp[up,h1],hA⟩)
  ·rintro x rest i _ t h J Q' kJ kQ hx hi ⟨h1,h53,h54,h55,hA⟩
   have hd:decide ((i:Int)<(m.sens.length:Int))=true:=decide_eq_true (by omega)
   have hw:=As hi hs.sens
   have hA1:=Bi hA
   (have hb:=trivial;with_reducible repeat' (first|simp only[hb,Vc.down,seval,dR.down,h1,h53,h54,h55,hd,hx,hw,gV,Bg.cells,aaP]|refine Au ?_ ?_<;>intro hb|refine fd ?_|fail))
   all_goals first
    |exact kQ _ _ _ (by rw[if_neg (by simp_all[nR])];exact⟨rfl,by simp[up]⟩)
    |(refine Bl (kJ _ _ () ⟨?_,?_,?_,?_,hA1 _⟩ ?_);(simp[up,h1]);(simp[up,h53]);(simp[up,h54]);(simp[up]);(simp_all[nR]))
  ·exact⟨by simp[up,Eg],by simp[up,Eg],by simp[up,Eg],by simp[up],rfl⟩
  ·split at hk
   ·obtain⟨rfl,h1,hA⟩:=hk
    rename_i hr1
    have hA1:=Bi hA
    (have hb:=trivial;with_reducible repeat' (first|simp only[hb,Vc.down,seval,dR.down,h1,hA,hA1,aaP]|refine Au ?_ ?_<;>intro hb|refine fd ?_|fail))
    refine Ee (Uf 118 m.votes (fun i (zz:Unit) t h=>t 1=.ptr 0 0 0∧t 78=Ad 4 false m.nV (m.votes.map Ak.cells)∧t 79=.int .i64 m.votes.length∧t 80=.int .i64 i∧(h[0]?=some (.live 7 false false [[Ad 3 true m.nS (m.sens.map Bg.cells),Ad 4 false m.nV (m.votes.map Ak.cells),Ad 5 false m.nM (m.moves.map Ai.cells),.int .i64 m.states,.int .i64 m.cmds,.int .i64 m.bgn,Ad 1 true m.nO (m.opn.map iv)]]))) (fun rest zz=>rest.all (Wp m.sens.length)) (fun r e t h=>(if r=true then e=.exit 2∧t 1=.ptr 0 0 0∧h[0]?=some (.live 7 false false [[Ad 3 true m.nS (m.sens.map Bg.cells),Ad 4 false m.nV (m.votes.map Ak.cells),Ad 5 false m.nM (m.moves.map Ai.cells),.int .i64 m.states,.int .i64 m.cmds,.int .i64 m.bgn,Ad 1 true m.nO (m.opn.map iv)]])else e=.ret∧t 2=.bool false)) ?_ ?_ () _ _ ?_) (fun e t h hk=>?_)
    ·rintro _ t h Q' kQ ⟨h1,h78,h79,h80,hA⟩
     (have hb:=trivial;with_reducible repeat' (first|simp only[hb,Vc.down,seval,dR.down,h1,h78,h79,h80,acP,decide_false]|refine Au ?_ ?_<;>intro hb|refine fd ?_|fail))
     exact kQ _ _ _ (by rw[if_pos (by rfl)];exact⟨rfl,by simp[up,h1],hA⟩)
    ·rintro x rest i _ t h J Q' kJ kQ hx hi ⟨h1,h78,h79,h80,hA⟩
     have hd:decide ((i:Int)<(m.votes.length:Int))=true:=decide_eq_true (by omega)
     have hw:=As hi hs.votes
     have hA1:=Bi hA
     have hin:=iL (nn:=x.nn) m.sens.length (hs.vs x (acQ hx))
     (have hb:=trivial;with_reducible repeat' (first|simp only[hb,Vc.down,seval,dR.down,h1,h78,h79,h80,hd,hx,hw,hA1,gV,Yk,hin,Ak.cells,aaP]|refine Au ?_ ?_<;>intro hb|refine fd ?_|fail))
     all_goals first
      |exact kQ _ _ _ (by rw[if_neg (by simp_all[Wp])];exact⟨rfl,by simp[up]⟩)
      |(refine Bl (kJ _ _ () ⟨?_,?_,?_,?_,hA1 _⟩ ?_);(simp[up,h1]);(simp[up,h78]);(simp[up,h79]);(simp[up]);(simp_all[Wp]))
    ·exact⟨by simp[up,Eg,h1],by simp[up,Eg,h1],by simp[up,Eg,h1],by simp[up],hA⟩
    ·split at hk
     ·obtain⟨rfl,h1,hA⟩:=hk
      rename_i hr2
      have hA1:=Bi hA
      have hcM:=oC (mm:=m) (l:=m.moves) (nn:=m.nM) (g:=50) (p:=fun x=> !Nv m x) (fun x hx=>zS m x (hs.ws x hx)) hs.moves
      have hcI:=eK (l:=m.opn) (nn:=m.nO) (g:=53) (cap:=[]) (p:=fun x=> !Po x 0 255) rfl rfl (fun x _=>yQ x) hs.opn
      (have hb:=trivial;with_reducible repeat' (first|simp only[hb,Vc.down,seval,dR.down,h1,hA,hA1,aaP,hcM,hcI]|refine Au ?_ ?_<;>intro hb|refine fd ?_|fail))
      all_goals
       have q1:m.moves.all (Nv m)= !(m.moves.any fun x=> !Nv m x):=acU
       have q2:m.opn.all (fun n=>Po n 0 255)= !(m.opn.any fun x=> !Po x 0 255):=acU
       simp only[Dq,hp,hr1,hr2,q1,q2,hb,ac6,ad5,aeG,afG,Bool.and_true]
       try rfl
     ·obtain⟨rfl,h2⟩:=hk
      rename_i hr2
      (have hb:=trivial;with_reducible repeat' (first|simp only[hb,Vc.down,seval,dR.down,h2]|refine Au ?_ ?_<;>intro hb|refine fd ?_|fail))
      all_goals simp[Dq,hp,acS.2 hr2]
   ·obtain⟨rfl,h2⟩:=hk
    rename_i hr1
    (have hb:=trivial;with_reducible repeat' (first|simp only[hb,Vc.down,seval,dR.down,h2]|refine Au ?_ ?_<;>intro hb|refine fd ?_|fail))
    all_goals simp[Dq,hp,acS.2 hr1]
theorem vJ(m:Ap)(hs:m.small):Da.call (.fn 8) [.agg [Ad 3 true m.nS (m.sens.map Bg.cells),Ad 4 false m.nV (m.votes.map Ak.cells),Ad 5 false m.nM (m.moves.map Ai.cells),.int .i64 m.states,.int .i64 m.cmds,.int .i64 m.bgn,Ad 1 true m.nO (m.opn.map iv)]] []=some (.ret (.bool (Dq m)),[]):=by
 have l1:decide ((6:Int)<(m.sens.length:Int))= !decide (m.sens.length≤6):=by rw[←decide_not,decide_eq_decide];omega
 have l2:decide ((6:Int)<(m.votes.length:Int))= !decide (m.votes.length≤6):=by rw[←decide_not,decide_eq_decide];omega
 have l3:decide ((20:Int)<(m.moves.length:Int))= !decide (m.moves.length≤20):=by rw[←decide_not,decide_eq_decide];omega
 have sen:∀x:Bg,nR x=(!decide (x.lo < -10000)&& !decide (x.hi<x.lo)&& !decide (10000<x.hi)):=fun x=>by
  rw[afV];simp[nR,Vw,Po];omega
 (refine ce Tryz.func8 ?_;simp only[Tryz.f8];(have hb:=trivial;with_reducible repeat' (first|simp only[hb,Vc.down,seval,jB.down,aaP]|refine Au ?_ ?_<;>intro hb|refine fd ?_|fail)))
 refine Ee (Uf 126 m.sens (fun i (zz:Unit) t h=>t 1=.ptr 0 0 0∧t 3=.int .i64 i∧(h[0]?=some (.live 7 false false [[Ad 3 true m.nS (m.sens.map Bg.cells),Ad 4 false m.nV (m.votes.map Ak.cells),Ad 5 false m.nM (m.moves.map Ai.cells),.int .i64 m.states,.int .i64 m.cmds,.int .i64 m.bgn,Ad 1 true m.nO (m.opn.map iv)]]))) (fun rest zz=>rest.all nR) (fun r e t h=>(if r=true then e=.exit 0∧t 1=.ptr 0 0 0∧h[0]?=some (.live 7 false false [[Ad 3 true m.nS (m.sens.map Bg.cells),Ad 4 false m.nV (m.votes.map Ak.cells),Ad 5 false m.nM (m.moves.map Ai.cells),.int .i64 m.states,.int .i64 m.cmds,.int .i64 m.bgn,Ad 1 true m.nO (m.opn.map iv)]])else e=.ret∧t 2=.bool false)) ?_ ?_ () _ _ ?_) (fun e t h hk=>?_)
 ·rintro _ t h Q' kQ ⟨h1,h3,hA⟩
  (have hb:=trivial;with_reducible repeat' (first|simp only[hb,Vc.down,seval,jB.down,h1,h3,acP,decide_false,hA,aaP]|refine Au ?_ ?_<;>intro hb|refine fd ?_|fail))
  exact kQ _ _ _ (by rw[if_pos (by rfl)];exact⟨rfl,by simp[up,h1],hA⟩)
 ·rintro x rest i _ t h J Q' kJ kQ hx hi ⟨h1,h3,hA⟩
  have hd:decide ((i:Int)<(m.sens.length:Int))=true:=decide_eq_true (by omega)
  have hw:=As hi hs.sens
  have hA1:=Bi hA
  (have hb:=trivial;with_reducible repeat' (first|simp only[hb,Vc.down,seval,jB.down,h1,h3,hd,hx,hw,hA,hA1,Bg.cells,aaP]|refine Au ?_ ?_<;>intro hb|refine fd ?_|fail))
  all_goals first
   |exact kQ _ _ _ (by rw[if_neg (by simp_all)];exact⟨rfl,by simp[up]⟩)
   |(refine Bl (kJ _ _ () ⟨?_,?_,hA1 _⟩ ?_);(simp[up,h1]);(simp[up]);(simp_all))
 ·exact⟨by simp[up,Eg],by simp[up],rfl⟩
 split at hk
 rotate_left
 ·obtain⟨rfl,h2⟩:=hk
  rename_i hr1
  (have hb:=trivial;with_reducible repeat' (first|simp only[hb,Vc.down,seval,jB.down,h2]|refine Au ?_ ?_<;>intro hb|refine fd ?_|fail))
  all_goals simp[Dq,acS.2 hr1]
 obtain⟨rfl,h1,hA⟩:=hk
 rename_i hr1
 have hA1:=Bi hA
 (have hb:=trivial;with_reducible repeat' (first|simp only[hb,Vc.down,seval,jB.down,h1,hA,hA1,aaP]|refine Au ?_ ?_<;>intro hb|refine fd ?_|fail))
 refine Ee (Uf 126 m.votes (fun i (zz:Unit) t h=>t 1=.ptr 0 0 0∧t 5=.int .i64 i∧(h[0]?=some (.live 7 false false [[Ad 3 true m.nS (m.sens.map Bg.cells),Ad 4 false m.nV (m.votes.map Ak.cells),Ad 5 false m.nM (m.moves.map Ai.cells),.int .i64 m.states,.int .i64 m.cmds,.int .i64 m.bgn,Ad 1 true m.nO (m.opn.map iv)]]))) (fun rest zz=>rest.all (Wp m.sens.length)) (fun r e t h=>(if r=true then e=.exit 2∧t 1=.ptr 0 0 0∧h[0]?=some (.live 7 false false [[Ad 3 true m.nS (m.sens.map Bg.cells),Ad 4 false m.nV (m.votes.map Ak.cells),Ad 5 false m.nM (m.moves.map Ai.cells),.int .i64 m.states,.int .i64 m.cmds,.int .i64 m.bgn,Ad 1 true m.nO (m.opn.map iv)]])else e=.ret∧t 2=.bool false)) ?_ ?_ () _ _ ?_) (fun e t h hk=>?_)
 ·rintro _ t h Q' kQ ⟨h1,h5,hA⟩
  (have hb:=trivial;with_reducible repeat' (first|simp only[hb,Vc.down,seval,jB.down,h1,h5,acP,decide_false,hA,aaP]|refine Au ?_ ?_<;>intro hb|refine fd ?_|fail))
  exact kQ _ _ _ (by rw[if_pos (by rfl)];exact⟨rfl,by simp[up,h1],hA⟩)
 ·rintro x rest i _ t h J Q' kJ kQ hx hi ⟨h1,h5,hA⟩
  have hd:decide ((i:Int)<(m.votes.length:Int))=true:=decide_eq_true (by omega)
  have hw:=As hi hs.votes
  have hA1:=Bi hA
  have hV:=ah1 x m.sens.length (hs.vs x (acQ hx))
  (have hb:=trivial;with_reducible repeat' (first|simp only[hb,Vc.down,seval,jB.down,h1,h5,hd,hx,hw,hA,hA1,hV,Ak.cells,aaP]|refine Au ?_ ?_<;>intro hb|refine fd ?_|fail))
  all_goals first
   |exact kQ _ _ _ (by rw[if_neg (by simp_all)];exact⟨rfl,by simp[up]⟩)
   |(refine Bl (kJ _ _ () ⟨?_,?_,hA⟩ ?_);(simp[up,h1]);(simp[up]);(simp_all))
 ·exact⟨by simp[up,Eg,h1],by simp[up],hA⟩
 split at hk
 rotate_left
 ·obtain⟨rfl,h2⟩:=hk
  rename_i hr2
  (have hb:=trivial;with_reducible repeat' (first|simp only[hb,Vc.down,seval,jB.down,h2]|refine Au ?_ ?_<;>intro hb|refine fd ?_|fail))
  all_goals simp[Dq,acS.2 hr2]
 obtain⟨rfl,h1,hA⟩:=hk
 rename_i hr2
 have hA1:=Bi hA
 cases hp:Nb m with
 |false=>
  have hp':Dq m=false:=by simp[Dq,hp]
  rw[hp']
  (have hb:=trivial;with_reducible repeat' (first|simp only[hb,Vc.down,seval,jB.down,h1,hA,hA1,aaP,bB,l1,l2,l3]|refine Au ?_ ?_<;>intro hb|refine fd ?_|fail))
  all_goals first
   |rfl
   |(exfalso;simp_all[Nb];done)
 |true=>
  have hp':=hp
  simp only[Nb,acR]at hp'
  obtain⟨⟨⟨⟨⟨⟨p1,p2⟩,p3⟩,p4⟩,p5⟩,p6⟩,p7⟩:=hp'
  (have hb:=trivial;with_reducible repeat' (first|simp only[hb,Vc.down,seval,jB.down,h1,hA,hA1,aaP,bB,l1,l2,l3,p1,p2,p3,p4,p5,p6,p7]|refine Au ?_ ?_<;>intro hb|refine fd ?_|fail))
  refine Ee (Uf 126 m.opn (fun i (zz:Unit) t h=>t 1=.ptr 0 0 0∧t 6=.int .i64 i∧(h[0]?=some (.live 7 false false [[Ad 3 true m.nS (m.sens.map Bg.cells),Ad 4 false m.nV (m.votes.map Ak.cells),Ad 5 false m.nM (m.moves.map Ai.cells),.int .i64 m.states,.int .i64 m.cmds,.int .i64 m.bgn,Ad 1 true m.nO (m.opn.map iv)]]))) (fun rest zz=>rest.all (fun n=>Po n 0 255)) (fun r e t h=>(if r=true then e=.exit 4∧t 1=.ptr 0 0 0∧h[0]?=some (.live 7 false false [[Ad 3 true m.nS (m.sens.map Bg.cells),Ad 4 false m.nV (m.votes.map Ak.cells),Ad 5 false m.nM (m.moves.map Ai.cells),.int .i64 m.states,.int .i64 m.cmds,.int .i64 m.bgn,Ad 1 true m.nO (m.opn.map iv)]])else e=.ret∧t 2=.bool false)) ?_ ?_ () _ _ ?_) (fun e t h hk=>?_)
  ·rintro _ t h Q' kQ ⟨h1,h6,hA⟩
   (have hb:=trivial;with_reducible repeat' (first|simp only[hb,Vc.down,seval,jB.down,h1,h6,acP,decide_false,hA,aaP]|refine Au ?_ ?_<;>intro hb|refine fd ?_|fail))
   exact kQ _ _ _ (by rw[if_pos (by rfl)];exact⟨rfl,by simp[up,h1],hA⟩)
  ·rintro x rest i _ t h J Q' kJ kQ hx hi ⟨h1,h6,hA⟩
   have hd:decide ((i:Int)<(m.opn.length:Int))=true:=decide_eq_true (by omega)
   have hw:=As hi hs.opn
   have hA1:=Bi hA
   (have hb:=trivial;with_reducible repeat' (first|simp only[hb,Vc.down,seval,jB.down,h1,h6,hd,hx,hw,hA,hA1,bB,iv,aaP]|refine Au ?_ ?_<;>intro hb|refine fd ?_|fail))
   all_goals first
    |exact kQ _ _ _ (by rw[if_neg (by simp_all)];exact⟨rfl,by simp[up]⟩)
    |(refine Bl (kJ _ _ () ⟨?_,?_,hA⟩ ?_);(simp[up,h1]);(simp[up]);(simp_all))
  ·exact⟨by simp[up,Eg,h1],by simp[up],hA⟩
  split at hk
  rotate_left
  ·obtain⟨rfl,h2⟩:=hk
   rename_i hr3
   (have hb:=trivial;with_reducible repeat' (first|simp only[hb,Vc.down,seval,jB.down,h2]|refine Au ?_ ?_<;>intro hb|refine fd ?_|fail))
   all_goals simp[Dq,acS.2 hr3]
  obtain⟨rfl,h1,hA⟩:=hk
  rename_i hr3
  have hA1:=Bi hA
  (have hb:=trivial;with_reducible repeat' (first|simp only[hb,Vc.down,seval,jB.down,h1,hA,hA1,aaP]|refine Au ?_ ?_<;>intro hb|refine fd ?_|fail))
  refine Ee (Uf 126 m.moves (fun i (zz:Unit) t h=>t 1=.ptr 0 0 0∧t 7=.int .i64 i∧(h[0]?=some (.live 7 false false [[Ad 3 true m.nS (m.sens.map Bg.cells),Ad 4 false m.nV (m.votes.map Ak.cells),Ad 5 false m.nM (m.moves.map Ai.cells),.int .i64 m.states,.int .i64 m.cmds,.int .i64 m.bgn,Ad 1 true m.nO (m.opn.map iv)]]))) (fun rest zz=>rest.all (Nv m)) (fun r e t h=>(if r=true then e=.exit 6 else e=.ret∧t 2=.bool false)) ?_ ?_ () _ _ ?_) (fun e t h hk=>?_)
  ·rintro _ t h Q' kQ ⟨h1,h7,hA⟩
   (have hb:=trivial;with_reducible repeat' (first|simp only[hb,Vc.down,seval,jB.down,h1,h7,acP,decide_false,hA,aaP]|refine Au ?_ ?_<;>intro hb|refine fd ?_|fail))
   exact kQ _ _ _ (by rw[if_pos (by rfl)])
  ·rintro x rest i _ t h J Q' kJ kQ hx hi ⟨h1,h7,hA⟩
   have hd:decide ((i:Int)<(m.moves.length:Int))=true:=decide_eq_true (by omega)
   have hw:=As hi hs.moves
   have hA1:=Bi hA
   have hM:=akA m x (hs.ws x (acQ hx))
   (have hb:=trivial;with_reducible repeat' (first|simp only[hb,Vc.down,seval,jB.down,h1,h7,hd,hx,hw,hA,hA1,hM,Ai.cells,aaP]|refine Au ?_ ?_<;>intro hb|refine fd ?_|fail))
   all_goals first
    |exact kQ _ _ _ (by rw[if_neg (by simp_all)];exact⟨rfl,by simp[up]⟩)
    |(refine Bl (kJ _ _ () ⟨?_,?_,hA⟩ ?_);(simp[up,h1]);(simp[up]);(simp_all))
  ·exact⟨by simp[up,Eg,h1],by simp[up],hA⟩
  split at hk
  ·subst hk
   rename_i hr4
   (have hb:=trivial;with_reducible repeat' (first|simp only[hb,Vc.down,seval,jB.down]|refine Au ?_ ?_<;>intro hb|refine fd ?_|fail))
   all_goals simp[Dq,hp,hr1,hr2,hr3,hr4]
  ·obtain⟨rfl,h2⟩:=hk
   rename_i hr4
   (have hb:=trivial;with_reducible repeat' (first|simp only[hb,Vc.down,seval,jB.down,h2]|refine Au ?_ ?_<;>intro hb|refine fd ?_|fail))
   all_goals simp[Dq,acS.2 hr4]
def Su(m:Ap)(l:List Int):Bool:=((l.length:Int)==(m.sens.length:Int))&&l.all Vw
def Nn(m:Ap)(s:Av):Bool:=Su m s.reads&&Po s.cmd (-1) (IntKind.i64.wrap (m.cmds-1))
theorem akF(m:Ap){l:List Int}{nn:Bool}(hl:l.length≤maxLen):Da.call (.fn 58) [.agg [Ad 3 true m.nS (m.sens.map Bg.cells),Ad 4 false m.nV (m.votes.map Ak.cells),Ad 5 false m.nM (m.moves.map Ai.cells),.int .i64 m.states,.int .i64 m.cmds,.int .i64 m.bgn,Ad 1 true m.nO (m.opn.map iv)],Ad 1 true nn (l.map iv)] []=some (.ret (.bool (Su m l)),[]):=by
 have hc:=eK (l:=l) (nn:=nn) (g:=72) (cap:=[]) (p:=fun x=> !Vw x) rfl rfl (fun x _=>afR x) hl
 have q2:l.all Vw= !(l.any fun x=> !Vw x):=acU
 (refine ce Tryz.func58 ?_;simp only[Tryz.f58];(have hb:=trivial;with_reducible repeat' (first|simp only[hb,Vc.down,seval,aoM.down,aaP,hc]|refine Au ?_ ?_<;>intro hb|refine fd ?_|fail)))
 all_goals simp only[Su,q2,hb,aeG,afG]
theorem pB(m:Ap){l:List Int}{nn:Bool}(hl:l.length≤maxLen):Da.call (.fn 33) [.agg [Ad 3 true m.nS (m.sens.map Bg.cells),Ad 4 false m.nV (m.votes.map Ak.cells),Ad 5 false m.nM (m.moves.map Ai.cells),.int .i64 m.states,.int .i64 m.cmds,.int .i64 m.bgn,Ad 1 true m.nO (m.opn.map iv)],Ad 1 true nn (l.map iv)] []=some (.ret (.bool (Su m l)),[]):=by
 (refine ce Tryz.func33 ?_;simp only[Tryz.f33];(have hb:=trivial;with_reducible repeat' (first|simp only[hb,Vc.down,seval,aaU.down,aaP]|refine Au ?_ ?_<;>intro hb|refine fd ?_|fail)))
 refine Ee (Uf 24 l (fun i (zz:Unit) t h=>t 1=Ad 1 true nn (l.map iv)∧t 2=.ptr 0 0 0∧t 5=.int .i64 i∧(h[0]?=some (.live 7 false false [[Ad 3 true m.nS (m.sens.map Bg.cells),Ad 4 false m.nV (m.votes.map Ak.cells),Ad 5 false m.nM (m.moves.map Ai.cells),.int .i64 m.states,.int .i64 m.cmds,.int .i64 m.bgn,Ad 1 true m.nO (m.opn.map iv)]]))) (fun rest zz=>rest.all Vw) (fun r e t h=>(if r=true then e=.exit 0∧t 1=Ad 1 true nn (l.map iv)∧t 2=.ptr 0 0 0∧h[0]?=some (.live 7 false false [[Ad 3 true m.nS (m.sens.map Bg.cells),Ad 4 false m.nV (m.votes.map Ak.cells),Ad 5 false m.nM (m.moves.map Ai.cells),.int .i64 m.states,.int .i64 m.cmds,.int .i64 m.bgn,Ad 1 true m.nO (m.opn.map iv)]])else e=.ret∧t 4=.bool false)) ?_ ?_ () _ _ ?_) (fun e t h hk=>?_)
 ·rintro _ t h Q' kQ ⟨h1,h2,h5,hA⟩
  (have hb:=trivial;with_reducible repeat' (first|simp only[hb,Vc.down,seval,aaU.down,h1,h2,h5,acP,decide_false,aaP]|refine Au ?_ ?_<;>intro hb|refine fd ?_|fail))
  exact kQ _ _ _ (by rw[if_pos (by rfl)];exact⟨rfl,by simp[up,h1],by simp[up,h2],hA⟩)
 ·rintro x rest i _ t h J Q' kJ kQ hx hi ⟨h1,h2,h5,hA⟩
  have hd:decide ((i:Int)<(l.length:Int))=true:=decide_eq_true (by omega)
  have hw:=As hi hl
  have hv:Po x (-10000) 10000=Vw x:=rfl
  (have hb:=trivial;with_reducible repeat' (first|simp only[hb,Vc.down,seval,aaU.down,h1,h2,h5,hd,hx,hw,bB,hv,iv,aaP]|refine Au ?_ ?_<;>intro hb|refine fd ?_|fail))
  all_goals first
   |exact kQ _ _ _ (by rw[if_neg (by simp_all)];exact⟨rfl,by simp[up]⟩)
   |(refine Bl (kJ _ _ () ⟨?_,?_,?_,hA⟩ ?_);(simp[up,h1]);(simp[up,h2]);(simp[up]);(simp_all))
 ·exact⟨by simp[up,Eg],by simp[up,Eg],by simp[up],rfl⟩
 split at hk
 ·obtain⟨rfl,h1,h2,hA⟩:=hk
  rename_i hr1
  have hA1:=Bi hA
  (have hb:=trivial;with_reducible repeat' (first|simp only[hb,Vc.down,seval,aaU.down,h1,h2,hA,hA1,aaP]|refine Au ?_ ?_<;>intro hb|refine fd ?_|fail))
  all_goals simp[Su,hr1]
 ·obtain⟨rfl,h2⟩:=hk
  rename_i hr1
  (have hb:=trivial;with_reducible repeat' (first|simp only[hb,Vc.down,seval,aaU.down,h2]|refine Au ?_ ?_<;>intro hb|refine fd ?_|fail))
  all_goals simp[Su,acS.2 hr1]
theorem rH(m:Ap)(s:Av)(hl:s.reads.length≤maxLen):Da.call (.fn 29) [.agg [Ad 3 true m.nS (m.sens.map Bg.cells),Ad 4 false m.nV (m.votes.map Ak.cells),Ad 5 false m.nM (m.moves.map Ai.cells),.int .i64 m.states,.int .i64 m.cmds,.int .i64 m.bgn,Ad 1 true m.nO (m.opn.map iv)],.agg [Ad 1 true s.nn (s.reads.map iv),.int .i64 s.cmd]] []=some (.ret (.bool (Nn m s)),[]):=by
 have hr:=akF m (nn:=s.nn) hl
 (refine ce Tryz.func29 ?_;simp only[Tryz.f29];(have hb:=trivial;with_reducible repeat' (first|simp only[hb,Vc.down,seval,aoX.down,hr,Yk]|refine Au ?_ ?_<;>intro hb|refine fd ?_|fail)))
 all_goals simp_all[Nn]
theorem aj0(m:Ap)(s:Av)(hl:s.reads.length≤maxLen):Da.call (.fn 10) [.agg [Ad 3 true m.nS (m.sens.map Bg.cells),Ad 4 false m.nV (m.votes.map Ak.cells),Ad 5 false m.nM (m.moves.map Ai.cells),.int .i64 m.states,.int .i64 m.cmds,.int .i64 m.bgn,Ad 1 true m.nO (m.opn.map iv)],.agg [Ad 1 true s.nn (s.reads.map iv),.int .i64 s.cmd]] []=some (.ret (.bool (Nn m s)),[]):=by
 have hr:=pB m (nn:=s.nn) hl
 (refine ce Tryz.func10 ?_;simp only[Tryz.f10];(have hb:=trivial;with_reducible repeat' (first|simp only[hb,Vc.down,seval,aoS.down,hr,bB]|refine Au ?_ ?_<;>intro hb|refine fd ?_|fail)))
 all_goals simp_all[Nn]
def mQ(m:Ap)(k:Int):Bg:=m.sens.getD k.toNat ⟨0,0,false⟩
def rAt(l:List Int)(k:Int):Int:=l.getD k.toNat 0
theorem pL{m:Ap}{k:Int}(h:k.toNat<m.sens.length):m.sens[k.toNat]?=some (mQ m k):=by
 simp[mQ,List.getD,af2 h]
theorem qZ{l:List Int}{k:Int}(h:k.toNat<l.length):l[k.toNat]?=some (rAt l k):=by
 simp[rAt,List.getD,af2 h]
def iP(m:Ap)(v:Ak)(l:List Int):List Int→Int→Int
 | [],c=>c
 |k::ks,c=>iP m v l ks (if Zj (mQ m k) v (rAt l k)=true then IntKind.i64.wrap (c+1)else c)
def Xc(m:Ap)(l:List Int)(v:Ak):Bool:=decide (v.need≤iP m v l v.sens 0)
def Idx(m:Ap)(l:List Int):Prop:=∀k∈l,0≤k∧k.toNat<m.sens.length
theorem pK{n:Nat}(hn:n≤6):∀{l:List Int} {p:Option Int},Qg n l p=true→∀k∈l,0≤k∧k.toNat<n
 | [],_,_,k,h=>by cases h
 |x::l,p,h,k,hk=>by
  simp only[Qg,acR]at h
  rcases List.mem_cons.1 hk with rfl|hk
  ·have:=h.1.1
   rw[Is (by omega) (by omega)]at this
   simp[Po]at this
   omega
  ·exact pK hn h.2 k hk
theorem lV{m:Ap}(h:Dq m=true):∀v∈m.votes,Idx m v.sens:=fun v hv=>by
 simp only[Dq,Nb,acR,decide_eq_true_eq,agA]at h
 have h2:=h.1.1.2 v hv
 simp only[Wp,acR]at h2
 exact pK h.1.1.1.1.1.1.1.1.1.1 h2.1.1
theorem ai6(m:Ap)(v:Ak)(k r:Int)(h0:0≤k)(hk:k.toNat<m.sens.length):Da.call (.fn 77) [.agg [Ad 3 true m.nS (m.sens.map Bg.cells),Ad 4 false m.nV (m.votes.map Ak.cells),Ad 5 false m.nM (m.moves.map Ai.cells),.int .i64 m.states,.int .i64 m.cmds,.int .i64 m.bgn,Ad 1 true m.nO (m.opn.map iv)],.agg [Ad 1 true v.nn (v.sens.map iv),.int .i64 v.need,.int .i64 v.level,.bool v.above],.int .i64 k,.int .i64 r] []=some (.ret (.bool (Zj (mQ m k) v r)),[]):=by
 have hs:=pL hk
 have h0':(0≤k)=True:=eq_true h0
 have e:Zj (mQ m k) v r=(!(mQ m k).byp&&((decide (r<(mQ m k).lo)||decide ((mQ m k).hi<r))||((v.above&&decide (v.level≤r))||(!v.above&&decide (r≤v.level))))):=by
  have q:(!Po r (mQ m k).lo (mQ m k).hi)=(decide (r<(mQ m k).lo)||decide ((mQ m k).hi<r)):=by rw[afV];simp[Po]<;>try omega
  unfold Zj
  rw[q]
  cases v.above<;>simp
 rw[e]
 generalize mQ m k=s at hs
 (refine ce Tryz.func77 ?_;simp only[Tryz.f77];(have hb:=trivial;with_reducible repeat' (first|simp only[hb,Vc.down,seval,aoO.down,hs,h0',Bg.cells]|refine Au ?_ ?_<;>intro hb|refine fd ?_|fail)))
 all_goals simp_all
theorem anZ(m:Ap)(v:Ak){l:List Int}{nn:Bool}(hl:l.length=m.sens.length)(hv:v.sens.length≤maxLen)(hi:Idx m v.sens):Da.call (.fn 61) [.agg [Ad 3 true m.nS (m.sens.map Bg.cells),Ad 4 false m.nV (m.votes.map Ak.cells),Ad 5 false m.nM (m.moves.map Ai.cells),.int .i64 m.states,.int .i64 m.cmds,.int .i64 m.bgn,Ad 1 true m.nO (m.opn.map iv)],.agg [Ad 1 true v.nn (v.sens.map iv),.int .i64 v.need,.int .i64 v.level,.bool v.above],Ad 1 true nn (l.map iv)] []=some (.ret (.bool (Xc m l v)),[]):=by
 have hI:=hi
 clear hi
 (refine ce Tryz.func61 ?_;simp only[Tryz.f61];(have hb:=trivial;with_reducible repeat' (first|simp only[hb,Vc.down,seval,aeK.down,aaP]|refine Au ?_ ?_<;>intro hb|refine fd ?_|fail)))
 refine Ee (Uf 38 v.sens (fun i (zz:Int) t h=>t 2=Ad 1 true nn (l.map iv)∧t 3=.ptr 0 0 0∧t 4=.ptr 1 0 0∧t 8=.int .i64 i∧t 7=.int .i64 zz∧(h=[.live 7 false false [[Ad 3 true m.nS (m.sens.map Bg.cells),Ad 4 false m.nV (m.votes.map Ak.cells),Ad 5 false m.nM (m.moves.map Ai.cells),.int .i64 m.states,.int .i64 m.cmds,.int .i64 m.bgn,Ad 1 true m.nO (m.opn.map iv)]],.live 4 false false [[Ad 1 true v.nn (v.sens.map iv),.int .i64 v.need,.int .i64 v.level,.bool v.above]]])) (fun rest zz=>iP m v l rest zz) (fun r e t h=>e=.exit 0∧t 4=.ptr 1 0 0∧t 7=.int .i64 r∧h=[.live 7 false false [[Ad 3 true m.nS (m.sens.map Bg.cells),Ad 4 false m.nV (m.votes.map Ak.cells),Ad 5 false m.nM (m.moves.map Ai.cells),.int .i64 m.states,.int .i64 m.cmds,.int .i64 m.bgn,Ad 1 true m.nO (m.opn.map iv)]],.live 4 false false [[Ad 1 true v.nn (v.sens.map iv),.int .i64 v.need,.int .i64 v.level,.bool v.above]]]) ?_ ?_ (0) _ _ ?_) (fun e t h hk=>?_)
 ·rintro c t h Q' kQ ⟨h2,h3,h4,h8,h7,rfl⟩
  (have hb:=trivial;with_reducible repeat' (first|simp only[hb,Vc.down,seval,aeK.down,h2,h3,h4,h8,h7,acP,decide_false,aaP]|refine Au ?_ ?_<;>intro hb|refine fd ?_|fail))
  exact kQ _ _ _ ⟨rfl,by simp[up,h4],by simp[up,h7,iP],rfl⟩
 ·rintro x rest i c t h J Q' kJ kQ hx hi ⟨h2,h3,h4,h8,h7,rfl⟩
  have hd:decide ((i:Int)<(v.sens.length:Int))=true:=decide_eq_true (by omega)
  have hw:=As hi hv
  obtain⟨k0,k1⟩:=hI x (acQ hx)
  have hrr:=qZ (l:=l) (k:=x) (by omega)
  have h0':(0≤x)=True:=eq_true k0
  have hS:=ai6 m v x (rAt l x) k0 k1
  generalize hq:Zj (mQ m x) v (rAt l x)=q at hS
  (have hb:=trivial;with_reducible repeat' (first|simp only[hb,Vc.down,seval,aeK.down,h2,h3,h4,h7,h8,hd,hx,hw,hrr,h0',hS,iv,aaP]|refine Au ?_ ?_<;>intro hb|refine fd ?_|fail))
  all_goals (refine Bl (kJ _ _ (if q=true then IntKind.i64.wrap (c+1)else c) ⟨?_,?_,?_,?_,?_,rfl⟩ ?_);(simp[up,h2]);(simp[up,h3]);(simp[up,h4]);(simp[up]);(simp[up,h7,hb]);(simp[iP,hq]))
 ·exact⟨by simp[up,Eg],by simp[up,Eg],by simp[up,Eg],by simp[up],by simp[up,Eg],rfl⟩
 obtain⟨rfl,h4,h7,rfl⟩:=hk
 (have hb:=trivial;with_reducible repeat' (first|simp only[hb,Vc.down,seval,aeK.down,h4,h7]|refine Au ?_ ?_<;>intro hb|refine fd ?_|fail))
 rfl
def orN(a b:Int):Int:=IntKind.i64.wrap ((BitVec.ofInt 64 a|||BitVec.ofInt 64 b).toNat:Int)
theorem amR(ty:TypeId)(a b:Int):Ed Tryz.prog .or ty (.int .i64 a) (.int .i64 b)=some (.int .i64 (orN a b)):=by
 show(if IntKind.i64=IntKind.i64 then Gg .or .i64 a b else none)=_
 rw[if_pos rfl];rfl
def Ks(m:Ap)(l:List Int):List Ak→Nat→Int→Int
 | [],_,b=>b
 |v::vs,i,b=>Ks m l vs (i+1) (if Xc m l v=true then orN b (wR i)else b)
theorem qU(m:Ap){l:List Int}{nn:Bool}(hl:l.length=m.sens.length)(hs:m.small)(hi:∀v∈m.votes,Idx m v.sens):Da.call (.fn 31) [.agg [Ad 3 true m.nS (m.sens.map Bg.cells),Ad 4 false m.nV (m.votes.map Ak.cells),Ad 5 false m.nM (m.moves.map Ai.cells),.int .i64 m.states,.int .i64 m.cmds,.int .i64 m.bgn,Ad 1 true m.nO (m.opn.map iv)],Ad 1 true nn (l.map iv)] []=some (.ret (.int .i64 (Ks m l m.votes 0 0)),[]):=by
 have hI:=hi
 clear hi
 (refine ce Tryz.func31 ?_;simp only[Tryz.f31];(have hb:=trivial;with_reducible repeat' (first|simp only[hb,Vc.down,seval,nU.down,aaP]|refine Au ?_ ?_<;>intro hb|refine fd ?_|fail)))
 refine Ee (Uf 50 m.votes (fun i (zz:Nat × Int) t h=>t 1=Ad 1 true nn (l.map iv)∧t 2=.ptr 0 0 0∧t 12=Ad 4 false m.nV (m.votes.map Ak.cells)∧t 13=.int .i64 m.votes.length∧t 14=.int .i64 i∧t 5=.int .i64 zz.2∧(h[0]?=some (.live 7 false false [[Ad 3 true m.nS (m.sens.map Bg.cells),Ad 4 false m.nV (m.votes.map Ak.cells),Ad 5 false m.nM (m.moves.map Ai.cells),.int .i64 m.states,.int .i64 m.cmds,.int .i64 m.bgn,Ad 1 true m.nO (m.opn.map iv)]])∧i=zz.1)) (fun rest zz=>Ks m l rest zz.1 zz.2) (fun r e t h=>e=.exit 0∧t 5=.int .i64 r) ?_ ?_ (0,0) _ _ ?_) (fun e t h hk=>?_)
 ·rintro⟨k,b⟩ t h Q' kQ ⟨h1,h2,h12,h13,h14,h5,⟨hA,rfl⟩⟩
  try dsimp only at *
  (have hb:=trivial;with_reducible repeat' (first|simp only[hb,Vc.down,seval,nU.down,h1,h2,h12,h13,h14,h5,acP,decide_false]|refine Au ?_ ?_<;>intro hb|refine fd ?_|fail))
  exact kQ _ _ _ ⟨rfl,by simp[up,h5,Ks]⟩
 ·rintro x rest i ⟨k,b⟩ t h J Q' kJ kQ hx hi ⟨h1,h2,h12,h13,h14,h5,⟨hA,rfl⟩⟩
  have hd:decide ((i:Int)<(m.votes.length:Int))=true:=decide_eq_true (by omega)
  have hw:=As hi hs.votes
  try dsimp only at *
  have hA1:=Bi hA
  have hvs:=hs.vs x (acQ hx)
  have hIx:=hI x (acQ hx)
  obtain⟨w,rfl⟩:∃w,w=x:=⟨_,rfl⟩
  obtain⟨k,rfl⟩:∃k,k=i:=⟨_,rfl⟩
  obtain⟨hL,hLe⟩:∃hL,hL=h.length:=⟨_,rfl⟩
  (have hb:=trivial;with_reducible repeat' (first|simp only[hb,Vc.down,seval,nU.down,h1,h2,h12,h13,h14,h5,hd,hx,hw,hA1,Ak.cells,aaP]|refine Au ?_ ?_<;>intro hb|refine fd ?_|fail))
  refine Ee (Uf 50 w.sens (fun i (zz:Int) t h=>t 1=Ad 1 true nn (l.map iv)∧t 2=.ptr 0 0 0∧t 12=Ad 4 false m.nV (m.votes.map Ak.cells)∧t 13=.int .i64 m.votes.length∧t 14=.int .i64 (k:Int)∧t 5=.int .i64 b∧t 6=.int .i64 (k:Int)∧t 7=.ptr hL 0 0∧t 20=Ad 1 true w.nn (w.sens.map iv)∧t 21=.int .i64 w.sens.length∧t 22=.int .i64 i∧t 8=.int .i64 zz∧(h[0]?=some (.live 7 false false [[Ad 3 true m.nS (m.sens.map Bg.cells),Ad 4 false m.nV (m.votes.map Ak.cells),Ad 5 false m.nM (m.moves.map Ai.cells),.int .i64 m.states,.int .i64 m.cmds,.int .i64 m.bgn,Ad 1 true m.nO (m.opn.map iv)]])∧∃wf,h[hL]?=some (.live 4 false wf [[Ad 1 true w.nn (w.sens.map iv),.int .i64 w.need,.int .i64 w.level,.bool w.above]]))) (fun rest zz=>iP m w l rest zz) (fun r e t h=>e=.exit 2∧t 1=Ad 1 true nn (l.map iv)∧t 2=.ptr 0 0 0∧t 12=Ad 4 false m.nV (m.votes.map Ak.cells)∧t 13=.int .i64 m.votes.length∧t 14=.int .i64 (k:Int)∧t 5=.int .i64 b∧t 6=.int .i64 (k:Int)∧t 7=.ptr hL 0 0∧t 8=.int .i64 r∧h[0]?=some (.live 7 false false [[Ad 3 true m.nS (m.sens.map Bg.cells),Ad 4 false m.nV (m.votes.map Ak.cells),Ad 5 false m.nM (m.moves.map Ai.cells),.int .i64 m.states,.int .i64 m.cmds,.int .i64 m.bgn,Ad 1 true m.nO (m.opn.map iv)]])∧∃wf,h[hL]?=some (.live 4 false wf [[Ad 1 true w.nn (w.sens.map iv),.int .i64 w.need,.int .i64 w.level,.bool w.above]])) ?_ ?_ (0) _ _ ?_) (fun e tC hC hk=>?_)
  ·rintro c t h Q' kQ ⟨h1,h2,h12,h13,h14,h5,h6,h7,h20,h21,h22,h8,⟨hA,wf,hB⟩⟩
   (have hb:=trivial;with_reducible repeat' (first|simp only[hb,Vc.down,seval,nU.down,h1,h2,h12,h13,h14,h5,h6,h7,h20,h21,h22,h8,acP,decide_false]|refine Au ?_ ?_<;>intro hb|refine fd ?_|fail))
   exact kQ _ _ _ ⟨rfl,by simp[up,h1],by simp[up,h2],by simp[up,h12],by simp[up,h13],by simp[up,h14],by simp[up,h5],by simp[up,h6],by simp[up,h7],by simp[up,h8,iP],hA,wf,hB⟩
  ·rintro x rest i c t h J Q' kJ kQ hx hi ⟨h1,h2,h12,h13,h14,h5,h6,h7,h20,h21,h22,h8,⟨hA,wf,hB⟩⟩
   have hd:decide ((i:Int)<(w.sens.length:Int))=true:=decide_eq_true (by omega)
   have hw:=As hi hvs
   obtain⟨k0,k1⟩:=hIx x (acQ hx)
   have hrr:=qZ (l:=l) (k:=x) (by omega)
   have hss:=pL k1
   have h0':(0≤x)=True:=eq_true k0
   have hS:=aiB (mQ m x) w (rAt l x)
   generalize hq:Zj (mQ m x) w (rAt l x)=q at hS
   generalize mQ m x=s at hss hS
   (have hb:=trivial;with_reducible repeat' (first|simp only[hb,Vc.down,seval,nU.down,h1,h2,h7,h8,h20,h21,h22,hd,hx,hw,hrr,hss,h0',hA,hB,hS,iv,Bg.cells,aaP]|refine Au ?_ ?_<;>intro hb|refine fd ?_|fail))
   all_goals (refine Bl (kJ _ _ (if q=true then IntKind.i64.wrap (c+1)else c) ⟨?_,?_,?_,?_,?_,?_,?_,?_,?_,?_,?_,?_,⟨hA,wf,hB⟩⟩ ?_);(simp[up,h1]);(simp[up,h2]);(simp[up,h12]);(simp[up,h13]);(simp[up,h14]);(simp[up,h5]);(simp[up,h6]);(simp[up,h7]);(simp[up,h20]);(simp[up,h21]);(simp[up]);(simp[up,h8,hb]);(simp[iP,hq]))
  ·exact⟨by simp[up,Eg,h1,h2,h12,h13,h14,h5,hLe],by simp[up,Eg,h1,h2,h12,h13,h14,h5,hLe],by simp[up,Eg,h1,h2,h12,h13,h14,h5,hLe],by simp[up,Eg,h1,h2,h12,h13,h14,h5,hLe],by simp[up,Eg,h1,h2,h12,h13,h14,h5,hLe],by simp[up,Eg,h1,h2,h12,h13,h14,h5,hLe],by simp[up,Eg,h1,h2,h12,h13,h14,h5,hLe],by simp[up,Eg,h1,h2,h12,h13,h14,h5,hLe],by simp[up,Eg,h1,h2,h12,h13,h14,h5,hLe],by simp[up,Eg,h1,h2,h12,h13,h14,h5,hLe],by simp[up],by simp[up,Eg,h1,h2,h12,h13,h14,h5,hLe],⟨hA1 _,true,by rw[hLe];simp⟩⟩
  ·obtain⟨rfl,h1,h2,h12,h13,h14,h5,h6,h7,h8,hA,wf,hB⟩:=hk
   have hy:decide (w.need≤iP m w l w.sens 0)=Xc m l w:=rfl
   (have hb:=trivial;with_reducible repeat' (first|simp only[hb,Vc.down,seval,nU.down,h1,h2,h12,h13,h14,h5,h6,h7,h8,hA,hB,hw,hy,amR]|refine Au ?_ ?_<;>intro hb|refine fd ?_|fail))
   all_goals (refine Bl (kJ _ _ (k+1,(if Xc m l w=true then orN b (wR k)else b)) ⟨?_,?_,?_,?_,?_,?_,⟨hA,rfl⟩⟩ ?_);(simp[up,h1]);(simp[up,h2]);(simp[up,h12]);(simp[up,h13]);(simp[up]);(simp[up,h5,hb]);(simp[Ks]))
 ·exact⟨by simp[up,Eg],by simp[up,Eg],by simp[up,Eg],by simp[up,Eg],by simp[up],by simp[up,Eg],⟨rfl,rfl⟩⟩
 obtain⟨rfl,h5⟩:=hk
 (have hb:=trivial;with_reducible repeat' (first|simp only[hb,Vc.down,seval,nU.down,h5]|refine Au ?_ ?_<;>intro hb|refine fd ?_|fail))
def bv(b:Bool):List AV:=[.bool b]
theorem iD{h:Aa}{b:Nat}(hb:b<h.length)(l:Aa)(c:CB):(h++l).set b c=h.set b c++l:=List.set_append_left _ _ hb
theorem bW{h:Aa}{b:Nat}(c:CB)(l:Aa):(h.set b c++l)[h.length]?=l[0]?:=by
 have:=pG (h.set b c) l
 rwa[acV]at this
theorem Wn{h:Aa}{b:Nat}(c:CB)(l:Aa)(k:Nat):(h.set b c++l)[h.length+k]?=l[k]?:=by
 have:=iQ (h.set b c) l k
 rwa[acV]at this
theorem acY{h:Aa}{b b':Nat}{x:CB}(c:CB)(hne:b≠b')(hb:h[b']?=some x)(l:Aa):(h.set b c++l)[b']?=some x:=by
 rw[List.getElem?_append_left (by rw[acV];exact(acT.1 hb).1),List.getElem?_set_ne hne];exact hb
def af7(v:AV)(i:Nat)(rows:List (List AV))(h:Aa):Prop:=(i=0∧v=.nils)∨(0<i∧∃b,0<b∧v=.slr 1 b 0 i∧h[b]?=some (.live 1 true false rows))
theorem ac8(m:Ap){l:List Int}{nn:Bool}(hl:l.length=m.sens.length)(hs:m.small)(h6:m.votes.length≤6)(hi:∀v∈m.votes,Idx m v.sens)(o:Dp)(h':Aa)(c0:m.votes=[]→(o,h')=(.ret .nils,[]))(c1:m.votes≠[]→(o,h')=(.ret (.slr 1 0 0 m.votes.length),[.live 1 true false ((m.votes.map (Xc m l)).map bv)])):
 Da.call (.fn 34) [.agg [Ad 3 true m.nS (m.sens.map Bg.cells),Ad 4 false m.nV (m.votes.map Ak.cells),Ad 5 false m.nM (m.moves.map Ai.cells),.int .i64 m.states,.int .i64 m.cmds,.int .i64 m.bgn,Ad 1 true m.nO (m.opn.map iv)],Ad 1 true nn (l.map iv)] []=some (o,h'):=by
 have hI:=hi
 clear hi
 (refine ce Tryz.func34 ?_;simp only[Tryz.f34];(have hb:=trivial;with_reducible repeat' (first|simp only[hb,Vc.down,seval,wC.down,aaP]|refine Au ?_ ?_<;>intro hb|refine fd ?_|fail)))
 refine Ee (Uf 26 m.votes (fun i (zz:List Bool) t h=>t 1=Ad 1 true nn (l.map iv)∧t 2=.ptr 0 0 0∧t 6=.int .i64 i∧(h[0]?=some (.live 7 false false [[Ad 3 true m.nS (m.sens.map Bg.cells),Ad 4 false m.nV (m.votes.map Ak.cells),Ad 5 false m.nM (m.moves.map Ai.cells),.int .i64 m.states,.int .i64 m.cmds,.int .i64 m.bgn,Ad 1 true m.nO (m.opn.map iv)]])∧zz.length=i∧af7 (t 5) i (zz.map bv) h)) (fun rest zz=>zz++rest.map (Xc m l)) (fun r e t h=>e=.exit 0∧af7 (t 5) m.votes.length (r.map bv) h) ?_ ?_ ([]) _ _ ?_) (fun e t h hk=>?_)
 ·rintro a t h Q' kQ ⟨h1,h2,h6,⟨hA,hp,hc⟩⟩
  (have hb:=trivial;with_reducible repeat' (first|simp only[hb,Vc.down,seval,wC.down,h1,h2,h6,acP,decide_false,hA,aaP]|refine Au ?_ ?_<;>intro hb|refine fd ?_|fail))
  exact kQ _ _ _ ⟨rfl,by simpa [up]using hc⟩
 ·rintro x rest i a t h J Q' kJ kQ hx hi ⟨h1,h2,h6,⟨hA,hp,hc⟩⟩
  have hd:decide ((i:Int)<(m.votes.length:Int))=true:=decide_eq_true (by omega)
  have hw:=As hi hs.votes
  have hV:=anZ m x (l:=l) (nn:=nn) hl (hs.vs x (acQ hx)) (hI x (acQ hx))
  have hA1:=Bi hA
  have h0l:0<h.length:=(acT.1 hA).1
  rcases hc with⟨rfl,ho⟩|⟨h0,b,hb0,ho,hb⟩
  ·simp only[Int.natCast_zero]at hd
   (have hb:=trivial;with_reducible repeat' (first|simp only[hb,Vc.down,seval,wC.down,h1,h2,h6,ho,hd,hw,hx,hA,hA1,hV,Ak.cells,aaP]|refine Au ?_ ?_<;>intro hb|refine fd ?_|fail))
   obtain rfl:a=[]:=agG.1 hp
   (refine Bl (kJ _ _ [Xc m l x] ⟨?_,?_,?_,⟨hA1 _,rfl,.inr ⟨by omega,h.length+1,by omega,by simp[up],by rw[iQ];simp[bv]⟩⟩⟩ ?_);(simp[up,h1]);(simp[up,h2]);(simp[up]);(simp))
  ·have hbl:b<h.length:=(acT.1 hb).1
   have hB:=Bi hb
   have hS:=iD hbl
   have hlp:0+i=a.length:=by omega
   have hi39:(i+1≤549755813888)=True:=eq_true (by omega)
   (have hb:=trivial;with_reducible repeat' (first|simp only[hb,Vc.down,seval,wC.down,h1,h2,h6,ho,hd,hw,hx,hA,hA1,hV,Ak.cells,aaP,hB,hS,bW,Wn,acV,hp,hi39]|refine Au ?_ ?_<;>intro hb|refine fd ?_|fail))
   (refine Bl (kJ _ _ (a++[Xc m l x]) ⟨?_,?_,?_,⟨acY _ (by omega) hA _,by simp[hp],.inr ⟨by omega,h.length+1,by omega,by simp[up],by rw[Wn];simp[bv]⟩⟩⟩ ?_);(simp[up,h1]);(simp[up,h2]);(simp[up]);(simp))
 ·exact⟨by simp[up,Eg],by simp[up,Eg],by simp[up],⟨rfl,rfl,.inl ⟨rfl,by simp[up]⟩⟩⟩
 obtain⟨rfl,⟨hn,ho⟩|⟨hn,b,hb0,ho,hb⟩⟩:=hk
 ·rw[c0 (agG.1 hn)]
  (have hb:=trivial;with_reducible repeat' (first|simp only[hb,Vc.down,seval,wC.down,ho]|refine Au ?_ ?_<;>intro hb|refine fd ?_|fail))
 ·rw[c1 (fun e=>by rw[e]at hn;simp at hn)]
  (with_reducible repeat' (first|simp only[hb,Vc.down,seval,wC.down,ho,hb]|refine Au ?_ ?_<;>intro hb|refine fd ?_|fail))
def Ui:List Bool→Nat→Int→Int
 | [],_,b=>b
 |v::vs,i,b=>Ui vs (i+1) (if v=true then orN b (wR i)else b)
theorem qC(m:Ap)(l:List Int):∀(vs:List Ak) (i:Nat) (b:Int),Ks m l vs i b=Ui (vs.map (Xc m l)) i b
 | [],_,_=>rfl
 |v::vs,i,b=>by simp only[Ks,List.map_cons,Ui];exact qC m l vs _ _
def Na(b v:Int):Bool:=alR (ahL b v.toNat)==1
theorem ag7:∀(l:List Bool),l.length≤6→∀i:Nat,i<l.length→l[i]?=some (Na (Ui l 0 0) i)
 | [],_,i,h=>by simp at h
 | [a],_,i,h=>by
   have:∀a:Bool,∀i:Fin 1,[a][i.val]?=some (Na (Ui [a] 0 0) (i.val:Nat)):=by decide+kernel
   exact this a ⟨i,h⟩
 | [a,b],_,i,h=>by
   have:∀a b:Bool,∀i:Fin 2,[a,b][i.val]?=some (Na (Ui [a,b] 0 0) (i.val:Nat)):=by decide+kernel
   exact this a b ⟨i,h⟩
 | [a,b,c],_,i,h=>by
   have:∀a b c:Bool,∀i:Fin 3,[a,b,c][i.val]?=some (Na (Ui [a,b,c] 0 0) (i.val:Nat)):=by decide+kernel
   exact this a b c ⟨i,h⟩
 | [a,b,c,d],_,i,h=>by
   have:∀a b c d:Bool,∀i:Fin 4,[a,b,c,d][i.val]?=some (Na (Ui [a,b,c,d] 0 0) (i.val:Nat)):=by decide+kernel
   exact this a b c d ⟨i,h⟩
 | [a,b,c,d,e],_,i,h=>by
   have:∀a b c d e:Bool,∀i:Fin 5,[a,b,c,d,e][i.val]?=some (Na (Ui [a,b,c,d,e] 0 0) (i.val:Nat)):=by decide+kernel
   exact this a b c d e ⟨i,h⟩
 | [a,b,c,d,e,f],_,i,h=>by
   have:∀a b c d e f:Bool,∀i:Fin 6,[a,b,c,d,e,f][i.val]?=some (Na (Ui [a,b,c,d,e,f] 0 0) (i.val:Nat)):=by decide+kernel
   exact this a b c d e f ⟨i,h⟩
 |_::_::_::_::_::_::_::_,h,_,_=>by simp only[List.length_cons]at h;omega
theorem abJ(a b:Bool):Ed Tryz.prog .neq 4 (.bool a) (.bool b)=some (.bool (!(a==b))):=by cases a<;>cases b<;>kernel_rfl
structure Up where
 frm:Int
 to:Int
 nn:Bool
 wants:List Aq
 cmd:Int
 after:Int
 st:Int
 ag:Int
 bits:Int
 com:Int
theorem akH(n:Up):Da.call (.fn 73) [.agg [.int .i64 n.frm,.int .i64 n.to,Ad 2 true n.nn (n.wants.map Aq.cells),.int .i64 n.cmd,.int .i64 n.after,.int .i64 n.st,.int .i64 n.ag,.int .i64 n.bits,.int .i64 n.com]] []=some (.ret (.bool (n.frm==n.st)),[]):=by
 (refine ce Tryz.func73 ?_;simp only[Tryz.f73];(have hb:=trivial;with_reducible repeat' (first|simp only[hb,Vc.down,seval,ao9.down]|refine Au ?_ ?_<;>intro hb|refine fd ?_|fail)))
theorem amP(n:Up):Da.call (.fn 74) [.agg [.int .i64 n.frm,.int .i64 n.to,Ad 2 true n.nn (n.wants.map Aq.cells),.int .i64 n.cmd,.int .i64 n.after,.int .i64 n.st,.int .i64 n.ag,.int .i64 n.bits,.int .i64 n.com]] []=some (.ret (.bool (decide (n.after≤n.ag))),[]):=by
 (refine ce Tryz.func74 ?_;simp only[Tryz.f74];(have hb:=trivial;with_reducible repeat' (first|simp only[hb,Vc.down,seval,ao5.down]|refine Au ?_ ?_<;>intro hb|refine fd ?_|fail)))
theorem ahC(n:Up):Da.call (.fn 76) [.agg [.int .i64 n.frm,.int .i64 n.to,Ad 2 true n.nn (n.wants.map Aq.cells),.int .i64 n.cmd,.int .i64 n.after,.int .i64 n.st,.int .i64 n.ag,.int .i64 n.bits,.int .i64 n.com]] []=some (.ret (.bool (n.cmd== -1||n.cmd==n.com)),[]):=by
 (refine ce Tryz.func76 ?_;simp only[Tryz.f76];(have hb:=trivial;with_reducible repeat' (first|simp only[hb,Vc.down,seval,aoI.down]|refine Au ?_ ?_<;>intro hb|refine fd ?_|fail)))
 all_goals simp_all
theorem rQ(n:Up)(w:Aq)(h0:0≤w.vote):Da.call (.fn 82) [.agg [.int .i64 w.vote,.bool w.is],.ptr 0 0 0] [.live 9 false false [[.int .i64 n.frm,.int .i64 n.to,Ad 2 true n.nn (n.wants.map Aq.cells),.int .i64 n.cmd,.int .i64 n.after,.int .i64 n.st,.int .i64 n.ag,.int .i64 n.bits,.int .i64 n.com]]]=some (.ret (.bool (!(Na n.bits w.vote==w.is))),[.live 9 false false [[.int .i64 n.frm,.int .i64 n.to,Ad 2 true n.nn (n.wants.map Aq.cells),.int .i64 n.cmd,.int .i64 n.after,.int .i64 n.st,.int .i64 n.ag,.int .i64 n.bits,.int .i64 n.com]]]):=by
 obtain⟨v,is⟩:=w
 obtain⟨k,hk⟩:∃k:Nat,v=k:=⟨v.toNat,by simp at h0;omega⟩
 subst hk
 (refine ce Tryz.func82 ?_;simp only[Tryz.f82];(have hb:=trivial;with_reducible repeat' (first|simp only[hb,Vc.down,seval,ao6.down,abJ]|refine Au ?_ ?_<;>intro hb|refine fd ?_|fail)))
 all_goals simp[Na]
theorem pC{l:List Aq}{nn:Bool}{g:Nat}{ndq:Up}{p:Aq→Bool}(hp:∀x∈l,Da.call (.fn g) (.agg [.int .i64 x.vote,.bool x.is]::[.ptr 0 0 0]) [.live 9 false false [[.int .i64 ndq.frm,.int .i64 ndq.to,Ad 2 true ndq.nn (ndq.wants.map Aq.cells),.int .i64 ndq.cmd,.int .i64 ndq.after,.int .i64 ndq.st,.int .i64 ndq.ag,.int .i64 ndq.bits,.int .i64 ndq.com]]]=some (.ret (.bool (p x)),[.live 9 false false [[.int .i64 ndq.frm,.int .i64 ndq.to,Ad 2 true ndq.nn (ndq.wants.map Aq.cells),.int .i64 ndq.cmd,.int .i64 ndq.after,.int .i64 ndq.st,.int .i64 ndq.ag,.int .i64 ndq.bits,.int .i64 ndq.com]]]))(hl:l.length≤maxLen):
 Da.call (.fn 81) [Ad 2 true nn (l.map Aq.cells),.func (.func g) [] [.ptr 0 0 0]] [.live 9 false false [[.int .i64 ndq.frm,.int .i64 ndq.to,Ad 2 true ndq.nn (ndq.wants.map Aq.cells),.int .i64 ndq.cmd,.int .i64 ndq.after,.int .i64 ndq.st,.int .i64 ndq.ag,.int .i64 ndq.bits,.int .i64 ndq.com]]]=some (.ret (.int .i64 (gY p l 0)),[.live 9 false false [[.int .i64 ndq.frm,.int .i64 ndq.to,Ad 2 true ndq.nn (ndq.wants.map Aq.cells),.int .i64 ndq.cmd,.int .i64 ndq.after,.int .i64 ndq.st,.int .i64 ndq.ag,.int .i64 ndq.bits,.int .i64 ndq.com]]]):=by
 (refine ce Tryz.func81 ?_;simp only[Tryz.f81];(have hb:=trivial;with_reducible repeat' (first|simp only[hb,Vc.down,seval,dL.down,aaP]|refine Au ?_ ?_<;>intro hb|refine fd ?_|fail)))
 refine Ee (Uf 19 l (fun i (s:Int) t h=>s=i∧h=[.live 9 false false [[.int .i64 ndq.frm,.int .i64 ndq.to,Ad 2 true ndq.nn (ndq.wants.map Aq.cells),.int .i64 ndq.cmd,.int .i64 ndq.after,.int .i64 ndq.st,.int .i64 ndq.ag,.int .i64 ndq.bits,.int .i64 ndq.com]]]∧t 0=Ad 2 true nn (l.map Aq.cells)∧t 1=.func (.func g) [] [.ptr 0 0 0]∧t 7=.int .i64 l.length∧t 8=.int .i64 i)
  (fun rest s=>gY p rest s) (fun r e t h=>h=[.live 9 false false [[.int .i64 ndq.frm,.int .i64 ndq.to,Ad 2 true ndq.nn (ndq.wants.map Aq.cells),.int .i64 ndq.cmd,.int .i64 ndq.after,.int .i64 ndq.st,.int .i64 ndq.ag,.int .i64 ndq.bits,.int .i64 ndq.com]]]∧((e=.exit 0∧r= -1)∨(e=.ret∧t 4=.int .i64 r))) ?_ ?_ 0 _ _ ?_) (fun e t h hk=>?_)
 ·rintro s t h Q' kQ ⟨rfl,rfl,h0,h1,h7,h8⟩
  (have hb:=trivial;with_reducible repeat' (first|simp only[hb,Vc.down,seval,dL.down,h0,h1,h7,h8,acP,decide_false]|refine Au ?_ ?_<;>intro hb|refine fd ?_|fail))
  exact kQ _ _ _ ⟨rfl,.inl ⟨rfl,rfl⟩⟩
 ·rintro x rest i s t h J Q' kJ kQ hx hi ⟨rfl,rfl,h0,h1,h7,h8⟩
  have hpx:=hp x (acQ hx)
  have hd:decide ((i:Int)<(l.length:Int))=true:=by simpa using hi
  (have hb:=trivial;with_reducible repeat' (first|simp only[hb,Vc.down,seval,dL.down,h0,h1,h7,h8,hd,hx,Aq.cells,hpx,As hi hl]|refine Au ?_ ?_<;>intro hb|refine fd ?_|fail))
  ·exact kQ _ _ _ ⟨rfl,.inr ⟨rfl,by simp[up,gY,hb]⟩⟩
  ·exact Bl (kJ _ _ (i+1) ⟨by simp,rfl,by simp[up,h0],by simp[up,h1],by simp[up,h7],by simp[up]⟩ (by simp[gY,hb]))
 ·exact⟨rfl,rfl,by simp[up,Eg],by simp[up,Eg],by simp[up],by simp[up]⟩
 ·obtain⟨rfl,⟨rfl,hi⟩|⟨rfl,hi⟩⟩:=hk
  ·(have hb:=trivial;with_reducible repeat' (first|simp only[hb,Vc.down,seval,dL.down]|refine Au ?_ ?_<;>intro hb|refine fd ?_|fail))
   rw[hi]
  ·(have hb:=trivial;with_reducible repeat' (first|simp only[hb,Vc.down,seval,dL.down,hi]|refine Au ?_ ?_<;>intro hb|refine fd ?_|fail))
theorem jD{l:List Aq}{nn:Bool}{g:Nat}{ndq:Up}{p:Aq→Bool}(hp:∀x∈l,Da.call (.fn g) (.agg [.int .i64 x.vote,.bool x.is]::[.ptr 0 0 0]) [.live 9 false false [[.int .i64 ndq.frm,.int .i64 ndq.to,Ad 2 true ndq.nn (ndq.wants.map Aq.cells),.int .i64 ndq.cmd,.int .i64 ndq.after,.int .i64 ndq.st,.int .i64 ndq.ag,.int .i64 ndq.bits,.int .i64 ndq.com]]]=some (.ret (.bool (p x)),[.live 9 false false [[.int .i64 ndq.frm,.int .i64 ndq.to,Ad 2 true ndq.nn (ndq.wants.map Aq.cells),.int .i64 ndq.cmd,.int .i64 ndq.after,.int .i64 ndq.st,.int .i64 ndq.ag,.int .i64 ndq.bits,.int .i64 ndq.com]]]))(hl:l.length≤maxLen):
 Da.call (.fn 69) [Ad 2 true nn (l.map Aq.cells),.func (.func g) [] [.ptr 0 0 0]] [.live 9 false false [[.int .i64 ndq.frm,.int .i64 ndq.to,Ad 2 true ndq.nn (ndq.wants.map Aq.cells),.int .i64 ndq.cmd,.int .i64 ndq.after,.int .i64 ndq.st,.int .i64 ndq.ag,.int .i64 ndq.bits,.int .i64 ndq.com]]]=some (.ret (.bool (l.any p)),[.live 9 false false [[.int .i64 ndq.frm,.int .i64 ndq.to,Ad 2 true ndq.nn (ndq.wants.map Aq.cells),.int .i64 ndq.cmd,.int .i64 ndq.after,.int .i64 ndq.st,.int .i64 ndq.ag,.int .i64 ndq.bits,.int .i64 ndq.com]]]):=by
 (refine ce Tryz.func69 ?_;simp only[Tryz.f69];(have hb:=trivial;with_reducible repeat' (first|simp only[hb,Vc.down,seval,pC hp hl,Wc p l 0 (Int.le_refl 0)]|refine Au ?_ ?_<;>intro hb|refine fd ?_|fail)))
def Tu(bits:Int)(l:List Aq):Bool:=l.all fun w=>Na bits w.vote==w.is
theorem acK(n:Up)(hl:n.wants.length≤maxLen)(h0:∀w∈n.wants,0≤w.vote):Da.call (.fn 75) [.agg [.int .i64 n.frm,.int .i64 n.to,Ad 2 true n.nn (n.wants.map Aq.cells),.int .i64 n.cmd,.int .i64 n.after,.int .i64 n.st,.int .i64 n.ag,.int .i64 n.bits,.int .i64 n.com]] []=some (.ret (.bool (Tu n.bits n.wants)),[]):=by
 have hc:=jD (ndq:=n) (l:=n.wants) (nn:=n.nn) (g:=82) (p:=fun w=> !(Na n.bits w.vote==w.is)) (fun w hw=>rQ n w (h0 w hw)) hl
 have q1:Tu n.bits n.wants= !(n.wants.any fun w=> !(Na n.bits w.vote==w.is)):=acU
 (refine ce Tryz.func75 ?_;simp only[Tryz.f75];(have hb:=trivial;with_reducible repeat' (first|simp only[hb,Vc.down,seval,apJ.down,hc]|refine Au ?_ ?_<;>intro hb|refine fd ?_|fail)))
 all_goals simp[q1]
theorem amY(f0 f1 f2 f3:Fn)(a0 a1 a2 a3 c0 c1 c2 c3:List AV):Oa Tryz.prog 135 [(0,.func f0 a0 c0),(1,.func f1 a1 c1),(2,.func f2 a2 c2),(3,.func f3 a3 c3)]=some (.agg [.func f0 a0 c0,.func f1 a1 c1,.func f2 a2 c2,.func f3 a3 c3]):=by kernel_rfl
theorem agO(a b c d:AV):Re Tryz.prog 135 (.agg [a,b,c,d]) (.int .i64 0)=some a:=by kernel_rfl
theorem agQ(a b c d:AV):Re Tryz.prog 135 (.agg [a,b,c,d]) (.int .i64 1)=some b:=by kernel_rfl
theorem af8(a b c d:AV):Re Tryz.prog 135 (.agg [a,b,c,d]) (.int .i64 2)=some c:=by kernel_rfl
theorem af5(a b c d:AV):Re Tryz.prog 135 (.agg [a,b,c,d]) (.int .i64 3)=some d:=by kernel_rfl
def gX(n:Up):Bool:=(n.frm==n.st)&&decide (n.after≤n.ag)&&Tu n.bits n.wants&&(n.cmd== -1||n.cmd==n.com)
theorem w2:IntKind.i64.wrap 2=2:=Eq.trans rfl rfl
theorem w3:IntKind.i64.wrap 3=3:=Eq.trans rfl rfl
theorem w4:IntKind.i64.wrap 4=4:=Eq.trans rfl rfl
theorem uS(n:Up)(hl:n.wants.length≤maxLen)(h0:∀w∈n.wants,0≤w.vote):Da.call (.fn 59) [.agg [.int .i64 n.frm,.int .i64 n.to,Ad 2 true n.nn (n.wants.map Aq.cells),.int .i64 n.cmd,.int .i64 n.after,.int .i64 n.st,.int .i64 n.ag,.int .i64 n.bits,.int .i64 n.com]] []=some (.ret (.bool (gX n)),[]):=by
 have q1:=akH n
 have q2:=amP n
 have q3:=acK n hl h0
 have q4:=ahC n
 (refine ce Tryz.func59 ?_;simp only[Tryz.f59];(have hb:=trivial;with_reducible repeat' (first|simp only[hb,Vc.down,seval,alY.down,amY,agO,agQ,af8,af5,q1,q2,q3,q4,w2,w3,w4]|refine Au ?_ ?_<;>intro hb|refine fd ?_|fail)))
 (have hb:=trivial;with_reducible repeat' (first|simp only[hb,Vc.down,seval,alY.down,amY,agO,agQ,af8,af5,q1,q2,q3,q4,w2,w3,w4]|refine Au ?_ ?_<;>intro hb|refine fd ?_|refine aoJ ?_|fail))
 all_goals (refine congrArg (fun b=>(Dp.ret (AV.bool b),([]:Aa))) ?_;symm;((try simp only[Bool.not_eq_eq_eq_not,ac6,ad5]at *);simp only[gX, *,Bool.and_false,afG,Bool.and_true,aeG,Bool.and_self,Bool.not_not,ac6,ad5,List.all_cons,List.all_nil]))
def nd(x:Ai)(st ag bits com:Int):Up:=⟨x.frm,x.to,x.nn,x.wants,x.cmd,x.after,st,ag,bits,com⟩
theorem vT(x:Ai)(st ag bits com:Int){bs:List Bool}{nn:Bool}(hl:x.wants.length≤maxLen)(hv:∀w∈x.wants,0≤w.vote∧bs[w.vote.toNat]?=some (Na bits w.vote)):
 Da.call (.fn 35) [.agg [.int .i64 x.frm,.int .i64 x.to,Ad 2 true x.nn (x.wants.map Aq.cells),.int .i64 x.cmd,.int .i64 x.after],.int .i64 st,.int .i64 ag,Ad 1 true nn (bs.map bv),.int .i64 com] []=some (.ret (.bool (gX (nd x st ag bits com))),[]):=by
 obtain⟨y,rfl⟩:∃y,y=x:=⟨_,rfl⟩
 (refine ce Tryz.func35 ?_;simp only[Tryz.f35];(have hb:=trivial;with_reducible repeat' (first|simp only[hb,Vc.down,seval,yH.down,aaP]|refine Au ?_ ?_<;>intro hb|refine fd ?_|fail)))
 refine Ee (Uf 56 y.wants (fun i (zz:Unit) t h=>t 1=.int .i64 st∧t 2=.int .i64 ag∧t 3=Ad 1 true nn (bs.map bv)∧t 4=.int .i64 com∧t 5=.ptr 0 0 0∧t 11=.int .i64 i∧(h=[.live 5 false false [[.int .i64 y.frm,.int .i64 y.to,Ad 2 true y.nn (y.wants.map Aq.cells),.int .i64 y.cmd,.int .i64 y.after]]])) (fun rest zz=>Tu bits rest) (fun r e t h=>(if r=true then e=.exit 0∧t 1=.int .i64 st∧t 2=.int .i64 ag∧t 4=.int .i64 com∧t 5=.ptr 0 0 0∧h=[.live 5 false false [[.int .i64 y.frm,.int .i64 y.to,Ad 2 true y.nn (y.wants.map Aq.cells),.int .i64 y.cmd,.int .i64 y.after]]]else e=.ret∧t 10=.bool false)) ?_ ?_ () _ _ ?_) (fun e t h hk=>?_)
 ·rintro _ t h Q' kQ ⟨h1,h2,h3,h4,h5,h11,rfl⟩
  (have hb:=trivial;with_reducible repeat' (first|simp only[hb,Vc.down,seval,yH.down,h1,h2,h3,h4,h5,h11,acP,decide_false,aaP]|refine Au ?_ ?_<;>intro hb|refine fd ?_|fail))
  exact kQ _ _ _ (by rw[if_pos (by rfl)];exact⟨rfl,by simp[up,h1],by simp[up,h2],by simp[up,h4],by simp[up,h5],rfl⟩)
 ·rintro x rest i _ t h J Q' kJ kQ hx hi ⟨h1,h2,h3,h4,h5,h11,rfl⟩
  have hd:decide ((i:Int)<(y.wants.length:Int))=true:=decide_eq_true (by omega)
  have hw:=As hi hl
  obtain⟨k0,k1⟩:=hv x (acQ hx)
  have h0':(0≤x.vote)=True:=eq_true k0
  (have hb:=trivial;with_reducible repeat' (first|simp only[hb,Vc.down,seval,yH.down,h1,h2,h3,h4,h5,h11,hd,hx,hw,k1,h0',abJ,bv,Aq.cells,aaP]|refine Au ?_ ?_<;>intro hb|refine fd ?_|fail))
  all_goals first
   |exact kQ _ _ _ (by rw[if_neg (by simp_all[Tu])];exact⟨rfl,by simp[up]⟩)
   |(refine Bl (kJ _ _ () ⟨?_,?_,?_,?_,?_,?_,rfl⟩ ?_);(simp[up,h1]);(simp[up,h2]);(simp[up,h3]);(simp[up,h4]);(simp[up,h5]);(simp[up]);(simp_all[Tu]))
 ·exact⟨by simp[up,Eg],by simp[up,Eg],by simp[up,Eg],by simp[up,Eg],by simp[up,Eg],by simp[up],rfl⟩
 split at hk
 ·obtain⟨rfl,h1,h2,h4,h5,rfl⟩:=hk
  rename_i hr1
  (have hb:=trivial;with_reducible repeat' (first|simp only[hb,Vc.down,seval,yH.down,h1,h2,h4,h5]|refine Au ?_ ?_<;>intro hb|refine fd ?_|fail))
  all_goals (refine congrArg (fun b=>(Dp.ret (AV.bool b),([]:Aa))) ?_;symm;simp only[gX,nd];(try have q9:=hr1);simp_all<;>try (intro q7;exfalso;have:=of_decide_eq_true q7;omega))
 ·obtain⟨rfl,h2⟩:=hk
  rename_i hr1
  (have hb:=trivial;with_reducible repeat' (first|simp only[hb,Vc.down,seval,yH.down,h2]|refine Au ?_ ?_<;>intro hb|refine fd ?_|fail))
  all_goals simp_all[gX,nd]
def oW(a:Int):Int:=if IntKind.i64.wrap (a+1)<10 then IntKind.i64.wrap (a+1)else 10
def Fq(st ag bits com:Int):List Ai→Int × Int
 | []=>(st,oW ag)
 |x::l=>if gX (nd x st ag bits com)=true then(x.to,0)else Fq st ag bits com l
theorem yT(m:Ap)(st ag bits com:Int)(hs:m.small)(h0:∀x∈m.moves,∀w∈x.wants,0≤w.vote):
 Da.call (.fn 30) [.agg [Ad 3 true m.nS (m.sens.map Bg.cells),Ad 4 false m.nV (m.votes.map Ak.cells),Ad 5 false m.nM (m.moves.map Ai.cells),.int .i64 m.states,.int .i64 m.cmds,.int .i64 m.bgn,Ad 1 true m.nO (m.opn.map iv)],.agg [.int .i64 st,.int .i64 ag],.agg [.int .i64 bits,.int .i64 com]] []=some (.ret (.agg [.int .i64 (Fq st ag bits com m.moves).1,.int .i64 (Fq st ag bits com m.moves).2]),[]):=by
 (refine ce Tryz.func30 ?_;simp only[Tryz.f30];(have hb:=trivial;with_reducible repeat' (first|simp only[hb,Vc.down,seval,zU.down,aaP]|refine Au ?_ ?_<;>intro hb|refine fd ?_|fail)))
 refine Ee (Uf 32 m.moves (fun i (zz:Unit) t h=>t 4=.ptr 1 0 0∧t 5=.ptr 2 0 0∧t 6=.ptr 3 0 0∧t 10=Ad 5 false m.nM (m.moves.map Ai.cells)∧t 11=.int .i64 m.moves.length∧t 12=.int .i64 i∧(h[1]?=some (.live 2 true false [[.int .i64 st,.int .i64 ag]])∧h[2]?=some (.live 2 true false [[.int .i64 bits,.int .i64 com]])∧h[3]?=some (.live 2 true false [[.int .i64 0,.int .i64 0]]))) (fun rest zz=>Fq st ag bits com rest) (fun r e t h=>(e=.exit 0∧t 4=.ptr 1 0 0∧t 6=.ptr 3 0 0∧h[1]?=some (.live 2 true false [[.int .i64 st,.int .i64 ag]])∧h[3]?=some (.live 2 true false [[.int .i64 0,.int .i64 0]])∧r=(st,oW ag))∨(e=.ret∧t 6=.ptr 3 0 0∧h[3]?=some (.live 2 true true [[.int .i64 r.1,.int .i64 r.2]]))) ?_ ?_ () _ _ ?_) (fun e t h hk=>?_)
 ·rintro _ t h Q' kQ ⟨h4,h5,h6,h10,h11,h12,⟨hA,hB,hC⟩⟩
  (have hb:=trivial;with_reducible repeat' (first|simp only[hb,Vc.down,seval,zU.down,h4,h5,h6,h10,h11,h12,acP,decide_false]|refine Au ?_ ?_<;>intro hb|refine fd ?_|fail))
  exact kQ _ _ _ (.inl ⟨rfl,by simp[up,h4],by simp[up,h6],hA,hC,rfl⟩)
 ·rintro x rest i _ t h J Q' kJ kQ hx hi ⟨h4,h5,h6,h10,h11,h12,⟨hA,hB,hC⟩⟩
  have hd:decide ((i:Int)<(m.moves.length:Int))=true:=decide_eq_true (by omega)
  have hw:=As hi hs.moves
  have hA1:=Bi hA
  have hB1:=Bi hB
  have hC1:=Bi hC
  have hap:=uS (nd x st ag bits com) (hs.ws x (acQ hx)) (h0 x (acQ hx))
  have h3l:3<h.length:=(acT.1 hC).1
  generalize hq:gX (nd x st ag bits com)=q at hap
  simp only[nd]at hap
  (have hb:=trivial;with_reducible repeat' (first|simp only[hb,Vc.down,seval,zU.down,h4,h5,h6,h10,h11,h12,hd,hx,hw,hA1,hB1,hC1,hap,Ai.cells,aaP]|refine Au ?_ ?_<;>intro hb|refine fd ?_|fail))
  ·exact kQ _ _ _ (.inr ⟨rfl,by simp[up,h6],by rw[agI (by simp;omega)];simp[Fq,hq,hb]⟩)
  ·(refine Bl (kJ _ _ () ⟨?_,?_,?_,?_,?_,?_,⟨hA1 _,hB1 _,hC1 _⟩⟩ ?_);(simp[up,h4]);(simp[up,h5]);(simp[up,h6]);(simp[up,h10]);(simp[up,h11]);(simp[up]);(simp[Fq,hq,hb]))
 ·exact⟨by simp[up,Eg],by simp[up,Eg],by simp[up,Eg],by simp[up,Eg],by simp[up,Eg],by simp[up],⟨rfl,rfl,rfl⟩⟩
 rcases hk with⟨rfl,h4,h6,hA,hC,hr⟩|⟨rfl,h6,hC⟩
 ·have hA1:=Bi hA
  have hC1:=Bi hC
  have h3l:3<h.length:=(acT.1 hC).1
  have hset:∀c:CB,(h.set 3 c)[3]?=some c:=fun c=>agI h3l
  have hmt:(if IntKind.i64.wrap (ag+1)<10 then IntKind.i64.wrap (ag+1)else 10)=oW ag:=rfl
  rw[hr]
  (have hb:=trivial;with_reducible repeat' (first|simp only[hb,Vc.down,seval,zU.down,h4,h6,hA,hC,hA1,hC1,hset,hmt]|refine Au ?_ ?_<;>intro hb|refine fd ?_|fail))
 ·(have hb:=trivial;with_reducible repeat' (first|simp only[hb,Vc.down,seval,zU.down,h6,hC]|refine Au ?_ ?_<;>intro hb|refine fd ?_|fail))
theorem eN{m:Ap}(h:Dq m=true):∀x∈m.moves,∀w∈x.wants,0≤w.vote∧w.vote.toNat<m.votes.length:=fun x hx w hw=>by
 simp only[Dq,Nb,acR,decide_eq_true_eq,agA]at h
 have h2:=h.1.2 x hx
 simp only[Nv,acR]at h2
 have h3:=h2.1.1.1.1.1
 have h6:m.votes.length≤6:=h.1.1.1.1.1.1.1.1.1.2
 have key:∀(l p:List Aq),Kq m.votes.length p l=true→w∈l→0≤w.vote∧w.vote.toNat<m.votes.length:=by
  intro l
  induction l with
  |nil=>intro p _ h;cases h
  |cons y l ih=>
   intro p h hm
   simp only[Kq,acR]at h
   rcases List.mem_cons.1 hm with rfl|hm
   ·have:=h.1.1
    rw[Is (by omega) (by omega)]at this
    simp[Po]at this
    omega
   ·exact ih _ h.2 hm
 exact key x.wants [] h3 hw
def Jv(m:Ap)(st ag:Int)(s:Av):Int × Int:=Fq st ag (Ks m s.reads m.votes 0 0) s.cmd m.moves
theorem jZ{m:Ap}{l:List Int}(h:Su m l=true):l.length=m.sens.length:=by
 simp only[Su,acR,beq_iff_eq]at h
 omega
end Go.Proofs.YtfkokgjfpojeoaaGreatDoor
