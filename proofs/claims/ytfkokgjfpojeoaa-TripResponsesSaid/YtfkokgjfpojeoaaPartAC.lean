/- The functions of the layer, walked. -/
import Derived.Test.YtfkokgjfpojeoaaPartAB
import Derived.Test.YtfkokgjfpojeoaaLibD
open List renaming length_map→acL,mem_of_getElem?→acZ,all_cons→aAN,getElem?_eq_some_iff→aC7,length_set→aEO,all_eq_not_any_not→aE9,contains_cons→aHJ,contains_nil→aHM,getElem?_eq_getElem→aID,all_eq_true→aJZ,length_eq_zero_iff→aKM,getElem?_set_self→aLF
open Int renaming lt_irrefl→acR,le_refl→aER
open Bool renaming and_eq_true→aqD,eq_false_iff→aAM,not_true→aAO,not_false→aAP,true_and→aCF,false_and→aC6,and_true→aG6,eq_iff_iff→aIC,not_eq_eq_eq_not→aLD,and_false→aLE
set_option linter.unusedSimpArgs false
set_option linter.unusedVariables false
namespace Go.Proofs.Ytfkokgjfpojeoaa
open Go.Ev Go
set_option maxRecDepth 100000
set_option maxHeartbeats 16000000
def aB4(s:Db):Bool:=mD s.lo&&mD s.hi&& !decide (s.hi<s.lo)
def cJ(m:Ah):Bool:=decide (m.sens.length≤6)&&decide (m.votes.length≤6)&&decide (m.moves.length≤20)&&Qy m.states 1 8&&Qy m.cmds 0 4&&Qy m.bgn 0 (IntKind.i64.wrap (m.states-1))&&((m.opn.length:Int)==m.states)
def Ce(m:Ah):Bool:=cJ m&&m.sens.all aB4&&m.votes.all (oN m.sens.length)&&m.moves.all (Vo m)&&m.opn.all (fun n=>Qy n 0 255)
theorem aGM(m:Ah)(x:Bi)(hl:x.wants.length≤maxLen):Ec.call (.fn 71) [.agg [.int .i64 x.frm,.int .i64 x.to,Ak 2 true x.nn (x.wants.map Bf.cells),.int .i64 x.cmd,.int .i64 x.after],.ptr 0 0 0] [.live 7 false false [[Ak 3 true m.nS (m.sens.map Db.cells),Ak 4 false m.nV (m.votes.map Au.cells),Ak 5 false m.nM (m.moves.map Bi.cells),.int .i64 m.states,.int .i64 m.cmds,.int .i64 m.bgn,Ak 1 true m.nO (m.opn.map iv)]]]=some (.ret (.bool (!Vo m x)),[.live 7 false false [[Ak 3 true m.nS (m.sens.map Db.cells),Ak 4 false m.nV (m.votes.map Au.cells),Ak 5 false m.nM (m.moves.map Bi.cells),.int .i64 m.states,.int .i64 m.cmds,.int .i64 m.bgn,Ak 1 true m.nO (m.opn.map iv)]]]):=by
 have hm:=aQA m x hl
 (refine ce Try.func71 ?_;simp only[Try.f71];(have hb:=trivial;with_reducible repeat' (first|simp only[hb,Vc.down,seval,bc8.down,hm]|refine Bm ?_ ?_<;>intro hb|refine fd ?_|fail)))
theorem aA2{l:List Bi}{nn:Bool}{g:Nat}{mm:Ah}{p:Bi→Bool}(hp:∀x∈l,Ec.call (.fn g) (.agg [.int .i64 x.frm,.int .i64 x.to,Ak 2 true x.nn (x.wants.map Bf.cells),.int .i64 x.cmd,.int .i64 x.after]::[.ptr 0 0 0]) [.live 7 false false [[Ak 3 true mm.nS (mm.sens.map Db.cells),Ak 4 false mm.nV (mm.votes.map Au.cells),Ak 5 false mm.nM (mm.moves.map Bi.cells),.int .i64 mm.states,.int .i64 mm.cmds,.int .i64 mm.bgn,Ak 1 true mm.nO (mm.opn.map iv)]]]=some (.ret (.bool (p x)),[.live 7 false false [[Ak 3 true mm.nS (mm.sens.map Db.cells),Ak 4 false mm.nV (mm.votes.map Au.cells),Ak 5 false mm.nM (mm.moves.map Bi.cells),.int .i64 mm.states,.int .i64 mm.cmds,.int .i64 mm.bgn,Ak 1 true mm.nO (mm.opn.map iv)]]]))(hl:l.length≤maxLen)(hgm:Ec.md g=false:=by exact rfl):
 Ec.call (.fn 88) [Ak 5 false nn (l.map Bi.cells),.func (.func g) [] [.ptr 0 0 0]] [.live 7 false false [[Ak 3 true mm.nS (mm.sens.map Db.cells),Ak 4 false mm.nV (mm.votes.map Au.cells),Ak 5 false mm.nM (mm.moves.map Bi.cells),.int .i64 mm.states,.int .i64 mm.cmds,.int .i64 mm.bgn,Ak 1 true mm.nO (mm.opn.map iv)]]]=some (.ret (.int .i64 (uR p l 0)),[.live 7 false false [[Ak 3 true mm.nS (mm.sens.map Db.cells),Ak 4 false mm.nV (mm.votes.map Au.cells),Ak 5 false mm.nM (mm.moves.map Bi.cells),.int .i64 mm.states,.int .i64 mm.cmds,.int .i64 mm.bgn,Ak 1 true mm.nO (mm.opn.map iv)]]]):=by
 (refine ce Try.func88 ?_;simp only[Try.f88];(have hb:=trivial;with_reducible repeat' (first|simp only[hb,Vc.down,seval,aHS.down,acL]|refine Bm ?_ ?_<;>intro hb|refine fd ?_|fail)))
 refine Eo (Wy 19 l (fun i (s:Int) t h=>s=i∧h=[.live 7 false false [[Ak 3 true mm.nS (mm.sens.map Db.cells),Ak 4 false mm.nV (mm.votes.map Au.cells),Ak 5 false mm.nM (mm.moves.map Bi.cells),.int .i64 mm.states,.int .i64 mm.cmds,.int .i64 mm.bgn,Ak 1 true mm.nO (mm.opn.map iv)]]]∧t 0=Ak 5 false nn (l.map Bi.cells)∧t 1=.func (.func g) [] [.ptr 0 0 0]∧t 7=.int .i64 l.length∧t 8=.int .i64 i)
  (fun rest s=>uR p rest s) (fun r e t h=>h=[.live 7 false false [[Ak 3 true mm.nS (mm.sens.map Db.cells),Ak 4 false mm.nV (mm.votes.map Au.cells),Ak 5 false mm.nM (mm.moves.map Bi.cells),.int .i64 mm.states,.int .i64 mm.cmds,.int .i64 mm.bgn,Ak 1 true mm.nO (mm.opn.map iv)]]]∧((e=.exit 0∧r= -1)∨(e=.ret∧t 4=.int .i64 r))) ?_ ?_ 0 _ _ ?_) (fun e t h hk=>?_)
 ·rintro s t h Q' kQ ⟨rfl,rfl,h0,h1,h7,h8⟩
  (have hb:=trivial;with_reducible repeat' (first|simp only[hb,Vc.down,seval,aHS.down,h0,h1,h7,h8,acR,decide_false]|refine Bm ?_ ?_<;>intro hb|refine fd ?_|fail))
  exact kQ _ _ _ ⟨rfl,.inl ⟨rfl,rfl⟩⟩
 ·rintro x rest i s t h J Q' kJ kQ hx hi ⟨rfl,rfl,h0,h1,h7,h8⟩
  have hgm2:=hgm
  simp only[adA,aHJ,aHM,Bool.or_false]at hgm2
  have hpx:=hp x (acZ hx)
  have hd:decide ((i:Int)<(l.length:Int))=true:=by simpa using hi
  (have hb:=trivial;with_reducible repeat' (first|simp only[hb,Vc.down,seval,aHS.down,h0,h1,h7,h8,hd,hx,Bi.cells,hpx,hgm2,Bo hi hl]|refine Bm ?_ ?_<;>intro hb|refine fd ?_|fail))
  ·exact kQ _ _ _ ⟨rfl,.inr ⟨rfl,by simp[up,uR,hb]⟩⟩
  ·exact Bn (kJ _ _ (i+1) ⟨by simp,rfl,by simp[up,h0],by simp[up,h1],by simp[up,h7],by simp[up]⟩ (by simp[uR,hb]))
 ·exact⟨rfl,rfl,by simp[up,Fe],by simp[up,Fe],by simp[up],by simp[up]⟩
 ·obtain⟨rfl,⟨rfl,hi⟩|⟨rfl,hi⟩⟩:=hk
  ·(have hb:=trivial;with_reducible repeat' (first|simp only[hb,Vc.down,seval,aHS.down]|refine Bm ?_ ?_<;>intro hb|refine fd ?_|fail))
   rw[hi]
  ·(have hb:=trivial;with_reducible repeat' (first|simp only[hb,Vc.down,seval,aHS.down,hi]|refine Bm ?_ ?_<;>intro hb|refine fd ?_|fail))
theorem al9{l:List Bi}{nn:Bool}{g:Nat}{mm:Ah}{p:Bi→Bool}(hp:∀x∈l,Ec.call (.fn g) (.agg [.int .i64 x.frm,.int .i64 x.to,Ak 2 true x.nn (x.wants.map Bf.cells),.int .i64 x.cmd,.int .i64 x.after]::[.ptr 0 0 0]) [.live 7 false false [[Ak 3 true mm.nS (mm.sens.map Db.cells),Ak 4 false mm.nV (mm.votes.map Au.cells),Ak 5 false mm.nM (mm.moves.map Bi.cells),.int .i64 mm.states,.int .i64 mm.cmds,.int .i64 mm.bgn,Ak 1 true mm.nO (mm.opn.map iv)]]]=some (.ret (.bool (p x)),[.live 7 false false [[Ak 3 true mm.nS (mm.sens.map Db.cells),Ak 4 false mm.nV (mm.votes.map Au.cells),Ak 5 false mm.nM (mm.moves.map Bi.cells),.int .i64 mm.states,.int .i64 mm.cmds,.int .i64 mm.bgn,Ak 1 true mm.nO (mm.opn.map iv)]]]))(hl:l.length≤maxLen)(hgm:Ec.md g=false:=by exact rfl):
 Ec.call (.fn 70) [Ak 5 false nn (l.map Bi.cells),.func (.func g) [] [.ptr 0 0 0]] [.live 7 false false [[Ak 3 true mm.nS (mm.sens.map Db.cells),Ak 4 false mm.nV (mm.votes.map Au.cells),Ak 5 false mm.nM (mm.moves.map Bi.cells),.int .i64 mm.states,.int .i64 mm.cmds,.int .i64 mm.bgn,Ak 1 true mm.nO (mm.opn.map iv)]]]=some (.ret (.bool (l.any p)),[.live 7 false false [[Ak 3 true mm.nS (mm.sens.map Db.cells),Ak 4 false mm.nV (mm.votes.map Au.cells),Ak 5 false mm.nM (mm.moves.map Bi.cells),.int .i64 mm.states,.int .i64 mm.cmds,.int .i64 mm.bgn,Ak 1 true mm.nO (mm.opn.map iv)]]]):=by
 (refine ce Try.func70 ?_;simp only[Try.f70];(have hb:=trivial;with_reducible repeat' (first|simp only[hb,Vc.down,seval,aA2 hp hl hgm,Yf p l 0 (aER 0)]|refine Bm ?_ ?_<;>intro hb|refine fd ?_|fail)))
theorem aD1(m:Ah)(hs:m.small):Ec.call (.fn 42) [.agg [Ak 3 true m.nS (m.sens.map Db.cells),Ak 4 false m.nV (m.votes.map Au.cells),Ak 5 false m.nM (m.moves.map Bi.cells),.int .i64 m.states,.int .i64 m.cmds,.int .i64 m.bgn,Ak 1 true m.nO (m.opn.map iv)]] []=some (.ret (.bool (Ce m)),[]):=by
 have l1:decide ((6:Int)<(m.sens.length:Int))= !decide (m.sens.length≤6):=by rw[←decide_not,decide_eq_decide];omega
 have l2:decide ((6:Int)<(m.votes.length:Int))= !decide (m.votes.length≤6):=by rw[←decide_not,decide_eq_decide];omega
 have l3:decide ((20:Int)<(m.moves.length:Int))= !decide (m.moves.length≤20):=by rw[←decide_not,decide_eq_decide];omega
 cases hp:cJ m with
 |false=>
  have hp':Ce m=false:=by simp[Ce,hp]
  rw[hp']
  (refine ce Try.func42 ?_;simp only[Try.f42];(have hb:=trivial;with_reducible repeat' (first|simp only[hb,Vc.down,seval,xW.down,acL,cA,l1,l2,l3]|refine Bm ?_ ?_<;>intro hb|refine fd ?_|fail)))
  all_goals first
   |rfl
   |(exfalso;simp_all[cJ];done)
 |true=>
  have hp':=hp
  simp only[cJ,aqD]at hp'
  obtain⟨⟨⟨⟨⟨⟨p1,p2⟩,p3⟩,p4⟩,p5⟩,p6⟩,p7⟩:=hp'
  (refine ce Try.func42 ?_;simp only[Try.f42];(have hb:=trivial;with_reducible repeat' (first|simp only[hb,Vc.down,seval,xW.down,acL,cA,l1,l2,l3,p1,p2,p3,p4,p5,p6,p7]|refine Bm ?_ ?_<;>intro hb|refine fd ?_|fail)))
  refine Eo (Wy 118 m.sens (fun i (zz:Unit) t h=>t 1=.ptr 0 0 0∧t 53=Ak 3 true m.nS (m.sens.map Db.cells)∧t 54=.int .i64 m.sens.length∧t 55=.int .i64 i∧(h[0]?=some (.live 7 false false [[Ak 3 true m.nS (m.sens.map Db.cells),Ak 4 false m.nV (m.votes.map Au.cells),Ak 5 false m.nM (m.moves.map Bi.cells),.int .i64 m.states,.int .i64 m.cmds,.int .i64 m.bgn,Ak 1 true m.nO (m.opn.map iv)]]))) (fun rest zz=>rest.all aB4) (fun r e t h=>(if r=true then e=.exit 0∧t 1=.ptr 0 0 0∧h[0]?=some (.live 7 false false [[Ak 3 true m.nS (m.sens.map Db.cells),Ak 4 false m.nV (m.votes.map Au.cells),Ak 5 false m.nM (m.moves.map Bi.cells),.int .i64 m.states,.int .i64 m.cmds,.int .i64 m.bgn,Ak 1 true m.nO (m.opn.map iv)]])else e=.ret∧t 2=.bool false)) ?_ ?_ () _ _ ?_) (fun e t h hk=>?_)
  ·rintro _ t h Q' kQ ⟨h1,h53,h54,h55,hA⟩
   (have hb:=trivial;with_reducible repeat' (first|simp only[hb,Vc.down,seval,xW.down,h1,h53,h54,h55,acR,decide_false]|refine Bm ?_ ?_<;>intro hb|refine fd ?_|fail))
   exact kQ _ _ _ (by rw[if_pos (by rfl)];exact⟨rfl,by simp[up,h1],hA⟩)
  ·rintro x rest i _ t h J Q' kJ kQ hx hi ⟨h1,h53,h54,h55,hA⟩
   have hd:decide ((i:Int)<(m.sens.length:Int))=true:=decide_eq_true (by omega)
   have hw:=Bo hi hs.sens
   have hA1:=Ae hA
   (have hb:=trivial;with_reducible repeat' (first|simp only[hb,Vc.down,seval,xW.down,h1,h53,h54,h55,hd,hx,hw,aiA,Db.cells,acL]|refine Bm ?_ ?_<;>intro hb|refine fd ?_|fail))
   all_goals first
    |exact kQ _ _ _ (by rw[if_neg (by simp_all[aB4])];exact⟨rfl,by simp[up]⟩)
    |(refine Bn (kJ _ _ () ⟨?_,?_,?_,?_,hA1 _⟩ ?_);(simp[up,h1]);(simp[up,h53]);(simp[up,h54]);(simp[up]);(simp_all[aB4]))
  ·exact⟨by simp[up,Fe],by simp[up,Fe],by simp[up,Fe],by simp[up],rfl⟩
  ·split at hk
   ·obtain⟨rfl,h1,hA⟩:=hk
    rename_i hr1
    have hA1:=Ae hA
    (have hb:=trivial;with_reducible repeat' (first|simp only[hb,Vc.down,seval,xW.down,h1,hA,hA1,acL]|refine Bm ?_ ?_<;>intro hb|refine fd ?_|fail))
    refine Eo (Wy 118 m.votes (fun i (zz:Unit) t h=>t 1=.ptr 0 0 0∧t 78=Ak 4 false m.nV (m.votes.map Au.cells)∧t 79=.int .i64 m.votes.length∧t 80=.int .i64 i∧(h[0]?=some (.live 7 false false [[Ak 3 true m.nS (m.sens.map Db.cells),Ak 4 false m.nV (m.votes.map Au.cells),Ak 5 false m.nM (m.moves.map Bi.cells),.int .i64 m.states,.int .i64 m.cmds,.int .i64 m.bgn,Ak 1 true m.nO (m.opn.map iv)]]))) (fun rest zz=>rest.all (oN m.sens.length)) (fun r e t h=>(if r=true then e=.exit 2∧t 1=.ptr 0 0 0∧h[0]?=some (.live 7 false false [[Ak 3 true m.nS (m.sens.map Db.cells),Ak 4 false m.nV (m.votes.map Au.cells),Ak 5 false m.nM (m.moves.map Bi.cells),.int .i64 m.states,.int .i64 m.cmds,.int .i64 m.bgn,Ak 1 true m.nO (m.opn.map iv)]])else e=.ret∧t 2=.bool false)) ?_ ?_ () _ _ ?_) (fun e t h hk=>?_)
    ·rintro _ t h Q' kQ ⟨h1,h78,h79,h80,hA⟩
     (have hb:=trivial;with_reducible repeat' (first|simp only[hb,Vc.down,seval,xW.down,h1,h78,h79,h80,acR,decide_false]|refine Bm ?_ ?_<;>intro hb|refine fd ?_|fail))
     exact kQ _ _ _ (by rw[if_pos (by rfl)];exact⟨rfl,by simp[up,h1],hA⟩)
    ·rintro x rest i _ t h J Q' kJ kQ hx hi ⟨h1,h78,h79,h80,hA⟩
     have hd:decide ((i:Int)<(m.votes.length:Int))=true:=decide_eq_true (by omega)
     have hw:=Bo hi hs.votes
     have hA1:=Ae hA
     have hin:=aX (nn:=x.nn) m.sens.length (hs.vs x (acZ hx))
     (have hb:=trivial;with_reducible repeat' (first|simp only[hb,Vc.down,seval,xW.down,h1,h78,h79,h80,hd,hx,hw,hA1,aiA,cA,hin,Au.cells,acL]|refine Bm ?_ ?_<;>intro hb|refine fd ?_|fail))
     all_goals first
      |exact kQ _ _ _ (by rw[if_neg (by simp_all[oN])];exact⟨rfl,by simp[up]⟩)
      |(refine Bn (kJ _ _ () ⟨?_,?_,?_,?_,hA1 _⟩ ?_);(simp[up,h1]);(simp[up,h78]);(simp[up,h79]);(simp[up]);(simp_all[oN]))
    ·exact⟨by simp[up,Fe,h1],by simp[up,Fe,h1],by simp[up,Fe,h1],by simp[up],hA⟩
    ·split at hk
     ·obtain⟨rfl,h1,hA⟩:=hk
      rename_i hr2
      have hA1:=Ae hA
      have hcM:=al9 (mm:=m) (l:=m.moves) (nn:=m.nM) (g:=71) (p:=fun x=> !Vo m x) (fun x hx=>aGM m x (hs.ws x hx)) hs.moves
      have hcI:=aA9 (l:=m.opn) (nn:=m.nO) (g:=74) (cap:=[]) (p:=fun x=> !Qy x 0 255) rfl rfl (fun x _=>aEU x) hs.opn
      (have hb:=trivial;with_reducible repeat' (first|simp only[hb,Vc.down,seval,xW.down,h1,hA,hA1,acL,hcM,hcI]|refine Bm ?_ ?_<;>intro hb|refine fd ?_|fail))
      all_goals
       have q1:m.moves.all (Vo m)= !(m.moves.any fun x=> !Vo m x):=aE9
       have q2:m.opn.all (fun n=>Qy n 0 255)= !(m.opn.any fun x=> !Qy x 0 255):=aE9
       simp only[Ce,hp,hr1,hr2,q1,q2,hb,aAO,aAP,aCF,aC6,aG6]
       try rfl
     ·obtain⟨rfl,h2⟩:=hk
      rename_i hr2
      (have hb:=trivial;with_reducible repeat' (first|simp only[hb,Vc.down,seval,xW.down,h2]|refine Bm ?_ ?_<;>intro hb|refine fd ?_|fail))
      all_goals simp[Ce,hp,aAM.2 hr2]
   ·obtain⟨rfl,h2⟩:=hk
    rename_i hr1
    (have hb:=trivial;with_reducible repeat' (first|simp only[hb,Vc.down,seval,xW.down,h2]|refine Bm ?_ ?_<;>intro hb|refine fd ?_|fail))
    all_goals simp[Ce,hp,aAM.2 hr1]
theorem aJD(m:Ah)(hs:m.small):Ec.call (.fn 15) [.agg [Ak 3 true m.nS (m.sens.map Db.cells),Ak 4 false m.nV (m.votes.map Au.cells),Ak 5 false m.nM (m.moves.map Bi.cells),.int .i64 m.states,.int .i64 m.cmds,.int .i64 m.bgn,Ak 1 true m.nO (m.opn.map iv)]] []=some (.ret (.bool (Ce m)),[]):=by
 have l1:decide ((6:Int)<(m.sens.length:Int))= !decide (m.sens.length≤6):=by rw[←decide_not,decide_eq_decide];omega
 have l2:decide ((6:Int)<(m.votes.length:Int))= !decide (m.votes.length≤6):=by rw[←decide_not,decide_eq_decide];omega
 have l3:decide ((20:Int)<(m.moves.length:Int))= !decide (m.moves.length≤20):=by rw[←decide_not,decide_eq_decide];omega
 have sen:∀x:Db,aB4 x=(!decide (x.lo < -10000)&& !decide (x.hi<x.lo)&& !decide (10000<x.hi)):=fun x=>by
  rw[aIC];simp[aB4,mD,Qy];omega
 (refine ce Try.func15 ?_;simp only[Try.f15];(have hb:=trivial;with_reducible repeat' (first|simp only[hb,Vc.down,seval,acY.down,acL]|refine Bm ?_ ?_<;>intro hb|refine fd ?_|fail)))
 refine Eo (Wy 126 m.sens (fun i (zz:Unit) t h=>t 1=.ptr 0 0 0∧t 3=.int .i64 i∧(h[0]?=some (.live 7 false false [[Ak 3 true m.nS (m.sens.map Db.cells),Ak 4 false m.nV (m.votes.map Au.cells),Ak 5 false m.nM (m.moves.map Bi.cells),.int .i64 m.states,.int .i64 m.cmds,.int .i64 m.bgn,Ak 1 true m.nO (m.opn.map iv)]]))) (fun rest zz=>rest.all aB4) (fun r e t h=>(if r=true then e=.exit 0∧t 1=.ptr 0 0 0∧h[0]?=some (.live 7 false false [[Ak 3 true m.nS (m.sens.map Db.cells),Ak 4 false m.nV (m.votes.map Au.cells),Ak 5 false m.nM (m.moves.map Bi.cells),.int .i64 m.states,.int .i64 m.cmds,.int .i64 m.bgn,Ak 1 true m.nO (m.opn.map iv)]])else e=.ret∧t 2=.bool false)) ?_ ?_ () _ _ ?_) (fun e t h hk=>?_)
 ·rintro _ t h Q' kQ ⟨h1,h3,hA⟩
  (have hb:=trivial;with_reducible repeat' (first|simp only[hb,Vc.down,seval,acY.down,h1,h3,acR,decide_false,hA,acL]|refine Bm ?_ ?_<;>intro hb|refine fd ?_|fail))
  exact kQ _ _ _ (by rw[if_pos (by rfl)];exact⟨rfl,by simp[up,h1],hA⟩)
 ·rintro x rest i _ t h J Q' kJ kQ hx hi ⟨h1,h3,hA⟩
  have hd:decide ((i:Int)<(m.sens.length:Int))=true:=decide_eq_true (by omega)
  have hw:=Bo hi hs.sens
  have hA1:=Ae hA
  (have hb:=trivial;with_reducible repeat' (first|simp only[hb,Vc.down,seval,acY.down,h1,h3,hd,hx,hw,hA,hA1,Db.cells,acL]|refine Bm ?_ ?_<;>intro hb|refine fd ?_|fail))
  all_goals first
   |exact kQ _ _ _ (by rw[if_neg (by simp_all)];exact⟨rfl,by simp[up]⟩)
   |(refine Bn (kJ _ _ () ⟨?_,?_,hA1 _⟩ ?_);(simp[up,h1]);(simp[up]);(simp_all))
 ·exact⟨by simp[up,Fe],by simp[up],rfl⟩
 split at hk
 rotate_left
 ·obtain⟨rfl,h2⟩:=hk
  rename_i hr1
  (have hb:=trivial;with_reducible repeat' (first|simp only[hb,Vc.down,seval,acY.down,h2]|refine Bm ?_ ?_<;>intro hb|refine fd ?_|fail))
  all_goals simp[Ce,aAM.2 hr1]
 obtain⟨rfl,h1,hA⟩:=hk
 rename_i hr1
 have hA1:=Ae hA
 (have hb:=trivial;with_reducible repeat' (first|simp only[hb,Vc.down,seval,acY.down,h1,hA,hA1,acL]|refine Bm ?_ ?_<;>intro hb|refine fd ?_|fail))
 refine Eo (Wy 126 m.votes (fun i (zz:Unit) t h=>t 1=.ptr 0 0 0∧t 5=.int .i64 i∧(h[0]?=some (.live 7 false false [[Ak 3 true m.nS (m.sens.map Db.cells),Ak 4 false m.nV (m.votes.map Au.cells),Ak 5 false m.nM (m.moves.map Bi.cells),.int .i64 m.states,.int .i64 m.cmds,.int .i64 m.bgn,Ak 1 true m.nO (m.opn.map iv)]]))) (fun rest zz=>rest.all (oN m.sens.length)) (fun r e t h=>(if r=true then e=.exit 2∧t 1=.ptr 0 0 0∧h[0]?=some (.live 7 false false [[Ak 3 true m.nS (m.sens.map Db.cells),Ak 4 false m.nV (m.votes.map Au.cells),Ak 5 false m.nM (m.moves.map Bi.cells),.int .i64 m.states,.int .i64 m.cmds,.int .i64 m.bgn,Ak 1 true m.nO (m.opn.map iv)]])else e=.ret∧t 2=.bool false)) ?_ ?_ () _ _ ?_) (fun e t h hk=>?_)
 ·rintro _ t h Q' kQ ⟨h1,h5,hA⟩
  (have hb:=trivial;with_reducible repeat' (first|simp only[hb,Vc.down,seval,acY.down,h1,h5,acR,decide_false,hA,acL]|refine Bm ?_ ?_<;>intro hb|refine fd ?_|fail))
  exact kQ _ _ _ (by rw[if_pos (by rfl)];exact⟨rfl,by simp[up,h1],hA⟩)
 ·rintro x rest i _ t h J Q' kJ kQ hx hi ⟨h1,h5,hA⟩
  have hd:decide ((i:Int)<(m.votes.length:Int))=true:=decide_eq_true (by omega)
  have hw:=Bo hi hs.votes
  have hA1:=Ae hA
  have hV:=a9J x m.sens.length (hs.vs x (acZ hx))
  (have hb:=trivial;with_reducible repeat' (first|simp only[hb,Vc.down,seval,acY.down,h1,h5,hd,hx,hw,hA,hA1,hV,Au.cells,acL]|refine Bm ?_ ?_<;>intro hb|refine fd ?_|fail))
  all_goals first
   |exact kQ _ _ _ (by rw[if_neg (by simp_all)];exact⟨rfl,by simp[up]⟩)
   |(refine Bn (kJ _ _ () ⟨?_,?_,hA⟩ ?_);(simp[up,h1]);(simp[up]);(simp_all))
 ·exact⟨by simp[up,Fe,h1],by simp[up],hA⟩
 split at hk
 rotate_left
 ·obtain⟨rfl,h2⟩:=hk
  rename_i hr2
  (have hb:=trivial;with_reducible repeat' (first|simp only[hb,Vc.down,seval,acY.down,h2]|refine Bm ?_ ?_<;>intro hb|refine fd ?_|fail))
  all_goals simp[Ce,aAM.2 hr2]
 obtain⟨rfl,h1,hA⟩:=hk
 rename_i hr2
 have hA1:=Ae hA
 cases hp:cJ m with
 |false=>
  have hp':Ce m=false:=by simp[Ce,hp]
  rw[hp']
  (have hb:=trivial;with_reducible repeat' (first|simp only[hb,Vc.down,seval,acY.down,h1,hA,hA1,acL,aEY,l1,l2,l3]|refine Bm ?_ ?_<;>intro hb|refine fd ?_|fail))
  all_goals first
   |rfl
   |(exfalso;simp_all[cJ];done)
 |true=>
  have hp':=hp
  simp only[cJ,aqD]at hp'
  obtain⟨⟨⟨⟨⟨⟨p1,p2⟩,p3⟩,p4⟩,p5⟩,p6⟩,p7⟩:=hp'
  (have hb:=trivial;with_reducible repeat' (first|simp only[hb,Vc.down,seval,acY.down,h1,hA,hA1,acL,aEY,l1,l2,l3,p1,p2,p3,p4,p5,p6,p7]|refine Bm ?_ ?_<;>intro hb|refine fd ?_|fail))
  refine Eo (Wy 126 m.opn (fun i (zz:Unit) t h=>t 1=.ptr 0 0 0∧t 6=.int .i64 i∧(h[0]?=some (.live 7 false false [[Ak 3 true m.nS (m.sens.map Db.cells),Ak 4 false m.nV (m.votes.map Au.cells),Ak 5 false m.nM (m.moves.map Bi.cells),.int .i64 m.states,.int .i64 m.cmds,.int .i64 m.bgn,Ak 1 true m.nO (m.opn.map iv)]]))) (fun rest zz=>rest.all (fun n=>Qy n 0 255)) (fun r e t h=>(if r=true then e=.exit 4∧t 1=.ptr 0 0 0∧h[0]?=some (.live 7 false false [[Ak 3 true m.nS (m.sens.map Db.cells),Ak 4 false m.nV (m.votes.map Au.cells),Ak 5 false m.nM (m.moves.map Bi.cells),.int .i64 m.states,.int .i64 m.cmds,.int .i64 m.bgn,Ak 1 true m.nO (m.opn.map iv)]])else e=.ret∧t 2=.bool false)) ?_ ?_ () _ _ ?_) (fun e t h hk=>?_)
  ·rintro _ t h Q' kQ ⟨h1,h6,hA⟩
   (have hb:=trivial;with_reducible repeat' (first|simp only[hb,Vc.down,seval,acY.down,h1,h6,acR,decide_false,hA,acL]|refine Bm ?_ ?_<;>intro hb|refine fd ?_|fail))
   exact kQ _ _ _ (by rw[if_pos (by rfl)];exact⟨rfl,by simp[up,h1],hA⟩)
  ·rintro x rest i _ t h J Q' kJ kQ hx hi ⟨h1,h6,hA⟩
   have hd:decide ((i:Int)<(m.opn.length:Int))=true:=decide_eq_true (by omega)
   have hw:=Bo hi hs.opn
   have hA1:=Ae hA
   (have hb:=trivial;with_reducible repeat' (first|simp only[hb,Vc.down,seval,acY.down,h1,h6,hd,hx,hw,hA,hA1,aEY,iv,acL]|refine Bm ?_ ?_<;>intro hb|refine fd ?_|fail))
   all_goals first
    |exact kQ _ _ _ (by rw[if_neg (by simp_all)];exact⟨rfl,by simp[up]⟩)
    |(refine Bn (kJ _ _ () ⟨?_,?_,hA⟩ ?_);(simp[up,h1]);(simp[up]);(simp_all))
  ·exact⟨by simp[up,Fe,h1],by simp[up],hA⟩
  split at hk
  rotate_left
  ·obtain⟨rfl,h2⟩:=hk
   rename_i hr3
   (have hb:=trivial;with_reducible repeat' (first|simp only[hb,Vc.down,seval,acY.down,h2]|refine Bm ?_ ?_<;>intro hb|refine fd ?_|fail))
   all_goals simp[Ce,aAM.2 hr3]
  obtain⟨rfl,h1,hA⟩:=hk
  rename_i hr3
  have hA1:=Ae hA
  (have hb:=trivial;with_reducible repeat' (first|simp only[hb,Vc.down,seval,acY.down,h1,hA,hA1,acL]|refine Bm ?_ ?_<;>intro hb|refine fd ?_|fail))
  refine Eo (Wy 126 m.moves (fun i (zz:Unit) t h=>t 1=.ptr 0 0 0∧t 7=.int .i64 i∧(h[0]?=some (.live 7 false false [[Ak 3 true m.nS (m.sens.map Db.cells),Ak 4 false m.nV (m.votes.map Au.cells),Ak 5 false m.nM (m.moves.map Bi.cells),.int .i64 m.states,.int .i64 m.cmds,.int .i64 m.bgn,Ak 1 true m.nO (m.opn.map iv)]]))) (fun rest zz=>rest.all (Vo m)) (fun r e t h=>(if r=true then e=.exit 6 else e=.ret∧t 2=.bool false)) ?_ ?_ () _ _ ?_) (fun e t h hk=>?_)
  ·rintro _ t h Q' kQ ⟨h1,h7,hA⟩
   (have hb:=trivial;with_reducible repeat' (first|simp only[hb,Vc.down,seval,acY.down,h1,h7,acR,decide_false,hA,acL]|refine Bm ?_ ?_<;>intro hb|refine fd ?_|fail))
   exact kQ _ _ _ (by rw[if_pos (by rfl)])
  ·rintro x rest i _ t h J Q' kJ kQ hx hi ⟨h1,h7,hA⟩
   have hd:decide ((i:Int)<(m.moves.length:Int))=true:=decide_eq_true (by omega)
   have hw:=Bo hi hs.moves
   have hA1:=Ae hA
   have hM:=bbR m x (hs.ws x (acZ hx))
   (have hb:=trivial;with_reducible repeat' (first|simp only[hb,Vc.down,seval,acY.down,h1,h7,hd,hx,hw,hA,hA1,hM,Bi.cells,acL]|refine Bm ?_ ?_<;>intro hb|refine fd ?_|fail))
   all_goals first
    |exact kQ _ _ _ (by rw[if_neg (by simp_all)];exact⟨rfl,by simp[up]⟩)
    |(refine Bn (kJ _ _ () ⟨?_,?_,hA⟩ ?_);(simp[up,h1]);(simp[up]);(simp_all))
  ·exact⟨by simp[up,Fe,h1],by simp[up],hA⟩
  split at hk
  ·subst hk
   rename_i hr4
   (have hb:=trivial;with_reducible repeat' (first|simp only[hb,Vc.down,seval,acY.down]|refine Bm ?_ ?_<;>intro hb|refine fd ?_|fail))
   all_goals simp[Ce,hp,hr1,hr2,hr3,hr4]
  ·obtain⟨rfl,h2⟩:=hk
   rename_i hr4
   (have hb:=trivial;with_reducible repeat' (first|simp only[hb,Vc.down,seval,acY.down,h2]|refine Bm ?_ ?_<;>intro hb|refine fd ?_|fail))
   all_goals simp[Ce,aAM.2 hr4]
def aE7(m:Ah)(l:List Int):Bool:=((l.length:Int)==(m.sens.length:Int))&&l.all mD
def aRV(m:Ah)(s:azE):Bool:=aE7 m s.reads&&Qy s.cmd (-1) (IntKind.i64.wrap (m.cmds-1))
def Rb(m:Ah)(k:Int):Db:=m.sens.getD k.toNat ⟨0,0,false⟩
def rAt(l:List Int)(k:Int):Int:=l.getD k.toNat 0
theorem sY{m:Ah}{k:Int}(h:k.toNat<m.sens.length):m.sens[k.toNat]?=some (Rb m k):=by
 simp[Rb,List.getD,aID h]
theorem aD4{l:List Int}{k:Int}(h:k.toNat<l.length):l[k.toNat]?=some (rAt l k):=by
 simp[rAt,List.getD,aID h]
def aaQ(m:Ah)(v:Au)(l:List Int):List Int→Int→Int
 | [],c=>c
 |k::ks,c=>aaQ m v l ks (if Re (Rb m k) v (rAt l k)=true then IntKind.i64.wrap (c+1)else c)
def sZ(m:Ah)(l:List Int)(v:Au):Bool:=decide (v.need≤aaQ m v l v.sens 0)
def Idx(m:Ah)(l:List Int):Prop:=∀k∈l,0≤k∧k.toNat<m.sens.length
theorem aSO{n:Nat}(hn:n≤6):∀{l:List Int} {p:Option Int},Oy n l p=true→∀k∈l,0≤k∧k.toNat<n
 | [],_,_,k,h=>by cases h
 |x::l,p,h,k,hk=>by
  simp only[Oy,aqD]at h
  rcases List.mem_cons.1 hk with rfl|hk
  ·have:=h.1.1
   rw[Dz (by omega) (by omega)]at this
   simp[Qy]at this
   omega
  ·exact aSO hn h.2 k hk
theorem ac6{m:Ah}(h:Ce m=true):∀v∈m.votes,Idx m v.sens:=fun v hv=>by
 simp only[Ce,cJ,aqD,decide_eq_true_eq,aJZ]at h
 have h2:=h.1.1.2 v hv
 simp only[oN,aqD]at h2
 exact aSO h.1.1.1.1.1.1.1.1.1.1 h2.1.1
theorem a75(m:Ah)(v:Au)(k r:Int)(h0:0≤k)(hk:k.toNat<m.sens.length):Ec.call (.fn 81) [.agg [Ak 3 true m.nS (m.sens.map Db.cells),Ak 4 false m.nV (m.votes.map Au.cells),Ak 5 false m.nM (m.moves.map Bi.cells),.int .i64 m.states,.int .i64 m.cmds,.int .i64 m.bgn,Ak 1 true m.nO (m.opn.map iv)],.agg [Ak 1 true v.nn (v.sens.map iv),.int .i64 v.need,.int .i64 v.level,.bool v.above],.int .i64 k,.int .i64 r] []=some (.ret (.bool (Re (Rb m k) v r)),[]):=by
 have hs:=sY hk
 have h0':(0≤k)=True:=eq_true h0
 have e:Re (Rb m k) v r=(!(Rb m k).byp&&((decide (r<(Rb m k).lo)||decide ((Rb m k).hi<r))||((v.above&&decide (v.level≤r))||(!v.above&&decide (r≤v.level))))):=by
  have q:(!Qy r (Rb m k).lo (Rb m k).hi)=(decide (r<(Rb m k).lo)||decide ((Rb m k).hi<r)):=by rw[aIC];simp[Qy]<;>try omega
  unfold Re
  rw[q]
  cases v.above<;>simp
 rw[e]
 generalize Rb m k=s at hs
 (refine ce Try.func81 ?_;simp only[Try.f81];(have hb:=trivial;with_reducible repeat' (first|simp only[hb,Vc.down,seval,bmA.down,hs,h0',Db.cells]|refine Bm ?_ ?_<;>intro hb|refine fd ?_|fail)))
 all_goals simp_all
theorem a6Y(m:Ah)(v:Au){l:List Int}{nn:Bool}(hl:l.length=m.sens.length)(hv:v.sens.length≤maxLen)(hi:Idx m v.sens):Ec.call (.fn 60) [.agg [Ak 3 true m.nS (m.sens.map Db.cells),Ak 4 false m.nV (m.votes.map Au.cells),Ak 5 false m.nM (m.moves.map Bi.cells),.int .i64 m.states,.int .i64 m.cmds,.int .i64 m.bgn,Ak 1 true m.nO (m.opn.map iv)],.agg [Ak 1 true v.nn (v.sens.map iv),.int .i64 v.need,.int .i64 v.level,.bool v.above],Ak 1 true nn (l.map iv)] []=some (.ret (.bool (sZ m l v)),[]):=by
 have hI:=hi
 clear hi
 (refine ce Try.func60 ?_;simp only[Try.f60];(have hb:=trivial;with_reducible repeat' (first|simp only[hb,Vc.down,seval,a5V.down,acL]|refine Bm ?_ ?_<;>intro hb|refine fd ?_|fail)))
 refine Eo (Wy 38 v.sens (fun i (zz:Int) t h=>t 2=Ak 1 true nn (l.map iv)∧t 3=.ptr 0 0 0∧t 4=.ptr 1 0 0∧t 8=.int .i64 i∧t 7=.int .i64 zz∧(h=[.live 7 false false [[Ak 3 true m.nS (m.sens.map Db.cells),Ak 4 false m.nV (m.votes.map Au.cells),Ak 5 false m.nM (m.moves.map Bi.cells),.int .i64 m.states,.int .i64 m.cmds,.int .i64 m.bgn,Ak 1 true m.nO (m.opn.map iv)]],.live 4 false false [[Ak 1 true v.nn (v.sens.map iv),.int .i64 v.need,.int .i64 v.level,.bool v.above]]])) (fun rest zz=>aaQ m v l rest zz) (fun r e t h=>e=.exit 0∧t 4=.ptr 1 0 0∧t 7=.int .i64 r∧h=[.live 7 false false [[Ak 3 true m.nS (m.sens.map Db.cells),Ak 4 false m.nV (m.votes.map Au.cells),Ak 5 false m.nM (m.moves.map Bi.cells),.int .i64 m.states,.int .i64 m.cmds,.int .i64 m.bgn,Ak 1 true m.nO (m.opn.map iv)]],.live 4 false false [[Ak 1 true v.nn (v.sens.map iv),.int .i64 v.need,.int .i64 v.level,.bool v.above]]]) ?_ ?_ (0) _ _ ?_) (fun e t h hk=>?_)
 ·rintro c t h Q' kQ ⟨h2,h3,h4,h8,h7,rfl⟩
  (have hb:=trivial;with_reducible repeat' (first|simp only[hb,Vc.down,seval,a5V.down,h2,h3,h4,h8,h7,acR,decide_false,acL]|refine Bm ?_ ?_<;>intro hb|refine fd ?_|fail))
  exact kQ _ _ _ ⟨rfl,by simp[up,h4],by simp[up,h7,aaQ],rfl⟩
 ·rintro x rest i c t h J Q' kJ kQ hx hi ⟨h2,h3,h4,h8,h7,rfl⟩
  have hd:decide ((i:Int)<(v.sens.length:Int))=true:=decide_eq_true (by omega)
  have hw:=Bo hi hv
  obtain⟨k0,k1⟩:=hI x (acZ hx)
  have hrr:=aD4 (l:=l) (k:=x) (by omega)
  have h0':(0≤x)=True:=eq_true k0
  have hS:=a75 m v x (rAt l x) k0 k1
  generalize hq:Re (Rb m x) v (rAt l x)=q at hS
  (have hb:=trivial;with_reducible repeat' (first|simp only[hb,Vc.down,seval,a5V.down,h2,h3,h4,h7,h8,hd,hx,hw,hrr,h0',hS,iv,acL]|refine Bm ?_ ?_<;>intro hb|refine fd ?_|fail))
  all_goals (refine Bn (kJ _ _ (if q=true then IntKind.i64.wrap (c+1)else c) ⟨?_,?_,?_,?_,?_,rfl⟩ ?_);(simp[up,h2]);(simp[up,h3]);(simp[up,h4]);(simp[up]);(simp[up,h7,hb]);(simp[aaQ,hq]))
 ·exact⟨by simp[up,Fe],by simp[up,Fe],by simp[up,Fe],by simp[up],by simp[up,Fe],rfl⟩
 obtain⟨rfl,h4,h7,rfl⟩:=hk
 (have hb:=trivial;with_reducible repeat' (first|simp only[hb,Vc.down,seval,a5V.down,h4,h7]|refine Bm ?_ ?_<;>intro hb|refine fd ?_|fail))
 rfl
def orN(a b:Int):Int:=IntKind.i64.wrap ((BitVec.ofInt 64 a|||BitVec.ofInt 64 b).toNat:Int)
theorem aI3(ty:TypeId)(a b:Int):Qm Try.prog .or ty (.int .i64 a) (.int .i64 b)=some (.int .i64 (orN a b)):=by
 show(if IntKind.i64=IntKind.i64 then Nl .or .i64 a b else none)=_
 rw[if_pos rfl];rfl
def Yw(m:Ah)(l:List Int):List Au→Nat→Int→Int
 | [],_,b=>b
 |v::vs,i,b=>Yw m l vs (i+1) (if sZ m l v=true then orN b (aMM i)else b)
theorem aEA(m:Ah){l:List Int}{nn:Bool}(hl:l.length=m.sens.length)(hs:m.small)(hi:∀v∈m.votes,Idx m v.sens):Ec.call (.fn 46) [.agg [Ak 3 true m.nS (m.sens.map Db.cells),Ak 4 false m.nV (m.votes.map Au.cells),Ak 5 false m.nM (m.moves.map Bi.cells),.int .i64 m.states,.int .i64 m.cmds,.int .i64 m.bgn,Ak 1 true m.nO (m.opn.map iv)],Ak 1 true nn (l.map iv)] []=some (.ret (.int .i64 (Yw m l m.votes 0 0)),[]):=by
 have hI:=hi
 clear hi
 (refine ce Try.func46 ?_;simp only[Try.f46];(have hb:=trivial;with_reducible repeat' (first|simp only[hb,Vc.down,seval,azI.down,acL]|refine Bm ?_ ?_<;>intro hb|refine fd ?_|fail)))
 refine Eo (Wy 50 m.votes (fun i (zz:Nat × Int) t h=>t 1=Ak 1 true nn (l.map iv)∧t 2=.ptr 0 0 0∧t 12=Ak 4 false m.nV (m.votes.map Au.cells)∧t 13=.int .i64 m.votes.length∧t 14=.int .i64 i∧t 5=.int .i64 zz.2∧(h[0]?=some (.live 7 false false [[Ak 3 true m.nS (m.sens.map Db.cells),Ak 4 false m.nV (m.votes.map Au.cells),Ak 5 false m.nM (m.moves.map Bi.cells),.int .i64 m.states,.int .i64 m.cmds,.int .i64 m.bgn,Ak 1 true m.nO (m.opn.map iv)]])∧i=zz.1)) (fun rest zz=>Yw m l rest zz.1 zz.2) (fun r e t h=>e=.exit 0∧t 5=.int .i64 r) ?_ ?_ (0,0) _ _ ?_) (fun e t h hk=>?_)
 ·rintro⟨k,b⟩ t h Q' kQ ⟨h1,h2,h12,h13,h14,h5,⟨hA,rfl⟩⟩
  try dsimp only at *
  (have hb:=trivial;with_reducible repeat' (first|simp only[hb,Vc.down,seval,azI.down,h1,h2,h12,h13,h14,h5,acR,decide_false]|refine Bm ?_ ?_<;>intro hb|refine fd ?_|fail))
  exact kQ _ _ _ ⟨rfl,by simp[up,h5,Yw]⟩
 ·rintro x rest i ⟨k,b⟩ t h J Q' kJ kQ hx hi ⟨h1,h2,h12,h13,h14,h5,⟨hA,rfl⟩⟩
  have hd:decide ((i:Int)<(m.votes.length:Int))=true:=decide_eq_true (by omega)
  have hw:=Bo hi hs.votes
  try dsimp only at *
  have hA1:=Ae hA
  have hvs:=hs.vs x (acZ hx)
  have hIx:=hI x (acZ hx)
  obtain⟨w,rfl⟩:∃w,w=x:=⟨_,rfl⟩
  obtain⟨k,rfl⟩:∃k,k=i:=⟨_,rfl⟩
  obtain⟨hL,hLe⟩:∃hL,hL=h.length:=⟨_,rfl⟩
  (have hb:=trivial;with_reducible repeat' (first|simp only[hb,Vc.down,seval,azI.down,h1,h2,h12,h13,h14,h5,hd,hx,hw,hA1,Au.cells,acL]|refine Bm ?_ ?_<;>intro hb|refine fd ?_|fail))
  refine Eo (Wy 50 w.sens (fun i (zz:Int) t h=>t 1=Ak 1 true nn (l.map iv)∧t 2=.ptr 0 0 0∧t 12=Ak 4 false m.nV (m.votes.map Au.cells)∧t 13=.int .i64 m.votes.length∧t 14=.int .i64 (k:Int)∧t 5=.int .i64 b∧t 6=.int .i64 (k:Int)∧t 7=.ptr hL 0 0∧t 20=Ak 1 true w.nn (w.sens.map iv)∧t 21=.int .i64 w.sens.length∧t 22=.int .i64 i∧t 8=.int .i64 zz∧(h[0]?=some (.live 7 false false [[Ak 3 true m.nS (m.sens.map Db.cells),Ak 4 false m.nV (m.votes.map Au.cells),Ak 5 false m.nM (m.moves.map Bi.cells),.int .i64 m.states,.int .i64 m.cmds,.int .i64 m.bgn,Ak 1 true m.nO (m.opn.map iv)]])∧∃wf,h[hL]?=some (.live 4 false wf [[Ak 1 true w.nn (w.sens.map iv),.int .i64 w.need,.int .i64 w.level,.bool w.above]]))) (fun rest zz=>aaQ m w l rest zz) (fun r e t h=>e=.exit 2∧t 1=Ak 1 true nn (l.map iv)∧t 2=.ptr 0 0 0∧t 12=Ak 4 false m.nV (m.votes.map Au.cells)∧t 13=.int .i64 m.votes.length∧t 14=.int .i64 (k:Int)∧t 5=.int .i64 b∧t 6=.int .i64 (k:Int)∧t 7=.ptr hL 0 0∧t 8=.int .i64 r∧h[0]?=some (.live 7 false false [[Ak 3 true m.nS (m.sens.map Db.cells),Ak 4 false m.nV (m.votes.map Au.cells),Ak 5 false m.nM (m.moves.map Bi.cells),.int .i64 m.states,.int .i64 m.cmds,.int .i64 m.bgn,Ak 1 true m.nO (m.opn.map iv)]])∧∃wf,h[hL]?=some (.live 4 false wf [[Ak 1 true w.nn (w.sens.map iv),.int .i64 w.need,.int .i64 w.level,.bool w.above]])) ?_ ?_ (0) _ _ ?_) (fun e tC hC hk=>?_)
  ·rintro c t h Q' kQ ⟨h1,h2,h12,h13,h14,h5,h6,h7,h20,h21,h22,h8,⟨hA,wf,hB⟩⟩
   (have hb:=trivial;with_reducible repeat' (first|simp only[hb,Vc.down,seval,azI.down,h1,h2,h12,h13,h14,h5,h6,h7,h20,h21,h22,h8,acR,decide_false]|refine Bm ?_ ?_<;>intro hb|refine fd ?_|fail))
   exact kQ _ _ _ ⟨rfl,by simp[up,h1],by simp[up,h2],by simp[up,h12],by simp[up,h13],by simp[up,h14],by simp[up,h5],by simp[up,h6],by simp[up,h7],by simp[up,h8,aaQ],hA,wf,hB⟩
  ·rintro x rest i c t h J Q' kJ kQ hx hi ⟨h1,h2,h12,h13,h14,h5,h6,h7,h20,h21,h22,h8,⟨hA,wf,hB⟩⟩
   have hd:decide ((i:Int)<(w.sens.length:Int))=true:=decide_eq_true (by omega)
   have hw:=Bo hi hvs
   obtain⟨k0,k1⟩:=hIx x (acZ hx)
   have hrr:=aD4 (l:=l) (k:=x) (by omega)
   have hss:=sY k1
   have h0':(0≤x)=True:=eq_true k0
   have hS:=aJ7 (Rb m x) w (rAt l x)
   generalize hq:Re (Rb m x) w (rAt l x)=q at hS
   generalize Rb m x=s at hss hS
   (have hb:=trivial;with_reducible repeat' (first|simp only[hb,Vc.down,seval,azI.down,h1,h2,h7,h8,h20,h21,h22,hd,hx,hw,hrr,hss,h0',hA,hB,hS,iv,Db.cells,acL]|refine Bm ?_ ?_<;>intro hb|refine fd ?_|fail))
   all_goals (refine Bn (kJ _ _ (if q=true then IntKind.i64.wrap (c+1)else c) ⟨?_,?_,?_,?_,?_,?_,?_,?_,?_,?_,?_,?_,⟨hA,wf,hB⟩⟩ ?_);(simp[up,h1]);(simp[up,h2]);(simp[up,h12]);(simp[up,h13]);(simp[up,h14]);(simp[up,h5]);(simp[up,h6]);(simp[up,h7]);(simp[up,h20]);(simp[up,h21]);(simp[up]);(simp[up,h8,hb]);(simp[aaQ,hq]))
  ·exact⟨by simp[up,Fe,h1,h2,h12,h13,h14,h5,hLe],by simp[up,Fe,h1,h2,h12,h13,h14,h5,hLe],by simp[up,Fe,h1,h2,h12,h13,h14,h5,hLe],by simp[up,Fe,h1,h2,h12,h13,h14,h5,hLe],by simp[up,Fe,h1,h2,h12,h13,h14,h5,hLe],by simp[up,Fe,h1,h2,h12,h13,h14,h5,hLe],by simp[up,Fe,h1,h2,h12,h13,h14,h5,hLe],by simp[up,Fe,h1,h2,h12,h13,h14,h5,hLe],by simp[up,Fe,h1,h2,h12,h13,h14,h5,hLe],by simp[up,Fe,h1,h2,h12,h13,h14,h5,hLe],by simp[up],by simp[up,Fe,h1,h2,h12,h13,h14,h5,hLe],⟨hA1 _,true,by rw[hLe];simp⟩⟩
  ·obtain⟨rfl,h1,h2,h12,h13,h14,h5,h6,h7,h8,hA,wf,hB⟩:=hk
   have hy:decide (w.need≤aaQ m w l w.sens 0)=sZ m l w:=rfl
   (have hb:=trivial;with_reducible repeat' (first|simp only[hb,Vc.down,seval,azI.down,h1,h2,h12,h13,h14,h5,h6,h7,h8,hA,hB,hw,hy,aI3]|refine Bm ?_ ?_<;>intro hb|refine fd ?_|fail))
   all_goals (refine Bn (kJ _ _ (k+1,(if sZ m l w=true then orN b (aMM k)else b)) ⟨?_,?_,?_,?_,?_,?_,⟨hA,rfl⟩⟩ ?_);(simp[up,h1]);(simp[up,h2]);(simp[up,h12]);(simp[up,h13]);(simp[up]);(simp[up,h5,hb]);(simp[Yw]))
 ·exact⟨by simp[up,Fe],by simp[up,Fe],by simp[up,Fe],by simp[up,Fe],by simp[up],by simp[up,Fe],⟨rfl,rfl⟩⟩
 obtain⟨rfl,h5⟩:=hk
 (have hb:=trivial;with_reducible repeat' (first|simp only[hb,Vc.down,seval,azI.down,h5]|refine Bm ?_ ?_<;>intro hb|refine fd ?_|fail))
def bv(b:Bool):List AV:=[.bool b]
theorem Jj{h:Aa}{b:Nat}(hb:b<h.length)(l:Aa)(c:CB):(h++l).set b c=h.set b c++l:=List.set_append_left _ _ hb
theorem Oa{h:Aa}{b:Nat}(c:CB)(l:Aa):(h.set b c++l)[h.length]?=l[0]?:=by
 have:=aR0 (h.set b c) l
 rwa[aEO]at this
theorem Gl{h:Aa}{b:Nat}(c:CB)(l:Aa)(k:Nat):(h.set b c++l)[h.length+k]?=l[k]?:=by
 have:=Qg (h.set b c) l k
 rwa[aEO]at this
theorem Wg{h:Aa}{b b':Nat}{x:CB}(c:CB)(hne:b≠b')(hb:h[b']?=some x)(l:Aa):(h.set b c++l)[b']?=some x:=by
 rw[List.getElem?_append_left (by rw[aEO];exact(aC7.1 hb).1),List.getElem?_set_ne hne];exact hb
def a6L(v:AV)(i:Nat)(rows:List (List AV))(h:Aa):Prop:=(i=0∧v=.nils)∨(0<i∧∃b,0<b∧v=.slr 1 b 0 i∧h[b]?=some (.live 1 true false rows))
theorem a38(m:Ah){l:List Int}{nn:Bool}(hl:l.length=m.sens.length)(hs:m.small)(h6:m.votes.length≤6)(hi:∀v∈m.votes,Idx m v.sens)(o:Gw)(h':Aa)(c0:m.votes=[]→(o,h')=(.ret .nils,[]))(c1:m.votes≠[]→(o,h')=(.ret (.slr 1 0 0 m.votes.length),[.live 1 true false ((m.votes.map (sZ m l)).map bv)])):
 Ec.call (.fn 28) [.agg [Ak 3 true m.nS (m.sens.map Db.cells),Ak 4 false m.nV (m.votes.map Au.cells),Ak 5 false m.nM (m.moves.map Bi.cells),.int .i64 m.states,.int .i64 m.cmds,.int .i64 m.bgn,Ak 1 true m.nO (m.opn.map iv)],Ak 1 true nn (l.map iv)] []=some (o,h'):=by
 have hI:=hi
 clear hi
 (refine ce Try.func28 ?_;simp only[Try.f28];(have hb:=trivial;with_reducible repeat' (first|simp only[hb,Vc.down,seval,aVW.down,acL]|refine Bm ?_ ?_<;>intro hb|refine fd ?_|fail)))
 refine Eo (Wy 26 m.votes (fun i (zz:List Bool) t h=>t 1=Ak 1 true nn (l.map iv)∧t 2=.ptr 0 0 0∧t 6=.int .i64 i∧(h[0]?=some (.live 7 false false [[Ak 3 true m.nS (m.sens.map Db.cells),Ak 4 false m.nV (m.votes.map Au.cells),Ak 5 false m.nM (m.moves.map Bi.cells),.int .i64 m.states,.int .i64 m.cmds,.int .i64 m.bgn,Ak 1 true m.nO (m.opn.map iv)]])∧zz.length=i∧a6L (t 5) i (zz.map bv) h)) (fun rest zz=>zz++rest.map (sZ m l)) (fun r e t h=>e=.exit 0∧a6L (t 5) m.votes.length (r.map bv) h) ?_ ?_ ([]) _ _ ?_) (fun e t h hk=>?_)
 ·rintro a t h Q' kQ ⟨h1,h2,h6,⟨hA,hp,hc⟩⟩
  (have hb:=trivial;with_reducible repeat' (first|simp only[hb,Vc.down,seval,aVW.down,h1,h2,h6,acR,decide_false,hA,acL]|refine Bm ?_ ?_<;>intro hb|refine fd ?_|fail))
  exact kQ _ _ _ ⟨rfl,by simpa [up]using hc⟩
 ·rintro x rest i a t h J Q' kJ kQ hx hi ⟨h1,h2,h6,⟨hA,hp,hc⟩⟩
  have hd:decide ((i:Int)<(m.votes.length:Int))=true:=decide_eq_true (by omega)
  have hw:=Bo hi hs.votes
  have hV:=a6Y m x (l:=l) (nn:=nn) hl (hs.vs x (acZ hx)) (hI x (acZ hx))
  have hA1:=Ae hA
  have h0l:0<h.length:=(aC7.1 hA).1
  rcases hc with⟨rfl,ho⟩|⟨h0,b,hb0,ho,hb⟩
  ·simp only[Int.natCast_zero]at hd
   (have hb:=trivial;with_reducible repeat' (first|simp only[hb,Vc.down,seval,aVW.down,h1,h2,h6,ho,hd,hw,hx,hA,hA1,hV,Au.cells,acL]|refine Bm ?_ ?_<;>intro hb|refine fd ?_|fail))
   obtain rfl:a=[]:=aKM.1 hp
   (refine Bn (kJ _ _ [sZ m l x] ⟨?_,?_,?_,⟨hA1 _,rfl,.inr ⟨by omega,h.length+1,by omega,by simp[up],by rw[Qg];simp[bv]⟩⟩⟩ ?_);(simp[up,h1]);(simp[up,h2]);(simp[up]);(simp))
  ·have hbl:b<h.length:=(aC7.1 hb).1
   have hB:=Ae hb
   have hS:=Jj hbl
   have hlp:0+i=a.length:=by omega
   have hi39:(i+1≤549755813888)=True:=eq_true (by omega)
   (have hb:=trivial;with_reducible repeat' (first|simp only[hb,Vc.down,seval,aVW.down,h1,h2,h6,ho,hd,hw,hx,hA,hA1,hV,Au.cells,acL,hB,hS,Oa,Gl,aEO,hp,hi39]|refine Bm ?_ ?_<;>intro hb|refine fd ?_|fail))
   (refine Bn (kJ _ _ (a++[sZ m l x]) ⟨?_,?_,?_,⟨Wg _ (by omega) hA _,by simp[hp],.inr ⟨by omega,h.length+1,by omega,by simp[up],by rw[Gl];simp[bv]⟩⟩⟩ ?_);(simp[up,h1]);(simp[up,h2]);(simp[up]);(simp))
 ·exact⟨by simp[up,Fe],by simp[up,Fe],by simp[up],⟨rfl,rfl,.inl ⟨rfl,by simp[up]⟩⟩⟩
 obtain⟨rfl,⟨hn,ho⟩|⟨hn,b,hb0,ho,hb⟩⟩:=hk
 ·rw[c0 (aKM.1 hn)]
  (have hb:=trivial;with_reducible repeat' (first|simp only[hb,Vc.down,seval,aVW.down,ho]|refine Bm ?_ ?_<;>intro hb|refine fd ?_|fail))
 ·rw[c1 (fun e=>by rw[e]at hn;simp at hn)]
  (with_reducible repeat' (first|simp only[hb,Vc.down,seval,aVW.down,ho,hb]|refine Bm ?_ ?_<;>intro hb|refine fd ?_|fail))
def fO:List Bool→Nat→Int→Int
 | [],_,b=>b
 |v::vs,i,b=>fO vs (i+1) (if v=true then orN b (aMM i)else b)
theorem ahR(m:Ah)(l:List Int):∀(vs:List Au) (i:Nat) (b:Int),Yw m l vs i b=fO (vs.map (sZ m l)) i b
 | [],_,_=>rfl
 |v::vs,i,b=>by simp only[Yw,List.map_cons,fO];exact ahR m l vs _ _
def Ve(b v:Int):Bool:=aXM (aUQ b v.toNat)==1
theorem aKP:∀(l:List Bool),l.length≤6→∀i:Nat,i<l.length→l[i]?=some (Ve (fO l 0 0) i)
 | [],_,i,h=>by simp at h
 | [a],_,i,h=>by
   have:∀a:Bool,∀i:Fin 1,[a][i.val]?=some (Ve (fO [a] 0 0) (i.val:Nat)):=by decide+kernel
   exact this a ⟨i,h⟩
 | [a,b],_,i,h=>by
   have:∀a b:Bool,∀i:Fin 2,[a,b][i.val]?=some (Ve (fO [a,b] 0 0) (i.val:Nat)):=by decide+kernel
   exact this a b ⟨i,h⟩
 | [a,b,c],_,i,h=>by
   have:∀a b c:Bool,∀i:Fin 3,[a,b,c][i.val]?=some (Ve (fO [a,b,c] 0 0) (i.val:Nat)):=by decide+kernel
   exact this a b c ⟨i,h⟩
 | [a,b,c,d],_,i,h=>by
   have:∀a b c d:Bool,∀i:Fin 4,[a,b,c,d][i.val]?=some (Ve (fO [a,b,c,d] 0 0) (i.val:Nat)):=by decide+kernel
   exact this a b c d ⟨i,h⟩
 | [a,b,c,d,e],_,i,h=>by
   have:∀a b c d e:Bool,∀i:Fin 5,[a,b,c,d,e][i.val]?=some (Ve (fO [a,b,c,d,e] 0 0) (i.val:Nat)):=by decide+kernel
   exact this a b c d e ⟨i,h⟩
 | [a,b,c,d,e,f],_,i,h=>by
   have:∀a b c d e f:Bool,∀i:Fin 6,[a,b,c,d,e,f][i.val]?=some (Ve (fO [a,b,c,d,e,f] 0 0) (i.val:Nat)):=by decide+kernel
   exact this a b c d e f ⟨i,h⟩
 |_::_::_::_::_::_::_::_,h,_,_=>by simp only[List.length_cons]at h;omega
theorem aJX(a b:Bool):Qm Try.prog .neq 4 (.bool a) (.bool b)=some (.bool (!(a==b))):=by cases a<;>cases b<;>kernel_rfl
structure Xs where
 frm:Int
 to:Int
 nn:Bool
 wants:List Bf
 cmd:Int
 after:Int
 st:Int
 ag:Int
 bits:Int
 com:Int
theorem aPQ(n:Xs):Ec.call (.fn 92) [.agg [.int .i64 n.frm,.int .i64 n.to,Ak 2 true n.nn (n.wants.map Bf.cells),.int .i64 n.cmd,.int .i64 n.after,.int .i64 n.st,.int .i64 n.ag,.int .i64 n.bits,.int .i64 n.com]] []=some (.ret (.bool (n.frm==n.st)),[]):=by
 (refine ce Try.func92 ?_;simp only[Try.f92];(have hb:=trivial;with_reducible repeat' (first|simp only[hb,Vc.down,seval,biI.down]|refine Bm ?_ ?_<;>intro hb|refine fd ?_|fail)))
theorem a0M(n:Xs):Ec.call (.fn 93) [.agg [.int .i64 n.frm,.int .i64 n.to,Ak 2 true n.nn (n.wants.map Bf.cells),.int .i64 n.cmd,.int .i64 n.after,.int .i64 n.st,.int .i64 n.ag,.int .i64 n.bits,.int .i64 n.com]] []=some (.ret (.bool (decide (n.after≤n.ag))),[]):=by
 (refine ce Try.func93 ?_;simp only[Try.f93];(have hb:=trivial;with_reducible repeat' (first|simp only[hb,Vc.down,seval,bcW.down]|refine Bm ?_ ?_<;>intro hb|refine fd ?_|fail)))
theorem aPE(n:Xs):Ec.call (.fn 95) [.agg [.int .i64 n.frm,.int .i64 n.to,Ak 2 true n.nn (n.wants.map Bf.cells),.int .i64 n.cmd,.int .i64 n.after,.int .i64 n.st,.int .i64 n.ag,.int .i64 n.bits,.int .i64 n.com]] []=some (.ret (.bool (n.cmd== -1||n.cmd==n.com)),[]):=by
 (refine ce Try.func95 ?_;simp only[Try.f95];(have hb:=trivial;with_reducible repeat' (first|simp only[hb,Vc.down,seval,bcS.down]|refine Bm ?_ ?_<;>intro hb|refine fd ?_|fail)))
 all_goals simp_all
theorem aA4(n:Xs)(w:Bf)(h0:0≤w.vote):Ec.call (.fn 99) [.agg [.int .i64 w.vote,.bool w.is],.ptr 0 0 0] [.live 9 false false [[.int .i64 n.frm,.int .i64 n.to,Ak 2 true n.nn (n.wants.map Bf.cells),.int .i64 n.cmd,.int .i64 n.after,.int .i64 n.st,.int .i64 n.ag,.int .i64 n.bits,.int .i64 n.com]]]=some (.ret (.bool (!(Ve n.bits w.vote==w.is))),[.live 9 false false [[.int .i64 n.frm,.int .i64 n.to,Ak 2 true n.nn (n.wants.map Bf.cells),.int .i64 n.cmd,.int .i64 n.after,.int .i64 n.st,.int .i64 n.ag,.int .i64 n.bits,.int .i64 n.com]]]):=by
 obtain⟨v,is⟩:=w
 obtain⟨k,hk⟩:∃k:Nat,v=k:=⟨v.toNat,by simp at h0;omega⟩
 subst hk
 (refine ce Try.func99 ?_;simp only[Try.f99];(have hb:=trivial;with_reducible repeat' (first|simp only[hb,Vc.down,seval,bdO.down,aJX]|refine Bm ?_ ?_<;>intro hb|refine fd ?_|fail)))
 all_goals simp[Ve]
theorem ap6{l:List Bf}{nn:Bool}{g:Nat}{ndq:Xs}{p:Bf→Bool}(hp:∀x∈l,Ec.call (.fn g) (.agg [.int .i64 x.vote,.bool x.is]::[.ptr 0 0 0]) [.live 9 false false [[.int .i64 ndq.frm,.int .i64 ndq.to,Ak 2 true ndq.nn (ndq.wants.map Bf.cells),.int .i64 ndq.cmd,.int .i64 ndq.after,.int .i64 ndq.st,.int .i64 ndq.ag,.int .i64 ndq.bits,.int .i64 ndq.com]]]=some (.ret (.bool (p x)),[.live 9 false false [[.int .i64 ndq.frm,.int .i64 ndq.to,Ak 2 true ndq.nn (ndq.wants.map Bf.cells),.int .i64 ndq.cmd,.int .i64 ndq.after,.int .i64 ndq.st,.int .i64 ndq.ag,.int .i64 ndq.bits,.int .i64 ndq.com]]]))(hl:l.length≤maxLen)(hgm:Ec.md g=false:=by exact rfl):
 Ec.call (.fn 98) [Ak 2 true nn (l.map Bf.cells),.func (.func g) [] [.ptr 0 0 0]] [.live 9 false false [[.int .i64 ndq.frm,.int .i64 ndq.to,Ak 2 true ndq.nn (ndq.wants.map Bf.cells),.int .i64 ndq.cmd,.int .i64 ndq.after,.int .i64 ndq.st,.int .i64 ndq.ag,.int .i64 ndq.bits,.int .i64 ndq.com]]]=some (.ret (.int .i64 (uR p l 0)),[.live 9 false false [[.int .i64 ndq.frm,.int .i64 ndq.to,Ak 2 true ndq.nn (ndq.wants.map Bf.cells),.int .i64 ndq.cmd,.int .i64 ndq.after,.int .i64 ndq.st,.int .i64 ndq.ag,.int .i64 ndq.bits,.int .i64 ndq.com]]]):=by
 (refine ce Try.func98 ?_;simp only[Try.f98];(have hb:=trivial;with_reducible repeat' (first|simp only[hb,Vc.down,seval,vP.down,acL]|refine Bm ?_ ?_<;>intro hb|refine fd ?_|fail)))
 refine Eo (Wy 19 l (fun i (s:Int) t h=>s=i∧h=[.live 9 false false [[.int .i64 ndq.frm,.int .i64 ndq.to,Ak 2 true ndq.nn (ndq.wants.map Bf.cells),.int .i64 ndq.cmd,.int .i64 ndq.after,.int .i64 ndq.st,.int .i64 ndq.ag,.int .i64 ndq.bits,.int .i64 ndq.com]]]∧t 0=Ak 2 true nn (l.map Bf.cells)∧t 1=.func (.func g) [] [.ptr 0 0 0]∧t 7=.int .i64 l.length∧t 8=.int .i64 i)
  (fun rest s=>uR p rest s) (fun r e t h=>h=[.live 9 false false [[.int .i64 ndq.frm,.int .i64 ndq.to,Ak 2 true ndq.nn (ndq.wants.map Bf.cells),.int .i64 ndq.cmd,.int .i64 ndq.after,.int .i64 ndq.st,.int .i64 ndq.ag,.int .i64 ndq.bits,.int .i64 ndq.com]]]∧((e=.exit 0∧r= -1)∨(e=.ret∧t 4=.int .i64 r))) ?_ ?_ 0 _ _ ?_) (fun e t h hk=>?_)
 ·rintro s t h Q' kQ ⟨rfl,rfl,h0,h1,h7,h8⟩
  (have hb:=trivial;with_reducible repeat' (first|simp only[hb,Vc.down,seval,vP.down,h0,h1,h7,h8,acR,decide_false]|refine Bm ?_ ?_<;>intro hb|refine fd ?_|fail))
  exact kQ _ _ _ ⟨rfl,.inl ⟨rfl,rfl⟩⟩
 ·rintro x rest i s t h J Q' kJ kQ hx hi ⟨rfl,rfl,h0,h1,h7,h8⟩
  have hgm2:=hgm
  simp only[adA,aHJ,aHM,Bool.or_false]at hgm2
  have hpx:=hp x (acZ hx)
  have hd:decide ((i:Int)<(l.length:Int))=true:=by simpa using hi
  (have hb:=trivial;with_reducible repeat' (first|simp only[hb,Vc.down,seval,vP.down,h0,h1,h7,h8,hd,hx,Bf.cells,hpx,hgm2,Bo hi hl]|refine Bm ?_ ?_<;>intro hb|refine fd ?_|fail))
  ·exact kQ _ _ _ ⟨rfl,.inr ⟨rfl,by simp[up,uR,hb]⟩⟩
  ·exact Bn (kJ _ _ (i+1) ⟨by simp,rfl,by simp[up,h0],by simp[up,h1],by simp[up,h7],by simp[up]⟩ (by simp[uR,hb]))
 ·exact⟨rfl,rfl,by simp[up,Fe],by simp[up,Fe],by simp[up],by simp[up]⟩
 ·obtain⟨rfl,⟨rfl,hi⟩|⟨rfl,hi⟩⟩:=hk
  ·(have hb:=trivial;with_reducible repeat' (first|simp only[hb,Vc.down,seval,vP.down]|refine Bm ?_ ?_<;>intro hb|refine fd ?_|fail))
   rw[hi]
  ·(have hb:=trivial;with_reducible repeat' (first|simp only[hb,Vc.down,seval,vP.down,hi]|refine Bm ?_ ?_<;>intro hb|refine fd ?_|fail))
theorem adE{l:List Bf}{nn:Bool}{g:Nat}{ndq:Xs}{p:Bf→Bool}(hp:∀x∈l,Ec.call (.fn g) (.agg [.int .i64 x.vote,.bool x.is]::[.ptr 0 0 0]) [.live 9 false false [[.int .i64 ndq.frm,.int .i64 ndq.to,Ak 2 true ndq.nn (ndq.wants.map Bf.cells),.int .i64 ndq.cmd,.int .i64 ndq.after,.int .i64 ndq.st,.int .i64 ndq.ag,.int .i64 ndq.bits,.int .i64 ndq.com]]]=some (.ret (.bool (p x)),[.live 9 false false [[.int .i64 ndq.frm,.int .i64 ndq.to,Ak 2 true ndq.nn (ndq.wants.map Bf.cells),.int .i64 ndq.cmd,.int .i64 ndq.after,.int .i64 ndq.st,.int .i64 ndq.ag,.int .i64 ndq.bits,.int .i64 ndq.com]]]))(hl:l.length≤maxLen)(hgm:Ec.md g=false:=by exact rfl):
 Ec.call (.fn 89) [Ak 2 true nn (l.map Bf.cells),.func (.func g) [] [.ptr 0 0 0]] [.live 9 false false [[.int .i64 ndq.frm,.int .i64 ndq.to,Ak 2 true ndq.nn (ndq.wants.map Bf.cells),.int .i64 ndq.cmd,.int .i64 ndq.after,.int .i64 ndq.st,.int .i64 ndq.ag,.int .i64 ndq.bits,.int .i64 ndq.com]]]=some (.ret (.bool (l.any p)),[.live 9 false false [[.int .i64 ndq.frm,.int .i64 ndq.to,Ak 2 true ndq.nn (ndq.wants.map Bf.cells),.int .i64 ndq.cmd,.int .i64 ndq.after,.int .i64 ndq.st,.int .i64 ndq.ag,.int .i64 ndq.bits,.int .i64 ndq.com]]]):=by
 (refine ce Try.func89 ?_;simp only[Try.f89];(have hb:=trivial;with_reducible repeat' (first|simp only[hb,Vc.down,seval,ap6 hp hl hgm,Yf p l 0 (aER 0)]|refine Bm ?_ ?_<;>intro hb|refine fd ?_|fail)))
def fL(bits:Int)(l:List Bf):Bool:=l.all fun w=>Ve bits w.vote==w.is
theorem aGB(n:Xs)(hl:n.wants.length≤maxLen)(h0:∀w∈n.wants,0≤w.vote):Ec.call (.fn 94) [.agg [.int .i64 n.frm,.int .i64 n.to,Ak 2 true n.nn (n.wants.map Bf.cells),.int .i64 n.cmd,.int .i64 n.after,.int .i64 n.st,.int .i64 n.ag,.int .i64 n.bits,.int .i64 n.com]] []=some (.ret (.bool (fL n.bits n.wants)),[]):=by
 have hc:=adE (ndq:=n) (l:=n.wants) (nn:=n.nn) (g:=99) (p:=fun w=> !(Ve n.bits w.vote==w.is)) (fun w hw=>aA4 n w (h0 w hw)) hl
 have q1:fL n.bits n.wants= !(n.wants.any fun w=> !(Ve n.bits w.vote==w.is)):=aE9
 (refine ce Try.func94 ?_;simp only[Try.f94];(have hb:=trivial;with_reducible repeat' (first|simp only[hb,Vc.down,seval,beA.down,hc]|refine Bm ?_ ?_<;>intro hb|refine fd ?_|fail)))
 all_goals simp[q1]
theorem aWS(f0 f1 f2 f3:Fn)(a0 a1 a2 a3 c0 c1 c2 c3:List AV):kB Try.prog 155 [(0,.func f0 a0 c0),(1,.func f1 a1 c1),(2,.func f2 a2 c2),(3,.func f3 a3 c3)]=some (.agg [.func f0 a0 c0,.func f1 a1 c1,.func f2 a2 c2,.func f3 a3 c3]):=by kernel_rfl
theorem aL2(a b c d:AV):jT Try.prog 155 (.agg [a,b,c,d]) (.int .i64 0)=some a:=by kernel_rfl
theorem aOH(a b c d:AV):jT Try.prog 155 (.agg [a,b,c,d]) (.int .i64 1)=some b:=by kernel_rfl
theorem aME(a b c d:AV):jT Try.prog 155 (.agg [a,b,c,d]) (.int .i64 2)=some c:=by kernel_rfl
theorem aM0(a b c d:AV):jT Try.prog 155 (.agg [a,b,c,d]) (.int .i64 3)=some d:=by kernel_rfl
def azX(n:Xs):Bool:=(n.frm==n.st)&&decide (n.after≤n.ag)&&fL n.bits n.wants&&(n.cmd== -1||n.cmd==n.com)
theorem w2:IntKind.i64.wrap 2=2:=Eq.trans rfl rfl
theorem w3:IntKind.i64.wrap 3=3:=Eq.trans rfl rfl
theorem w4:IntKind.i64.wrap 4=4:=Eq.trans rfl rfl
theorem aCI(n:Xs)(hl:n.wants.length≤maxLen)(h0:∀w∈n.wants,0≤w.vote):Ec.call (.fn 75) [.agg [.int .i64 n.frm,.int .i64 n.to,Ak 2 true n.nn (n.wants.map Bf.cells),.int .i64 n.cmd,.int .i64 n.after,.int .i64 n.st,.int .i64 n.ag,.int .i64 n.bits,.int .i64 n.com]] []=some (.ret (.bool (azX n)),[]):=by
 have q1:=aPQ n
 have q2:=a0M n
 have q3:=aGB n hl h0
 have q4:=aPE n
 (refine ce Try.func75 ?_;simp only[Try.f75];(have hb:=trivial;with_reducible repeat' (first|simp only[hb,Vc.down,seval,a42.down,aWS,aL2,aOH,aME,aM0,q1,q2,q3,q4,w2,w3,w4]|refine Bm ?_ ?_<;>intro hb|refine fd ?_|fail)))
 (have hb:=trivial;with_reducible repeat' (first|simp only[hb,Vc.down,seval,a42.down,aWS,aL2,aOH,aME,aM0,q1,q2,q3,q4,w2,w3,w4]|refine Bm ?_ ?_<;>intro hb|refine fd ?_|refine a9O ?_|fail))
 all_goals (refine congrArg (fun b=>(Gw.ret (AV.bool b),([]:Aa))) ?_;symm;((try simp only[aLD,aAO,aAP]at *);simp only[azX, *,aLE,aC6,aG6,aCF,Bool.and_self,Bool.not_not,aAO,aAP,aAN,List.all_nil]))
def nd(x:Bi)(st ag bits com:Int):Xs:=⟨x.frm,x.to,x.nn,x.wants,x.cmd,x.after,st,ag,bits,com⟩
theorem aTJ(x:Bi)(st ag bits com:Int){bs:List Bool}{nn:Bool}(hl:x.wants.length≤maxLen)(hv:∀w∈x.wants,0≤w.vote∧bs[w.vote.toNat]?=some (Ve bits w.vote)):
 Ec.call (.fn 50) [.agg [.int .i64 x.frm,.int .i64 x.to,Ak 2 true x.nn (x.wants.map Bf.cells),.int .i64 x.cmd,.int .i64 x.after],.int .i64 st,.int .i64 ag,Ak 1 true nn (bs.map bv),.int .i64 com] []=some (.ret (.bool (azX (nd x st ag bits com))),[]):=by
 obtain⟨y,rfl⟩:∃y,y=x:=⟨_,rfl⟩
 (refine ce Try.func50 ?_;simp only[Try.f50];(have hb:=trivial;with_reducible repeat' (first|simp only[hb,Vc.down,seval,aYQ.down,acL]|refine Bm ?_ ?_<;>intro hb|refine fd ?_|fail)))
 refine Eo (Wy 56 y.wants (fun i (zz:Unit) t h=>t 1=.int .i64 st∧t 2=.int .i64 ag∧t 3=Ak 1 true nn (bs.map bv)∧t 4=.int .i64 com∧t 5=.ptr 0 0 0∧t 11=.int .i64 i∧(h=[.live 5 false false [[.int .i64 y.frm,.int .i64 y.to,Ak 2 true y.nn (y.wants.map Bf.cells),.int .i64 y.cmd,.int .i64 y.after]]])) (fun rest zz=>fL bits rest) (fun r e t h=>(if r=true then e=.exit 0∧t 1=.int .i64 st∧t 2=.int .i64 ag∧t 4=.int .i64 com∧t 5=.ptr 0 0 0∧h=[.live 5 false false [[.int .i64 y.frm,.int .i64 y.to,Ak 2 true y.nn (y.wants.map Bf.cells),.int .i64 y.cmd,.int .i64 y.after]]]else e=.ret∧t 10=.bool false)) ?_ ?_ () _ _ ?_) (fun e t h hk=>?_)
 ·rintro _ t h Q' kQ ⟨h1,h2,h3,h4,h5,h11,rfl⟩
  (have hb:=trivial;with_reducible repeat' (first|simp only[hb,Vc.down,seval,aYQ.down,h1,h2,h3,h4,h5,h11,acR,decide_false,acL]|refine Bm ?_ ?_<;>intro hb|refine fd ?_|fail))
  exact kQ _ _ _ (by rw[if_pos (by rfl)];exact⟨rfl,by simp[up,h1],by simp[up,h2],by simp[up,h4],by simp[up,h5],rfl⟩)
 ·rintro x rest i _ t h J Q' kJ kQ hx hi ⟨h1,h2,h3,h4,h5,h11,rfl⟩
  have hd:decide ((i:Int)<(y.wants.length:Int))=true:=decide_eq_true (by omega)
  have hw:=Bo hi hl
  obtain⟨k0,k1⟩:=hv x (acZ hx)
  have h0':(0≤x.vote)=True:=eq_true k0
  (have hb:=trivial;with_reducible repeat' (first|simp only[hb,Vc.down,seval,aYQ.down,h1,h2,h3,h4,h5,h11,hd,hx,hw,k1,h0',aJX,bv,Bf.cells,acL]|refine Bm ?_ ?_<;>intro hb|refine fd ?_|fail))
  all_goals first
   |exact kQ _ _ _ (by rw[if_neg (by simp_all[fL])];exact⟨rfl,by simp[up]⟩)
   |(refine Bn (kJ _ _ () ⟨?_,?_,?_,?_,?_,?_,rfl⟩ ?_);(simp[up,h1]);(simp[up,h2]);(simp[up,h3]);(simp[up,h4]);(simp[up,h5]);(simp[up]);(simp_all[fL]))
 ·exact⟨by simp[up,Fe],by simp[up,Fe],by simp[up,Fe],by simp[up,Fe],by simp[up,Fe],by simp[up],rfl⟩
 split at hk
 ·obtain⟨rfl,h1,h2,h4,h5,rfl⟩:=hk
  rename_i hr1
  (have hb:=trivial;with_reducible repeat' (first|simp only[hb,Vc.down,seval,aYQ.down,h1,h2,h4,h5]|refine Bm ?_ ?_<;>intro hb|refine fd ?_|fail))
  all_goals (refine congrArg (fun b=>(Gw.ret (AV.bool b),([]:Aa))) ?_;symm;simp only[azX,nd];(try have q9:=hr1);simp_all<;>try (intro q7;exfalso;have:=of_decide_eq_true q7;omega))
 ·obtain⟨rfl,h2⟩:=hk
  rename_i hr1
  (have hb:=trivial;with_reducible repeat' (first|simp only[hb,Vc.down,seval,aYQ.down,h2]|refine Bm ?_ ?_<;>intro hb|refine fd ?_|fail))
  all_goals simp_all[azX,nd]
def aAR(a:Int):Int:=if IntKind.i64.wrap (a+1)<10 then IntKind.i64.wrap (a+1)else 10
def Pm(st ag bits com:Int):List Bi→Int × Int
 | []=>(st,aAR ag)
 |x::l=>if azX (nd x st ag bits com)=true then(x.to,0)else Pm st ag bits com l
theorem aK4(m:Ah)(st ag bits com:Int)(hs:m.small)(h0:∀x∈m.moves,∀w∈x.wants,0≤w.vote):
 Ec.call (.fn 45) [.agg [Ak 3 true m.nS (m.sens.map Db.cells),Ak 4 false m.nV (m.votes.map Au.cells),Ak 5 false m.nM (m.moves.map Bi.cells),.int .i64 m.states,.int .i64 m.cmds,.int .i64 m.bgn,Ak 1 true m.nO (m.opn.map iv)],.agg [.int .i64 st,.int .i64 ag],.agg [.int .i64 bits,.int .i64 com]] []=some (.ret (.agg [.int .i64 (Pm st ag bits com m.moves).1,.int .i64 (Pm st ag bits com m.moves).2]),[]):=by
 (refine ce Try.func45 ?_;simp only[Try.f45];(have hb:=trivial;with_reducible repeat' (first|simp only[hb,Vc.down,seval,aHQ.down,acL]|refine Bm ?_ ?_<;>intro hb|refine fd ?_|fail)))
 refine Eo (Wy 32 m.moves (fun i (zz:Unit) t h=>t 4=.ptr 1 0 0∧t 5=.ptr 2 0 0∧t 6=.ptr 3 0 0∧t 10=Ak 5 false m.nM (m.moves.map Bi.cells)∧t 11=.int .i64 m.moves.length∧t 12=.int .i64 i∧(h[1]?=some (.live 2 true false [[.int .i64 st,.int .i64 ag]])∧h[2]?=some (.live 2 true false [[.int .i64 bits,.int .i64 com]])∧h[3]?=some (.live 2 true false [[.int .i64 0,.int .i64 0]]))) (fun rest zz=>Pm st ag bits com rest) (fun r e t h=>(e=.exit 0∧t 4=.ptr 1 0 0∧t 6=.ptr 3 0 0∧h[1]?=some (.live 2 true false [[.int .i64 st,.int .i64 ag]])∧h[3]?=some (.live 2 true false [[.int .i64 0,.int .i64 0]])∧r=(st,aAR ag))∨(e=.ret∧t 6=.ptr 3 0 0∧h[3]?=some (.live 2 true true [[.int .i64 r.1,.int .i64 r.2]]))) ?_ ?_ () _ _ ?_) (fun e t h hk=>?_)
 ·rintro _ t h Q' kQ ⟨h4,h5,h6,h10,h11,h12,⟨hA,hB,hC⟩⟩
  (have hb:=trivial;with_reducible repeat' (first|simp only[hb,Vc.down,seval,aHQ.down,h4,h5,h6,h10,h11,h12,acR,decide_false]|refine Bm ?_ ?_<;>intro hb|refine fd ?_|fail))
  exact kQ _ _ _ (.inl ⟨rfl,by simp[up,h4],by simp[up,h6],hA,hC,rfl⟩)
 ·rintro x rest i _ t h J Q' kJ kQ hx hi ⟨h4,h5,h6,h10,h11,h12,⟨hA,hB,hC⟩⟩
  have hd:decide ((i:Int)<(m.moves.length:Int))=true:=decide_eq_true (by omega)
  have hw:=Bo hi hs.moves
  have hA1:=Ae hA
  have hB1:=Ae hB
  have hC1:=Ae hC
  have hap:=aCI (nd x st ag bits com) (hs.ws x (acZ hx)) (h0 x (acZ hx))
  have h3l:3<h.length:=(aC7.1 hC).1
  generalize hq:azX (nd x st ag bits com)=q at hap
  simp only[nd]at hap
  (have hb:=trivial;with_reducible repeat' (first|simp only[hb,Vc.down,seval,aHQ.down,h4,h5,h6,h10,h11,h12,hd,hx,hw,hA1,hB1,hC1,hap,Bi.cells,acL]|refine Bm ?_ ?_<;>intro hb|refine fd ?_|fail))
  ·exact kQ _ _ _ (.inr ⟨rfl,by simp[up,h6],by rw[aLF (by simp;omega)];simp[Pm,hq,hb]⟩)
  ·(refine Bn (kJ _ _ () ⟨?_,?_,?_,?_,?_,?_,⟨hA1 _,hB1 _,hC1 _⟩⟩ ?_);(simp[up,h4]);(simp[up,h5]);(simp[up,h6]);(simp[up,h10]);(simp[up,h11]);(simp[up]);(simp[Pm,hq,hb]))
 ·exact⟨by simp[up,Fe],by simp[up,Fe],by simp[up,Fe],by simp[up,Fe],by simp[up,Fe],by simp[up],⟨rfl,rfl,rfl⟩⟩
 rcases hk with⟨rfl,h4,h6,hA,hC,hr⟩|⟨rfl,h6,hC⟩
 ·have hA1:=Ae hA
  have hC1:=Ae hC
  have h3l:3<h.length:=(aC7.1 hC).1
  have hset:∀c:CB,(h.set 3 c)[3]?=some c:=fun c=>aLF h3l
  have hmt:(if IntKind.i64.wrap (ag+1)<10 then IntKind.i64.wrap (ag+1)else 10)=aAR ag:=rfl
  rw[hr]
  (have hb:=trivial;with_reducible repeat' (first|simp only[hb,Vc.down,seval,aHQ.down,h4,h6,hA,hC,hA1,hC1,hset,hmt]|refine Bm ?_ ?_<;>intro hb|refine fd ?_|fail))
 ·(have hb:=trivial;with_reducible repeat' (first|simp only[hb,Vc.down,seval,aHQ.down,h6,hC]|refine Bm ?_ ?_<;>intro hb|refine fd ?_|fail))
theorem aCE{m:Ah}(h:Ce m=true):∀x∈m.moves,∀w∈x.wants,0≤w.vote∧w.vote.toNat<m.votes.length:=fun x hx w hw=>by
 simp only[Ce,cJ,aqD,decide_eq_true_eq,aJZ]at h
 have h2:=h.1.2 x hx
 simp only[Vo,aqD]at h2
 have h3:=h2.1.1.1.1.1
 have h6:m.votes.length≤6:=h.1.1.1.1.1.1.1.1.1.2
 have key:∀(l p:List Bf),Qr m.votes.length p l=true→w∈l→0≤w.vote∧w.vote.toNat<m.votes.length:=by
  intro l
  induction l with
  |nil=>intro p _ h;cases h
  |cons y l ih=>
   intro p h hm
   simp only[Qr,aqD]at h
   rcases List.mem_cons.1 hm with rfl|hm
   ·have:=h.1.1
    rw[Dz (by omega) (by omega)]at this
    simp[Qy]at this
    omega
   ·exact ih _ h.2 hm
 exact key x.wants [] h3 hw
def aL0(m:Ah)(st ag:Int)(s:azE):Int × Int:=Pm st ag (Yw m s.reads m.votes 0 0) s.cmd m.moves
theorem a09{m:Ah}{l:List Int}(h:aE7 m l=true):l.length=m.sens.length:=by
 simp only[aE7,aqD,beq_iff_eq]at h
 omega
theorem fN{m:Ah}(h:Ce m=true):m.votes.length≤6:=by
 simp only[Ce,cJ,aqD,decide_eq_true_eq]at h
 exact h.1.1.1.1.1.1.1.1.1.2
theorem aX1(m:Ah)(st ag:Int)(y:azE)(hs:m.small)(hm:Ce m=true)(hr:aE7 m y.reads=true):Ec.call (.fn 17) [.agg [Ak 3 true m.nS (m.sens.map Db.cells),Ak 4 false m.nV (m.votes.map Au.cells),Ak 5 false m.nM (m.moves.map Bi.cells),.int .i64 m.states,.int .i64 m.cmds,.int .i64 m.bgn,Ak 1 true m.nO (m.opn.map iv)],.int .i64 st,.int .i64 ag,.agg [Ak 1 true y.nn (y.reads.map iv),.int .i64 y.cmd]] []=
 some (.ret (.tup [.int .i64 (aL0 m st ag y).1,.int .i64 (aL0 m st ag y).2]),[]):=by
 have h6:=fN hm
 have hV:=a38 m (l:=y.reads) (nn:=y.nn) (a09 hr) hs h6 (ac6 hm)
 have hw0:=aCE hm
 have hbs:∀x∈m.moves,∀w∈x.wants,0≤w.vote∧(m.votes.map (sZ m y.reads))[w.vote.toNat]?=some (Ve (Yw m y.reads m.votes 0 0) w.vote):=fun x hx w hw=>by
  obtain⟨a,b⟩:=hw0 x hx w hw
  refine⟨a,?_⟩
  rw[ahR,aKP _ (by simpa using h6) _ (by simpa using b)]
  congr 2;omega
 have hA:=fun(nn:Bool) x (hx:x∈m.moves)=>aTJ x st ag (Yw m y.reads m.votes 0 0) y.cmd (bs:=m.votes.map (sZ m y.reads)) (nn:=nn) (hs.ws x hx) (hbs x hx)
 unfold aL0
 generalize Yw m y.reads m.votes 0 0=bits at hA
 clear hbs hw0
 have hmt:(if IntKind.i64.wrap (ag+1)<10 then IntKind.i64.wrap (ag+1)else 10)=aAR ag:=rfl
 have htk:((m.votes.map (sZ m y.reads)).map bv).take m.votes.length=(m.votes.map (sZ m y.reads)).map bv:=List.take_of_length_le (by simp)
 by_cases hn:m.votes=[]
 ·have hV':=hV _ _ (fun _=>rfl) (fun h=>(h hn).elim)
  have hA:=hA false
  rw[hn]at hA;simp only[List.map_nil,a4R]at hA
  (refine ce Try.func17 ?_;simp only[Try.f17];(have hb:=trivial;with_reducible repeat' (first|simp only[hb,Vc.down,seval,aHT.down,hV',acL]|refine Bm ?_ ?_<;>intro hb|refine fd ?_|fail)))
  refine Eo (Wy 44 m.moves (fun i (zz:Unit) t h=>t 1=.int .i64 st∧t 2=.int .i64 ag∧t 4=.ptr 0 0 0∧t 7=.ptr 1 0 0∧t 10=.nils∧t 11=.int .i64 i∧(h=[.live 7 false false [[Ak 3 true m.nS (m.sens.map Db.cells),Ak 4 false m.nV (m.votes.map Au.cells),Ak 5 false m.nM (m.moves.map Bi.cells),.int .i64 m.states,.int .i64 m.cmds,.int .i64 m.bgn,Ak 1 true m.nO (m.opn.map iv)]],.live 2 false false [[Ak 1 true y.nn (y.reads.map iv),.int .i64 y.cmd]]])) (fun rest zz=>Pm st ag bits y.cmd rest) (fun r e t h=>(e=.exit 0∧t 1=.int .i64 st∧t 2=.int .i64 ag∧r=(st,aAR ag))∨(e=.ret∧t 8=.int .i64 r.1∧t 9=.int .i64 r.2)) ?_ ?_ () _ _ ?_) (fun e t h hk=>?_)
  ·rintro _ t h Q' kQ ⟨h1,h2,h4,h7,h10,h11,rfl⟩
   (have hb:=trivial;with_reducible repeat' (first|simp only[hb,Vc.down,seval,aHT.down,h1,h2,h4,h7,h10,h11,acR,decide_false,acL]|refine Bm ?_ ?_<;>intro hb|refine fd ?_|fail))
   exact kQ _ _ _ (.inl ⟨rfl,by simp[up,h1],by simp[up,h2],rfl⟩)
  ·rintro x rest i _ t h J Q' kJ kQ hx hi ⟨h1,h2,h4,h7,h10,h11,rfl⟩
   have hd:decide ((i:Int)<(m.moves.length:Int))=true:=decide_eq_true (by omega)
   have hw:=Bo hi hs.moves
   have hap:=hA x (acZ hx)
   generalize hq:azX (nd x st ag bits y.cmd)=q at hap
   (have hb:=trivial;with_reducible repeat' (first|simp only[hb,Vc.down,seval,aHT.down,h1,h2,h4,h7,h10,h11,hd,hx,hw,hap,htk,Bi.cells,acL]|refine Bm ?_ ?_<;>intro hb|refine fd ?_|fail))
   ·exact kQ _ _ _ (.inr ⟨rfl,by simp[up,Pm,hq,hb],by simp[up,Pm,hq,hb]⟩)
   ·(refine Bn (kJ _ _ () ⟨?_,?_,?_,?_,?_,?_,rfl⟩ ?_);(simp[up,h1]);(simp[up,h2]);(simp[up,h4]);(simp[up,h7]);(simp[up,h10]);(simp[up]);(simp[Pm,hq,hb]))
  ·exact⟨by simp[up,Fe],by simp[up,Fe],by simp[up,Fe],by simp[up,Fe],by simp[up,Fe],by simp[up],rfl⟩
  rcases hk with⟨rfl,h1,h2,hr⟩|⟨rfl,h8,h9⟩
  ·rw[hr]
   (have hb:=trivial;with_reducible repeat' (first|simp only[hb,Vc.down,seval,aHT.down,h1,h2,hmt]|refine Bm ?_ ?_<;>intro hb|refine fd ?_|fail))
  ·(have hb:=trivial;with_reducible repeat' (first|simp only[hb,Vc.down,seval,aHT.down,h8,h9]|refine Bm ?_ ?_<;>intro hb|refine fd ?_|fail))
 ·have hV':=hV _ _ (fun h=>(hn h).elim) (fun _=>rfl)
  have hA:=hA true
  simp only[nT]at hA
  (refine ce Try.func17 ?_;simp only[Try.f17];(have hb:=trivial;with_reducible repeat' (first|simp only[hb,Vc.down,seval,aHT.down,hV',acL]|refine Bm ?_ ?_<;>intro hb|refine fd ?_|fail)))
  refine Eo (Wy 44 m.moves (fun i (zz:Unit) t h=>t 1=.int .i64 st∧t 2=.int .i64 ag∧t 4=.ptr 0 0 0∧t 7=.ptr 1 0 0∧t 10=.slr 1 2 0 m.votes.length∧t 11=.int .i64 i∧(h=[.live 7 false false [[Ak 3 true m.nS (m.sens.map Db.cells),Ak 4 false m.nV (m.votes.map Au.cells),Ak 5 false m.nM (m.moves.map Bi.cells),.int .i64 m.states,.int .i64 m.cmds,.int .i64 m.bgn,Ak 1 true m.nO (m.opn.map iv)]],.live 2 false false [[Ak 1 true y.nn (y.reads.map iv),.int .i64 y.cmd]],.live 1 true false ((m.votes.map (sZ m y.reads)).map bv)])) (fun rest zz=>Pm st ag bits y.cmd rest) (fun r e t h=>(e=.exit 0∧t 1=.int .i64 st∧t 2=.int .i64 ag∧r=(st,aAR ag))∨(e=.ret∧t 8=.int .i64 r.1∧t 9=.int .i64 r.2)) ?_ ?_ () _ _ ?_) (fun e t h hk=>?_)
  ·rintro _ t h Q' kQ ⟨h1,h2,h4,h7,h10,h11,rfl⟩
   (have hb:=trivial;with_reducible repeat' (first|simp only[hb,Vc.down,seval,aHT.down,h1,h2,h4,h7,h10,h11,acR,decide_false,acL]|refine Bm ?_ ?_<;>intro hb|refine fd ?_|fail))
   exact kQ _ _ _ (.inl ⟨rfl,by simp[up,h1],by simp[up,h2],rfl⟩)
  ·rintro x rest i _ t h J Q' kJ kQ hx hi ⟨h1,h2,h4,h7,h10,h11,rfl⟩
   have hd:decide ((i:Int)<(m.moves.length:Int))=true:=decide_eq_true (by omega)
   have hw:=Bo hi hs.moves
   have hap:=hA x (acZ hx)
   generalize hq:azX (nd x st ag bits y.cmd)=q at hap
   (have hb:=trivial;with_reducible repeat' (first|simp only[hb,Vc.down,seval,aHT.down,h1,h2,h4,h7,h10,h11,hd,hx,hw,hap,htk,Bi.cells,acL]|refine Bm ?_ ?_<;>intro hb|refine fd ?_|fail))
   ·exact kQ _ _ _ (.inr ⟨rfl,by simp[up,Pm,hq,hb],by simp[up,Pm,hq,hb]⟩)
   ·(refine Bn (kJ _ _ () ⟨?_,?_,?_,?_,?_,?_,rfl⟩ ?_);(simp[up,h1]);(simp[up,h2]);(simp[up,h4]);(simp[up,h7]);(simp[up,h10]);(simp[up]);(simp[Pm,hq,hb]))
  ·exact⟨by simp[up,Fe],by simp[up,Fe],by simp[up,Fe],by simp[up,Fe],by simp[up,Fe],by simp[up],rfl⟩
  rcases hk with⟨rfl,h1,h2,hr⟩|⟨rfl,h8,h9⟩
  ·rw[hr]
   (have hb:=trivial;with_reducible repeat' (first|simp only[hb,Vc.down,seval,aHT.down,h1,h2,hmt]|refine Bm ?_ ?_<;>intro hb|refine fd ?_|fail))
  ·(have hb:=trivial;with_reducible repeat' (first|simp only[hb,Vc.down,seval,aHT.down,h8,h9]|refine Bm ?_ ?_<;>intro hb|refine fd ?_|fail))
def aCB(m:Ah):Bool:=m.votes.all (fun v=>decide (v.sens.length≤10))&&m.moves.all (fun x=>decide (x.wants.length≤10))&&decide (m.sens.length≤10)&&decide (m.votes.length≤10)&&decide (m.moves.length≤30)&&decide (m.opn.length≤20)
theorem a17(m:Ah)(hs:m.small):Ec.call (.fn 12) [.agg [Ak 3 true m.nS (m.sens.map Db.cells),Ak 4 false m.nV (m.votes.map Au.cells),Ak 5 false m.nM (m.moves.map Bi.cells),.int .i64 m.states,.int .i64 m.cmds,.int .i64 m.bgn,Ak 1 true m.nO (m.opn.map iv)]] []=some (.ret (.bool (aCB m)),[]):=by
 have l1:decide ((m.sens.length:Int)≤10)=decide (m.sens.length≤10):=by rw[decide_eq_decide];omega
 have l2:decide ((m.votes.length:Int)≤10)=decide (m.votes.length≤10):=by rw[decide_eq_decide];omega
 have l3:decide ((m.moves.length:Int)≤30)=decide (m.moves.length≤30):=by rw[decide_eq_decide];omega
 have l4:decide ((m.opn.length:Int)≤20)=decide (m.opn.length≤20):=by rw[decide_eq_decide];omega
 (refine ce Try.func12 ?_;simp only[Try.f12];(have hb:=trivial;with_reducible repeat' (first|simp only[hb,Vc.down,seval,aE2.down,acL]|refine Bm ?_ ?_<;>intro hb|refine fd ?_|fail)))
 refine Eo (Wy 57 m.votes (fun i (zz:Unit) t h=>t 1=.ptr 0 0 0∧t 3=.int .i64 i∧(h=[.live 7 false false [[Ak 3 true m.nS (m.sens.map Db.cells),Ak 4 false m.nV (m.votes.map Au.cells),Ak 5 false m.nM (m.moves.map Bi.cells),.int .i64 m.states,.int .i64 m.cmds,.int .i64 m.bgn,Ak 1 true m.nO (m.opn.map iv)]]])) (fun rest zz=>rest.all (fun v=>decide (v.sens.length≤10))) (fun r e t h=>(if r=true then e=.exit 0∧t 1=.ptr 0 0 0∧h=[.live 7 false false [[Ak 3 true m.nS (m.sens.map Db.cells),Ak 4 false m.nV (m.votes.map Au.cells),Ak 5 false m.nM (m.moves.map Bi.cells),.int .i64 m.states,.int .i64 m.cmds,.int .i64 m.bgn,Ak 1 true m.nO (m.opn.map iv)]]]else e=.ret∧t 2=.bool false)) ?_ ?_ () _ _ ?_) (fun e t h hk=>?_)
 ·rintro _ t h Q' kQ ⟨h1,h3,rfl⟩
  (have hb:=trivial;with_reducible repeat' (first|simp only[hb,Vc.down,seval,aE2.down,h1,h3,acR,decide_false,acL]|refine Bm ?_ ?_<;>intro hb|refine fd ?_|fail))
  exact kQ _ _ _ (by rw[if_pos (by rfl)];exact⟨rfl,by simp[up,h1],rfl⟩)
 ·rintro x rest i _ t h J Q' kJ kQ hx hi ⟨h1,h3,rfl⟩
  have hd:decide ((i:Int)<(m.votes.length:Int))=true:=decide_eq_true (by omega)
  have hw:=Bo hi hs.votes
  have lx:decide ((10:Int)<(x.sens.length:Int))= !decide (x.sens.length≤10):=by rw[←decide_not,decide_eq_decide];omega
  cases c1:decide (x.sens.length≤10)with
  |false=>
   (have hb:=trivial;with_reducible repeat' (first|simp only[hb,Vc.down,seval,aE2.down,h1,h3,hd,hx,hw,lx,c1,Au.cells,acL]|refine Bm ?_ ?_<;>intro hb|refine fd ?_|fail))
   exact kQ _ _ _ (by rw[if_neg (by simp only[aAN,c1,aC6];simp)];exact⟨rfl,by simp[up]⟩)
  |true=>
   (have hb:=trivial;with_reducible repeat' (first|simp only[hb,Vc.down,seval,aE2.down,h1,h3,hd,hx,hw,lx,c1,Au.cells,acL]|refine Bm ?_ ?_<;>intro hb|refine fd ?_|fail))
   (refine Bn (kJ _ _ () ⟨?_,?_,rfl⟩ ?_);(simp[up,h1]);(simp[up]);(simp only[aAN,c1,aCF]))
 ·exact⟨by simp[up,Fe],by simp[up],rfl⟩
 split at hk
 rotate_left
 ·obtain⟨rfl,h2⟩:=hk
  rename_i hr1
  (have hb:=trivial;with_reducible repeat' (first|simp only[hb,Vc.down,seval,aE2.down,h2]|refine Bm ?_ ?_<;>intro hb|refine fd ?_|fail))
  all_goals simp[aCB,aAM.2 hr1]
 obtain⟨rfl,h1,rfl⟩:=hk
 rename_i hr1
 (have hb:=trivial;with_reducible repeat' (first|simp only[hb,Vc.down,seval,aE2.down,h1,acL]|refine Bm ?_ ?_<;>intro hb|refine fd ?_|fail))
 refine Eo (Wy 57 m.moves (fun i (zz:Unit) t h=>t 1=.ptr 0 0 0∧t 4=.int .i64 i∧(h=[.live 7 false false [[Ak 3 true m.nS (m.sens.map Db.cells),Ak 4 false m.nV (m.votes.map Au.cells),Ak 5 false m.nM (m.moves.map Bi.cells),.int .i64 m.states,.int .i64 m.cmds,.int .i64 m.bgn,Ak 1 true m.nO (m.opn.map iv)]]])) (fun rest zz=>rest.all (fun x=>decide (x.wants.length≤10))) (fun r e t h=>(if r=true then e=.exit 2∧t 1=.ptr 0 0 0∧h=[.live 7 false false [[Ak 3 true m.nS (m.sens.map Db.cells),Ak 4 false m.nV (m.votes.map Au.cells),Ak 5 false m.nM (m.moves.map Bi.cells),.int .i64 m.states,.int .i64 m.cmds,.int .i64 m.bgn,Ak 1 true m.nO (m.opn.map iv)]]]else e=.ret∧t 2=.bool false)) ?_ ?_ () _ _ ?_) (fun e t h hk=>?_)
 ·rintro _ t h Q' kQ ⟨h1,h4,rfl⟩
  (have hb:=trivial;with_reducible repeat' (first|simp only[hb,Vc.down,seval,aE2.down,h1,h4,acR,decide_false,acL]|refine Bm ?_ ?_<;>intro hb|refine fd ?_|fail))
  exact kQ _ _ _ (by rw[if_pos (by rfl)];exact⟨rfl,by simp[up,h1],rfl⟩)
 ·rintro x rest i _ t h J Q' kJ kQ hx hi ⟨h1,h4,rfl⟩
  have hd:decide ((i:Int)<(m.moves.length:Int))=true:=decide_eq_true (by omega)
  have hw:=Bo hi hs.moves
  have lx:decide ((10:Int)<(x.wants.length:Int))= !decide (x.wants.length≤10):=by rw[←decide_not,decide_eq_decide];omega
  cases c1:decide (x.wants.length≤10)with
  |false=>
   (have hb:=trivial;with_reducible repeat' (first|simp only[hb,Vc.down,seval,aE2.down,h1,h4,hd,hx,hw,lx,c1,Bi.cells,acL]|refine Bm ?_ ?_<;>intro hb|refine fd ?_|fail))
   exact kQ _ _ _ (by rw[if_neg (by simp only[aAN,c1,aC6];simp)];exact⟨rfl,by simp[up]⟩)
  |true=>
   (have hb:=trivial;with_reducible repeat' (first|simp only[hb,Vc.down,seval,aE2.down,h1,h4,hd,hx,hw,lx,c1,Bi.cells,acL]|refine Bm ?_ ?_<;>intro hb|refine fd ?_|fail))
   (refine Bn (kJ _ _ () ⟨?_,?_,rfl⟩ ?_);(simp[up,h1]);(simp[up]);(simp only[aAN,c1,aCF]))
 ·exact⟨by simp[up,Fe,h1],by simp[up],rfl⟩
 split at hk
 rotate_left
 ·obtain⟨rfl,h2⟩:=hk
  rename_i hr2
  (have hb:=trivial;with_reducible repeat' (first|simp only[hb,Vc.down,seval,aE2.down,h2]|refine Bm ?_ ?_<;>intro hb|refine fd ?_|fail))
  all_goals simp[aCB,aAM.2 hr2]
 obtain⟨rfl,h1,rfl⟩:=hk
 rename_i hr2
 (have hb:=trivial;with_reducible repeat' (first|simp only[hb,Vc.down,seval,aE2.down,h1,acL,l1,l2,l3,l4]|refine Bm ?_ ?_<;>intro hb|refine fd ?_|fail))
 all_goals (refine congrArg (fun b=>(Gw.ret (AV.bool b),([]:Aa))) ?_;symm;((try simp only[aLD,aAO,aAP]at *);simp only[aCB, *,aLE,aC6,aG6,aCF,Bool.and_self,Bool.not_not,aAO,aAP,aAN,List.all_nil]))
theorem a2X{l:List Int}{nn:Bool}(k:Int)(hl:l.length≤maxLen):Ec.call (.fn 80) [Ak 1 true nn (l.map iv),.int .i64 k] []=some (.ret (.int .i64 (uR (fun x=>k==x) l 0)),[]):=by
 (refine ce Try.func80 ?_;simp only[Try.f80];(have hb:=trivial;with_reducible repeat' (first|simp only[hb,Vc.down,seval,aZ5.down,acL]|refine Bm ?_ ?_<;>intro hb|refine fd ?_|fail)))
 refine Eo (Wy 19 l (fun i (s:Int) t h=>s=i∧h=[]∧t 0=Ak 1 true nn (l.map iv)∧t 1=.int .i64 k∧t 7=.int .i64 l.length∧t 8=.int .i64 i)
  (fun rest s=>uR (fun x=>k==x) rest s) (fun r e t h=>h=[]∧((e=.exit 0∧r= -1)∨(e=.ret∧t 4=.int .i64 r))) ?_ ?_ 0 _ _ ?_) (fun e t h hk=>?_)
 ·rintro s t h Q' kQ ⟨rfl,rfl,h0,h1,h7,h8⟩
  (have hb:=trivial;with_reducible repeat' (first|simp only[hb,Vc.down,seval,aZ5.down,h0,h1,h7,h8,acR,decide_false]|refine Bm ?_ ?_<;>intro hb|refine fd ?_|fail))
  exact kQ _ _ _ ⟨rfl,.inl ⟨rfl,rfl⟩⟩
 ·rintro x rest i s t h J Q' kJ kQ hx hi ⟨rfl,rfl,h0,h1,h7,h8⟩
  have hd:decide ((i:Int)<(l.length:Int))=true:=by simpa using hi
  (have hb:=trivial;with_reducible repeat' (first|simp only[hb,Vc.down,seval,aZ5.down,h0,h1,h7,h8,hd,hx,iv,Bo hi hl]|refine Bm ?_ ?_<;>intro hb|refine fd ?_|fail))
  ·exact kQ _ _ _ ⟨rfl,.inr ⟨rfl,by simp only[uR,up];rw[if_pos hb];rfl⟩⟩
  ·exact Bn (kJ _ _ (i+1) ⟨by simp,rfl,by simp[up,h0],by simp[up,h1],by simp[up,h7],by simp[up]⟩ (by simp only[uR];rw[if_neg (by rw[hb];simp)]))
 ·exact⟨rfl,rfl,by simp[up,Fe],by simp[up,Fe],by simp[up],by simp[up]⟩
 ·obtain⟨rfl,⟨rfl,hi⟩|⟨rfl,hi⟩⟩:=hk
  ·(have hb:=trivial;with_reducible repeat' (first|simp only[hb,Vc.down,seval,aZ5.down]|refine Bm ?_ ?_<;>intro hb|refine fd ?_|fail))
   rw[hi]
  ·(have hb:=trivial;with_reducible repeat' (first|simp only[hb,Vc.down,seval,aZ5.down,hi]|refine Bm ?_ ?_<;>intro hb|refine fd ?_|fail))
theorem aES{l:List Int}{nn:Bool}(k:Int)(hl:l.length≤maxLen):Ec.call (.fn 57) [Ak 1 true nn (l.map iv),.int .i64 k] []=some (.ret (.bool (l.any fun x=>k==x)),[]):=by
 have h1:=a2X (l:=l) (nn:=nn) k hl
 have h2:=Yf (fun x=>k==x) l 0 (aER 0)
 (refine ce Try.func57 ?_;simp only[Try.f57];(have hb:=trivial;with_reducible repeat' (first|simp only[hb,Vc.down,seval,h1,h2]|refine Bm ?_ ?_<;>intro hb|refine fd ?_|fail)))
def al3(k:Int)(s:Db)(r:Int)(vs:List Au):List Bool:=vs.map fun v=>(v.sens.any fun x=>k==x)&&Re s v r
def aW(k:Int)(s:Db)(r:Int)(vs:List Au):Int:=fO (al3 k s r vs) 0 0
end Go.Proofs.Ytfkokgjfpojeoaa
