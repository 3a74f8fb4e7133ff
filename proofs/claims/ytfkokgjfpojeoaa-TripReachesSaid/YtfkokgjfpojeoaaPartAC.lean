/- The functions of the layer, walked. -/
import Derived.Test.YtfkokgjfpojeoaaPartAB
import Derived.Test.YtfkokgjfpojeoaaLibD
open List renaming length_map→acE,mem_of_getElem?→acK,all_cons→ahZ,getElem?_eq_some_iff→aiK,length_set→al2,all_eq_not_any_not→al4,contains_cons→al6,contains_nil→al7,getElem?_eq_getElem→amP,all_eq_true→anC,length_eq_zero_iff→anF,getElem?_set_self→ao3
open Int renaming lt_irrefl→acG,le_refl→al3
open Bool renaming and_eq_true→acZ,eq_false_iff→adD,not_true→ah3,not_false→aiC,true_and→aiH,false_and→aiI,and_true→al5,eq_iff_iff→al9,not_eq_eq_eq_not→an5,and_false→aoC
set_option linter.unusedSimpArgs false
set_option linter.unusedVariables false
namespace Go.Proofs.Ytfkokgjfpojeoaa
open Go.Ev Go
set_option maxRecDepth 100000
set_option maxHeartbeats 16000000
def sT(s:Bz):Bool:=aF s.lo&&aF s.hi&& !decide (s.hi<s.lo)
def Xd(m:Ad):Bool:=decide (m.sens.length≤6)&&decide (m.votes.length≤6)&&decide (m.moves.length≤20)&&To m.states 1 8&&To m.cmds 0 4&&To m.bgn 0 (IntKind.i64.wrap (m.states-1))&&((m.opn.length:Int)==m.states)
def Bh(m:Ad):Bool:=Xd m&&m.sens.all sT&&m.votes.all (bQ m.sens.length)&&m.moves.all (Sj m)&&m.opn.all (fun n=>To n 0 255)
theorem aaP(m:Ad)(x:Ap)(hl:x.wants.length≤maxLen):Dc.call (.fn 71) [.agg [.int .i64 x.frm,.int .i64 x.to,Af 2 true x.nn (x.wants.map Ao.cells),.int .i64 x.cmd,.int .i64 x.after],.ptr 0 0 0] [.live 7 false false [[Af 3 true m.nS (m.sens.map Bz.cells),Af 4 false m.nV (m.votes.map Aj.cells),Af 5 false m.nM (m.moves.map Ap.cells),.int .i64 m.states,.int .i64 m.cmds,.int .i64 m.bgn,Af 1 true m.nO (m.opn.map iv)]]]=some (.ret (.bool (!Sj m x)),[.live 7 false false [[Af 3 true m.nS (m.sens.map Bz.cells),Af 4 false m.nV (m.votes.map Aj.cells),Af 5 false m.nM (m.moves.map Ap.cells),.int .i64 m.states,.int .i64 m.cmds,.int .i64 m.bgn,Af 1 true m.nO (m.opn.map iv)]]]):=by
 have hm:=am8 m x hl
 (refine ce Try.func71 ?_;simp only[Try.f71];(have hb:=trivial;with_reducible repeat' (first|simp only[hb,Vc.down,seval,bkU.down,hm]|refine Aq ?_ ?_<;>intro hb|refine fd ?_|fail)))
theorem uD{l:List Ap}{nn:Bool}{g:Nat}{mm:Ad}{p:Ap→Bool}(hp:∀x∈l,Dc.call (.fn g) (.agg [.int .i64 x.frm,.int .i64 x.to,Af 2 true x.nn (x.wants.map Ao.cells),.int .i64 x.cmd,.int .i64 x.after]::[.ptr 0 0 0]) [.live 7 false false [[Af 3 true mm.nS (mm.sens.map Bz.cells),Af 4 false mm.nV (mm.votes.map Aj.cells),Af 5 false mm.nM (mm.moves.map Ap.cells),.int .i64 mm.states,.int .i64 mm.cmds,.int .i64 mm.bgn,Af 1 true mm.nO (mm.opn.map iv)]]]=some (.ret (.bool (p x)),[.live 7 false false [[Af 3 true mm.nS (mm.sens.map Bz.cells),Af 4 false mm.nV (mm.votes.map Aj.cells),Af 5 false mm.nM (mm.moves.map Ap.cells),.int .i64 mm.states,.int .i64 mm.cmds,.int .i64 mm.bgn,Af 1 true mm.nO (mm.opn.map iv)]]]))(hl:l.length≤maxLen)(hgm:Dc.md g=false:=by exact rfl):
 Dc.call (.fn 88) [Af 5 false nn (l.map Ap.cells),.func (.func g) [] [.ptr 0 0 0]] [.live 7 false false [[Af 3 true mm.nS (mm.sens.map Bz.cells),Af 4 false mm.nV (mm.votes.map Aj.cells),Af 5 false mm.nM (mm.moves.map Ap.cells),.int .i64 mm.states,.int .i64 mm.cmds,.int .i64 mm.bgn,Af 1 true mm.nO (mm.opn.map iv)]]]=some (.ret (.int .i64 (dT p l 0)),[.live 7 false false [[Af 3 true mm.nS (mm.sens.map Bz.cells),Af 4 false mm.nV (mm.votes.map Aj.cells),Af 5 false mm.nM (mm.moves.map Ap.cells),.int .i64 mm.states,.int .i64 mm.cmds,.int .i64 mm.bgn,Af 1 true mm.nO (mm.opn.map iv)]]]):=by
 (refine ce Try.func88 ?_;simp only[Try.f88];(have hb:=trivial;with_reducible repeat' (first|simp only[hb,Vc.down,seval,adR.down,acE]|refine Aq ?_ ?_<;>intro hb|refine fd ?_|fail)))
 refine Dl (Ss 19 l (fun i (s:Int) t h=>s=i∧h=[.live 7 false false [[Af 3 true mm.nS (mm.sens.map Bz.cells),Af 4 false mm.nV (mm.votes.map Aj.cells),Af 5 false mm.nM (mm.moves.map Ap.cells),.int .i64 mm.states,.int .i64 mm.cmds,.int .i64 mm.bgn,Af 1 true mm.nO (mm.opn.map iv)]]]∧t 0=Af 5 false nn (l.map Ap.cells)∧t 1=.func (.func g) [] [.ptr 0 0 0]∧t 7=.int .i64 l.length∧t 8=.int .i64 i)
  (fun rest s=>dT p rest s) (fun r e t h=>h=[.live 7 false false [[Af 3 true mm.nS (mm.sens.map Bz.cells),Af 4 false mm.nV (mm.votes.map Aj.cells),Af 5 false mm.nM (mm.moves.map Ap.cells),.int .i64 mm.states,.int .i64 mm.cmds,.int .i64 mm.bgn,Af 1 true mm.nO (mm.opn.map iv)]]]∧((e=.exit 0∧r= -1)∨(e=.ret∧t 4=.int .i64 r))) ?_ ?_ 0 _ _ ?_) (fun e t h hk=>?_)
 ·rintro s t h Q' kQ ⟨rfl,rfl,h0,h1,h7,h8⟩
  (have hb:=trivial;with_reducible repeat' (first|simp only[hb,Vc.down,seval,adR.down,h0,h1,h7,h8,acG,decide_false]|refine Aq ?_ ?_<;>intro hb|refine fd ?_|fail))
  exact kQ _ _ _ ⟨rfl,.inl ⟨rfl,rfl⟩⟩
 ·rintro x rest i s t h J Q' kJ kQ hx hi ⟨rfl,rfl,h0,h1,h7,h8⟩
  have hgm2:=hgm
  simp only[lI,al6,al7,Bool.or_false]at hgm2
  have hpx:=hp x (acK hx)
  have hd:decide ((i:Int)<(l.length:Int))=true:=by simpa using hi
  (have hb:=trivial;with_reducible repeat' (first|simp only[hb,Vc.down,seval,adR.down,h0,h1,h7,h8,hd,hx,Ap.cells,hpx,hgm2,Av hi hl]|refine Aq ?_ ?_<;>intro hb|refine fd ?_|fail))
  ·exact kQ _ _ _ ⟨rfl,.inr ⟨rfl,by simp[up,dT,hb]⟩⟩
  ·exact Ax (kJ _ _ (i+1) ⟨by simp,rfl,by simp[up,h0],by simp[up,h1],by simp[up,h7],by simp[up]⟩ (by simp[dT,hb]))
 ·exact⟨rfl,rfl,by simp[up,Eg],by simp[up,Eg],by simp[up],by simp[up]⟩
 ·obtain⟨rfl,⟨rfl,hi⟩|⟨rfl,hi⟩⟩:=hk
  ·(have hb:=trivial;with_reducible repeat' (first|simp only[hb,Vc.down,seval,adR.down]|refine Aq ?_ ?_<;>intro hb|refine fd ?_|fail))
   rw[hi]
  ·(have hb:=trivial;with_reducible repeat' (first|simp only[hb,Vc.down,seval,adR.down,hi]|refine Aq ?_ ?_<;>intro hb|refine fd ?_|fail))
theorem pS{l:List Ap}{nn:Bool}{g:Nat}{mm:Ad}{p:Ap→Bool}(hp:∀x∈l,Dc.call (.fn g) (.agg [.int .i64 x.frm,.int .i64 x.to,Af 2 true x.nn (x.wants.map Ao.cells),.int .i64 x.cmd,.int .i64 x.after]::[.ptr 0 0 0]) [.live 7 false false [[Af 3 true mm.nS (mm.sens.map Bz.cells),Af 4 false mm.nV (mm.votes.map Aj.cells),Af 5 false mm.nM (mm.moves.map Ap.cells),.int .i64 mm.states,.int .i64 mm.cmds,.int .i64 mm.bgn,Af 1 true mm.nO (mm.opn.map iv)]]]=some (.ret (.bool (p x)),[.live 7 false false [[Af 3 true mm.nS (mm.sens.map Bz.cells),Af 4 false mm.nV (mm.votes.map Aj.cells),Af 5 false mm.nM (mm.moves.map Ap.cells),.int .i64 mm.states,.int .i64 mm.cmds,.int .i64 mm.bgn,Af 1 true mm.nO (mm.opn.map iv)]]]))(hl:l.length≤maxLen)(hgm:Dc.md g=false:=by exact rfl):
 Dc.call (.fn 70) [Af 5 false nn (l.map Ap.cells),.func (.func g) [] [.ptr 0 0 0]] [.live 7 false false [[Af 3 true mm.nS (mm.sens.map Bz.cells),Af 4 false mm.nV (mm.votes.map Aj.cells),Af 5 false mm.nM (mm.moves.map Ap.cells),.int .i64 mm.states,.int .i64 mm.cmds,.int .i64 mm.bgn,Af 1 true mm.nO (mm.opn.map iv)]]]=some (.ret (.bool (l.any p)),[.live 7 false false [[Af 3 true mm.nS (mm.sens.map Bz.cells),Af 4 false mm.nV (mm.votes.map Aj.cells),Af 5 false mm.nM (mm.moves.map Ap.cells),.int .i64 mm.states,.int .i64 mm.cmds,.int .i64 mm.bgn,Af 1 true mm.nO (mm.opn.map iv)]]]):=by
 (refine ce Try.func70 ?_;simp only[Try.f70];(have hb:=trivial;with_reducible repeat' (first|simp only[hb,Vc.down,seval,uD hp hl hgm,Ur p l 0 (al3 0)]|refine Aq ?_ ?_<;>intro hb|refine fd ?_|fail)))
theorem mO(m:Ad)(hs:m.small):Dc.call (.fn 42) [.agg [Af 3 true m.nS (m.sens.map Bz.cells),Af 4 false m.nV (m.votes.map Aj.cells),Af 5 false m.nM (m.moves.map Ap.cells),.int .i64 m.states,.int .i64 m.cmds,.int .i64 m.bgn,Af 1 true m.nO (m.opn.map iv)]] []=some (.ret (.bool (Bh m)),[]):=by
 have l1:decide ((6:Int)<(m.sens.length:Int))= !decide (m.sens.length≤6):=by rw[←decide_not,decide_eq_decide];omega
 have l2:decide ((6:Int)<(m.votes.length:Int))= !decide (m.votes.length≤6):=by rw[←decide_not,decide_eq_decide];omega
 have l3:decide ((20:Int)<(m.moves.length:Int))= !decide (m.moves.length≤20):=by rw[←decide_not,decide_eq_decide];omega
 cases hp:Xd m with
 |false=>
  have hp':Bh m=false:=by simp[Bh,hp]
  rw[hp']
  (refine ce Try.func42 ?_;simp only[Try.f42];(have hb:=trivial;with_reducible repeat' (first|simp only[hb,Vc.down,seval,fF.down,acE,Xb,l1,l2,l3]|refine Aq ?_ ?_<;>intro hb|refine fd ?_|fail)))
  all_goals first
   |rfl
   |(exfalso;simp_all[Xd];done)
 |true=>
  have hp':=hp
  simp only[Xd,acZ]at hp'
  obtain⟨⟨⟨⟨⟨⟨p1,p2⟩,p3⟩,p4⟩,p5⟩,p6⟩,p7⟩:=hp'
  (refine ce Try.func42 ?_;simp only[Try.f42];(have hb:=trivial;with_reducible repeat' (first|simp only[hb,Vc.down,seval,fF.down,acE,Xb,l1,l2,l3,p1,p2,p3,p4,p5,p6,p7]|refine Aq ?_ ?_<;>intro hb|refine fd ?_|fail)))
  refine Dl (Ss 118 m.sens (fun i (zz:Unit) t h=>t 1=.ptr 0 0 0∧t 53=Af 3 true m.nS (m.sens.map Bz.cells)∧t 54=.int .i64 m.sens.length∧t 55=.int .i64 i∧(h[0]?=some (.live 7 false false [[Af 3 true m.nS (m.sens.map Bz.cells),Af 4 false m.nV (m.votes.map Aj.cells),Af 5 false m.nM (m.moves.map Ap.cells),.int .i64 m.states,.int .i64 m.cmds,.int .i64 m.bgn,Af 1 true m.nO (m.opn.map iv)]]))) (fun rest zz=>rest.all sT) (fun r e t h=>(if r=true then e=.exit 0∧t 1=.ptr 0 0 0∧h[0]?=some (.live 7 false false [[Af 3 true m.nS (m.sens.map Bz.cells),Af 4 false m.nV (m.votes.map Aj.cells),Af 5 false m.nM (m.moves.map Ap.cells),.int .i64 m.states,.int .i64 m.cmds,.int .i64 m.bgn,Af 1 true m.nO (m.opn.map iv)]])else e=.ret∧t 2=.bool false)) ?_ ?_ () _ _ ?_) (fun e t h hk=>?_)
  ·rintro _ t h Q' kQ ⟨h1,h53,h54,h55,hA⟩
   (have hb:=trivial;with_reducible repeat' (first|simp only[hb,Vc.down,seval,fF.down,h1,h53,h54,h55,acG,decide_false]|refine Aq ?_ ?_<;>intro hb|refine fd ?_|fail))
   exact kQ _ _ _ (by rw[if_pos (by rfl)];exact⟨rfl,by simp[up,h1],hA⟩)
  ·rintro x rest i _ t h J Q' kJ kQ hx hi ⟨h1,h53,h54,h55,hA⟩
   have hd:decide ((i:Int)<(m.sens.length:Int))=true:=decide_eq_true (by omega)
   have hw:=Av hi hs.sens
   have hA1:=Ac hA
   (have hb:=trivial;with_reducible repeat' (first|simp only[hb,Vc.down,seval,fF.down,h1,h53,h54,h55,hd,hx,hw,lN,Bz.cells,acE]|refine Aq ?_ ?_<;>intro hb|refine fd ?_|fail))
   all_goals first
    |exact kQ _ _ _ (by rw[if_neg (by simp_all[sT])];exact⟨rfl,by simp[up]⟩)
    |(refine Ax (kJ _ _ () ⟨?_,?_,?_,?_,hA1 _⟩ ?_);(simp[up,h1]);(simp[up,h53]);(simp[up,h54]);(simp[up]);(simp_all[sT]))
  ·exact⟨by simp[up,Eg],by simp[up,Eg],by simp[up,Eg],by simp[up],rfl⟩
  ·split at hk
   ·obtain⟨rfl,h1,hA⟩:=hk
    rename_i hr1
    have hA1:=Ac hA
    (have hb:=trivial;with_reducible repeat' (first|simp only[hb,Vc.down,seval,fF.down,h1,hA,hA1,acE]|refine Aq ?_ ?_<;>intro hb|refine fd ?_|fail))
    refine Dl (Ss 118 m.votes (fun i (zz:Unit) t h=>t 1=.ptr 0 0 0∧t 78=Af 4 false m.nV (m.votes.map Aj.cells)∧t 79=.int .i64 m.votes.length∧t 80=.int .i64 i∧(h[0]?=some (.live 7 false false [[Af 3 true m.nS (m.sens.map Bz.cells),Af 4 false m.nV (m.votes.map Aj.cells),Af 5 false m.nM (m.moves.map Ap.cells),.int .i64 m.states,.int .i64 m.cmds,.int .i64 m.bgn,Af 1 true m.nO (m.opn.map iv)]]))) (fun rest zz=>rest.all (bQ m.sens.length)) (fun r e t h=>(if r=true then e=.exit 2∧t 1=.ptr 0 0 0∧h[0]?=some (.live 7 false false [[Af 3 true m.nS (m.sens.map Bz.cells),Af 4 false m.nV (m.votes.map Aj.cells),Af 5 false m.nM (m.moves.map Ap.cells),.int .i64 m.states,.int .i64 m.cmds,.int .i64 m.bgn,Af 1 true m.nO (m.opn.map iv)]])else e=.ret∧t 2=.bool false)) ?_ ?_ () _ _ ?_) (fun e t h hk=>?_)
    ·rintro _ t h Q' kQ ⟨h1,h78,h79,h80,hA⟩
     (have hb:=trivial;with_reducible repeat' (first|simp only[hb,Vc.down,seval,fF.down,h1,h78,h79,h80,acG,decide_false]|refine Aq ?_ ?_<;>intro hb|refine fd ?_|fail))
     exact kQ _ _ _ (by rw[if_pos (by rfl)];exact⟨rfl,by simp[up,h1],hA⟩)
    ·rintro x rest i _ t h J Q' kJ kQ hx hi ⟨h1,h78,h79,h80,hA⟩
     have hd:decide ((i:Int)<(m.votes.length:Int))=true:=decide_eq_true (by omega)
     have hw:=Av hi hs.votes
     have hA1:=Ac hA
     have hin:=iF (nn:=x.nn) m.sens.length (hs.vs x (acK hx))
     (have hb:=trivial;with_reducible repeat' (first|simp only[hb,Vc.down,seval,fF.down,h1,h78,h79,h80,hd,hx,hw,hA1,lN,Xb,hin,Aj.cells,acE]|refine Aq ?_ ?_<;>intro hb|refine fd ?_|fail))
     all_goals first
      |exact kQ _ _ _ (by rw[if_neg (by simp_all[bQ])];exact⟨rfl,by simp[up]⟩)
      |(refine Ax (kJ _ _ () ⟨?_,?_,?_,?_,hA1 _⟩ ?_);(simp[up,h1]);(simp[up,h78]);(simp[up,h79]);(simp[up]);(simp_all[bQ]))
    ·exact⟨by simp[up,Eg,h1],by simp[up,Eg,h1],by simp[up,Eg,h1],by simp[up],hA⟩
    ·split at hk
     ·obtain⟨rfl,h1,hA⟩:=hk
      rename_i hr2
      have hA1:=Ac hA
      have hcM:=pS (mm:=m) (l:=m.moves) (nn:=m.nM) (g:=71) (p:=fun x=> !Sj m x) (fun x hx=>aaP m x (hs.ws x hx)) hs.moves
      have hcI:=tZ (l:=m.opn) (nn:=m.nO) (g:=74) (cap:=[]) (p:=fun x=> !To x 0 255) rfl rfl (fun x _=>aaZ x) hs.opn
      (have hb:=trivial;with_reducible repeat' (first|simp only[hb,Vc.down,seval,fF.down,h1,hA,hA1,acE,hcM,hcI]|refine Aq ?_ ?_<;>intro hb|refine fd ?_|fail))
      all_goals
       have q1:m.moves.all (Sj m)= !(m.moves.any fun x=> !Sj m x):=al4
       have q2:m.opn.all (fun n=>To n 0 255)= !(m.opn.any fun x=> !To x 0 255):=al4
       simp only[Bh,hp,hr1,hr2,q1,q2,hb,ah3,aiC,aiH,aiI,al5]
       try rfl
     ·obtain⟨rfl,h2⟩:=hk
      rename_i hr2
      (have hb:=trivial;with_reducible repeat' (first|simp only[hb,Vc.down,seval,fF.down,h2]|refine Aq ?_ ?_<;>intro hb|refine fd ?_|fail))
      all_goals simp[Bh,hp,adD.2 hr2]
   ·obtain⟨rfl,h2⟩:=hk
    rename_i hr1
    (have hb:=trivial;with_reducible repeat' (first|simp only[hb,Vc.down,seval,fF.down,h2]|refine Aq ?_ ?_<;>intro hb|refine fd ?_|fail))
    all_goals simp[Bh,hp,adD.2 hr1]
theorem sU(m:Ad)(hs:m.small):Dc.call (.fn 15) [.agg [Af 3 true m.nS (m.sens.map Bz.cells),Af 4 false m.nV (m.votes.map Aj.cells),Af 5 false m.nM (m.moves.map Ap.cells),.int .i64 m.states,.int .i64 m.cmds,.int .i64 m.bgn,Af 1 true m.nO (m.opn.map iv)]] []=some (.ret (.bool (Bh m)),[]):=by
 have l1:decide ((6:Int)<(m.sens.length:Int))= !decide (m.sens.length≤6):=by rw[←decide_not,decide_eq_decide];omega
 have l2:decide ((6:Int)<(m.votes.length:Int))= !decide (m.votes.length≤6):=by rw[←decide_not,decide_eq_decide];omega
 have l3:decide ((20:Int)<(m.moves.length:Int))= !decide (m.moves.length≤20):=by rw[←decide_not,decide_eq_decide];omega
 have sen:∀x:Bz,sT x=(!decide (x.lo < -10000)&& !decide (x.hi<x.lo)&& !decide (10000<x.hi)):=fun x=>by
  rw[al9];simp[sT,aF,To];omega
 (refine ce Try.func15 ?_;simp only[Try.f15];(have hb:=trivial;with_reducible repeat' (first|simp only[hb,Vc.down,seval,iR.down,acE]|refine Aq ?_ ?_<;>intro hb|refine fd ?_|fail)))
 refine Dl (Ss 126 m.sens (fun i (zz:Unit) t h=>t 1=.ptr 0 0 0∧t 3=.int .i64 i∧(h[0]?=some (.live 7 false false [[Af 3 true m.nS (m.sens.map Bz.cells),Af 4 false m.nV (m.votes.map Aj.cells),Af 5 false m.nM (m.moves.map Ap.cells),.int .i64 m.states,.int .i64 m.cmds,.int .i64 m.bgn,Af 1 true m.nO (m.opn.map iv)]]))) (fun rest zz=>rest.all sT) (fun r e t h=>(if r=true then e=.exit 0∧t 1=.ptr 0 0 0∧h[0]?=some (.live 7 false false [[Af 3 true m.nS (m.sens.map Bz.cells),Af 4 false m.nV (m.votes.map Aj.cells),Af 5 false m.nM (m.moves.map Ap.cells),.int .i64 m.states,.int .i64 m.cmds,.int .i64 m.bgn,Af 1 true m.nO (m.opn.map iv)]])else e=.ret∧t 2=.bool false)) ?_ ?_ () _ _ ?_) (fun e t h hk=>?_)
 ·rintro _ t h Q' kQ ⟨h1,h3,hA⟩
  (have hb:=trivial;with_reducible repeat' (first|simp only[hb,Vc.down,seval,iR.down,h1,h3,acG,decide_false,hA,acE]|refine Aq ?_ ?_<;>intro hb|refine fd ?_|fail))
  exact kQ _ _ _ (by rw[if_pos (by rfl)];exact⟨rfl,by simp[up,h1],hA⟩)
 ·rintro x rest i _ t h J Q' kJ kQ hx hi ⟨h1,h3,hA⟩
  have hd:decide ((i:Int)<(m.sens.length:Int))=true:=decide_eq_true (by omega)
  have hw:=Av hi hs.sens
  have hA1:=Ac hA
  (have hb:=trivial;with_reducible repeat' (first|simp only[hb,Vc.down,seval,iR.down,h1,h3,hd,hx,hw,hA,hA1,Bz.cells,acE]|refine Aq ?_ ?_<;>intro hb|refine fd ?_|fail))
  all_goals first
   |exact kQ _ _ _ (by rw[if_neg (by simp_all)];exact⟨rfl,by simp[up]⟩)
   |(refine Ax (kJ _ _ () ⟨?_,?_,hA1 _⟩ ?_);(simp[up,h1]);(simp[up]);(simp_all))
 ·exact⟨by simp[up,Eg],by simp[up],rfl⟩
 split at hk
 rotate_left
 ·obtain⟨rfl,h2⟩:=hk
  rename_i hr1
  (have hb:=trivial;with_reducible repeat' (first|simp only[hb,Vc.down,seval,iR.down,h2]|refine Aq ?_ ?_<;>intro hb|refine fd ?_|fail))
  all_goals simp[Bh,adD.2 hr1]
 obtain⟨rfl,h1,hA⟩:=hk
 rename_i hr1
 have hA1:=Ac hA
 (have hb:=trivial;with_reducible repeat' (first|simp only[hb,Vc.down,seval,iR.down,h1,hA,hA1,acE]|refine Aq ?_ ?_<;>intro hb|refine fd ?_|fail))
 refine Dl (Ss 126 m.votes (fun i (zz:Unit) t h=>t 1=.ptr 0 0 0∧t 5=.int .i64 i∧(h[0]?=some (.live 7 false false [[Af 3 true m.nS (m.sens.map Bz.cells),Af 4 false m.nV (m.votes.map Aj.cells),Af 5 false m.nM (m.moves.map Ap.cells),.int .i64 m.states,.int .i64 m.cmds,.int .i64 m.bgn,Af 1 true m.nO (m.opn.map iv)]]))) (fun rest zz=>rest.all (bQ m.sens.length)) (fun r e t h=>(if r=true then e=.exit 2∧t 1=.ptr 0 0 0∧h[0]?=some (.live 7 false false [[Af 3 true m.nS (m.sens.map Bz.cells),Af 4 false m.nV (m.votes.map Aj.cells),Af 5 false m.nM (m.moves.map Ap.cells),.int .i64 m.states,.int .i64 m.cmds,.int .i64 m.bgn,Af 1 true m.nO (m.opn.map iv)]])else e=.ret∧t 2=.bool false)) ?_ ?_ () _ _ ?_) (fun e t h hk=>?_)
 ·rintro _ t h Q' kQ ⟨h1,h5,hA⟩
  (have hb:=trivial;with_reducible repeat' (first|simp only[hb,Vc.down,seval,iR.down,h1,h5,acG,decide_false,hA,acE]|refine Aq ?_ ?_<;>intro hb|refine fd ?_|fail))
  exact kQ _ _ _ (by rw[if_pos (by rfl)];exact⟨rfl,by simp[up,h1],hA⟩)
 ·rintro x rest i _ t h J Q' kJ kQ hx hi ⟨h1,h5,hA⟩
  have hd:decide ((i:Int)<(m.votes.length:Int))=true:=decide_eq_true (by omega)
  have hw:=Av hi hs.votes
  have hA1:=Ac hA
  have hV:=bfE x m.sens.length (hs.vs x (acK hx))
  (have hb:=trivial;with_reducible repeat' (first|simp only[hb,Vc.down,seval,iR.down,h1,h5,hd,hx,hw,hA,hA1,hV,Aj.cells,acE]|refine Aq ?_ ?_<;>intro hb|refine fd ?_|fail))
  all_goals first
   |exact kQ _ _ _ (by rw[if_neg (by simp_all)];exact⟨rfl,by simp[up]⟩)
   |(refine Ax (kJ _ _ () ⟨?_,?_,hA⟩ ?_);(simp[up,h1]);(simp[up]);(simp_all))
 ·exact⟨by simp[up,Eg,h1],by simp[up],hA⟩
 split at hk
 rotate_left
 ·obtain⟨rfl,h2⟩:=hk
  rename_i hr2
  (have hb:=trivial;with_reducible repeat' (first|simp only[hb,Vc.down,seval,iR.down,h2]|refine Aq ?_ ?_<;>intro hb|refine fd ?_|fail))
  all_goals simp[Bh,adD.2 hr2]
 obtain⟨rfl,h1,hA⟩:=hk
 rename_i hr2
 have hA1:=Ac hA
 cases hp:Xd m with
 |false=>
  have hp':Bh m=false:=by simp[Bh,hp]
  rw[hp']
  (have hb:=trivial;with_reducible repeat' (first|simp only[hb,Vc.down,seval,iR.down,h1,hA,hA1,acE,ah1,l1,l2,l3]|refine Aq ?_ ?_<;>intro hb|refine fd ?_|fail))
  all_goals first
   |rfl
   |(exfalso;simp_all[Xd];done)
 |true=>
  have hp':=hp
  simp only[Xd,acZ]at hp'
  obtain⟨⟨⟨⟨⟨⟨p1,p2⟩,p3⟩,p4⟩,p5⟩,p6⟩,p7⟩:=hp'
  (have hb:=trivial;with_reducible repeat' (first|simp only[hb,Vc.down,seval,iR.down,h1,hA,hA1,acE,ah1,l1,l2,l3,p1,p2,p3,p4,p5,p6,p7]|refine Aq ?_ ?_<;>intro hb|refine fd ?_|fail))
  refine Dl (Ss 126 m.opn (fun i (zz:Unit) t h=>t 1=.ptr 0 0 0∧t 6=.int .i64 i∧(h[0]?=some (.live 7 false false [[Af 3 true m.nS (m.sens.map Bz.cells),Af 4 false m.nV (m.votes.map Aj.cells),Af 5 false m.nM (m.moves.map Ap.cells),.int .i64 m.states,.int .i64 m.cmds,.int .i64 m.bgn,Af 1 true m.nO (m.opn.map iv)]]))) (fun rest zz=>rest.all (fun n=>To n 0 255)) (fun r e t h=>(if r=true then e=.exit 4∧t 1=.ptr 0 0 0∧h[0]?=some (.live 7 false false [[Af 3 true m.nS (m.sens.map Bz.cells),Af 4 false m.nV (m.votes.map Aj.cells),Af 5 false m.nM (m.moves.map Ap.cells),.int .i64 m.states,.int .i64 m.cmds,.int .i64 m.bgn,Af 1 true m.nO (m.opn.map iv)]])else e=.ret∧t 2=.bool false)) ?_ ?_ () _ _ ?_) (fun e t h hk=>?_)
  ·rintro _ t h Q' kQ ⟨h1,h6,hA⟩
   (have hb:=trivial;with_reducible repeat' (first|simp only[hb,Vc.down,seval,iR.down,h1,h6,acG,decide_false,hA,acE]|refine Aq ?_ ?_<;>intro hb|refine fd ?_|fail))
   exact kQ _ _ _ (by rw[if_pos (by rfl)];exact⟨rfl,by simp[up,h1],hA⟩)
  ·rintro x rest i _ t h J Q' kJ kQ hx hi ⟨h1,h6,hA⟩
   have hd:decide ((i:Int)<(m.opn.length:Int))=true:=decide_eq_true (by omega)
   have hw:=Av hi hs.opn
   have hA1:=Ac hA
   (have hb:=trivial;with_reducible repeat' (first|simp only[hb,Vc.down,seval,iR.down,h1,h6,hd,hx,hw,hA,hA1,ah1,iv,acE]|refine Aq ?_ ?_<;>intro hb|refine fd ?_|fail))
   all_goals first
    |exact kQ _ _ _ (by rw[if_neg (by simp_all)];exact⟨rfl,by simp[up]⟩)
    |(refine Ax (kJ _ _ () ⟨?_,?_,hA⟩ ?_);(simp[up,h1]);(simp[up]);(simp_all))
  ·exact⟨by simp[up,Eg,h1],by simp[up],hA⟩
  split at hk
  rotate_left
  ·obtain⟨rfl,h2⟩:=hk
   rename_i hr3
   (have hb:=trivial;with_reducible repeat' (first|simp only[hb,Vc.down,seval,iR.down,h2]|refine Aq ?_ ?_<;>intro hb|refine fd ?_|fail))
   all_goals simp[Bh,adD.2 hr3]
  obtain⟨rfl,h1,hA⟩:=hk
  rename_i hr3
  have hA1:=Ac hA
  (have hb:=trivial;with_reducible repeat' (first|simp only[hb,Vc.down,seval,iR.down,h1,hA,hA1,acE]|refine Aq ?_ ?_<;>intro hb|refine fd ?_|fail))
  refine Dl (Ss 126 m.moves (fun i (zz:Unit) t h=>t 1=.ptr 0 0 0∧t 7=.int .i64 i∧(h[0]?=some (.live 7 false false [[Af 3 true m.nS (m.sens.map Bz.cells),Af 4 false m.nV (m.votes.map Aj.cells),Af 5 false m.nM (m.moves.map Ap.cells),.int .i64 m.states,.int .i64 m.cmds,.int .i64 m.bgn,Af 1 true m.nO (m.opn.map iv)]]))) (fun rest zz=>rest.all (Sj m)) (fun r e t h=>(if r=true then e=.exit 6 else e=.ret∧t 2=.bool false)) ?_ ?_ () _ _ ?_) (fun e t h hk=>?_)
  ·rintro _ t h Q' kQ ⟨h1,h7,hA⟩
   (have hb:=trivial;with_reducible repeat' (first|simp only[hb,Vc.down,seval,iR.down,h1,h7,acG,decide_false,hA,acE]|refine Aq ?_ ?_<;>intro hb|refine fd ?_|fail))
   exact kQ _ _ _ (by rw[if_pos (by rfl)])
  ·rintro x rest i _ t h J Q' kJ kQ hx hi ⟨h1,h7,hA⟩
   have hd:decide ((i:Int)<(m.moves.length:Int))=true:=decide_eq_true (by omega)
   have hw:=Av hi hs.moves
   have hA1:=Ac hA
   have hM:=be8 m x (hs.ws x (acK hx))
   (have hb:=trivial;with_reducible repeat' (first|simp only[hb,Vc.down,seval,iR.down,h1,h7,hd,hx,hw,hA,hA1,hM,Ap.cells,acE]|refine Aq ?_ ?_<;>intro hb|refine fd ?_|fail))
   all_goals first
    |exact kQ _ _ _ (by rw[if_neg (by simp_all)];exact⟨rfl,by simp[up]⟩)
    |(refine Ax (kJ _ _ () ⟨?_,?_,hA⟩ ?_);(simp[up,h1]);(simp[up]);(simp_all))
  ·exact⟨by simp[up,Eg,h1],by simp[up],hA⟩
  split at hk
  ·subst hk
   rename_i hr4
   (have hb:=trivial;with_reducible repeat' (first|simp only[hb,Vc.down,seval,iR.down]|refine Aq ?_ ?_<;>intro hb|refine fd ?_|fail))
   all_goals simp[Bh,hp,hr1,hr2,hr3,hr4]
  ·obtain⟨rfl,h2⟩:=hk
   rename_i hr4
   (have hb:=trivial;with_reducible repeat' (first|simp only[hb,Vc.down,seval,iR.down,h2]|refine Aq ?_ ?_<;>intro hb|refine fd ?_|fail))
   all_goals simp[Bh,adD.2 hr4]
def afZ(m:Ad)(l:List Int):Bool:=((l.length:Int)==(m.sens.length:Int))&&l.all aF
def auW(m:Ad)(s:Ii):Bool:=afZ m s.reads&&To s.cmd (-1) (IntKind.i64.wrap (m.cmds-1))
def Qb(m:Ad)(k:Int):Bz:=m.sens.getD k.toNat ⟨0,0,false⟩
def rAt(l:List Int)(k:Int):Int:=l.getD k.toNat 0
theorem cR{m:Ad}{k:Int}(h:k.toNat<m.sens.length):m.sens[k.toNat]?=some (Qb m k):=by
 simp[Qb,List.getD,amP h]
theorem yG{l:List Int}{k:Int}(h:k.toNat<l.length):l[k.toNat]?=some (rAt l k):=by
 simp[rAt,List.getD,amP h]
def gV(m:Ad)(v:Aj)(l:List Int):List Int→Int→Int
 | [],c=>c
 |k::ks,c=>gV m v l ks (if Qk (Qb m k) v (rAt l k)=true then IntKind.i64.wrap (c+1)else c)
def fY(m:Ad)(l:List Int)(v:Aj):Bool:=decide (v.need≤gV m v l v.sens 0)
def Idx(m:Ad)(l:List Int):Prop:=∀k∈l,0≤k∧k.toNat<m.sens.length
theorem aoR{n:Nat}(hn:n≤6):∀{l:List Int} {p:Option Int},We n l p=true→∀k∈l,0≤k∧k.toNat<n
 | [],_,_,k,h=>by cases h
 |x::l,p,h,k,hk=>by
  simp only[We,acZ]at h
  rcases List.mem_cons.1 hk with rfl|hk
  ·have:=h.1.1
   rw[Ed (by omega) (by omega)]at this
   simp[To]at this
   omega
  ·exact aoR hn h.2 k hk
theorem rX{m:Ad}(h:Bh m=true):∀v∈m.votes,Idx m v.sens:=fun v hv=>by
 simp only[Bh,Xd,acZ,decide_eq_true_eq,anC]at h
 have h2:=h.1.1.2 v hv
 simp only[bQ,acZ]at h2
 exact aoR h.1.1.1.1.1.1.1.1.1.1 h2.1.1
theorem bgH(m:Ad)(v:Aj)(k r:Int)(h0:0≤k)(hk:k.toNat<m.sens.length):Dc.call (.fn 81) [.agg [Af 3 true m.nS (m.sens.map Bz.cells),Af 4 false m.nV (m.votes.map Aj.cells),Af 5 false m.nM (m.moves.map Ap.cells),.int .i64 m.states,.int .i64 m.cmds,.int .i64 m.bgn,Af 1 true m.nO (m.opn.map iv)],.agg [Af 1 true v.nn (v.sens.map iv),.int .i64 v.need,.int .i64 v.level,.bool v.above],.int .i64 k,.int .i64 r] []=some (.ret (.bool (Qk (Qb m k) v r)),[]):=by
 have hs:=cR hk
 have h0':(0≤k)=True:=eq_true h0
 have e:Qk (Qb m k) v r=(!(Qb m k).byp&&((decide (r<(Qb m k).lo)||decide ((Qb m k).hi<r))||((v.above&&decide (v.level≤r))||(!v.above&&decide (r≤v.level))))):=by
  have q:(!To r (Qb m k).lo (Qb m k).hi)=(decide (r<(Qb m k).lo)||decide ((Qb m k).hi<r)):=by rw[al9];simp[To]<;>try omega
  unfold Qk
  rw[q]
  cases v.above<;>simp
 rw[e]
 generalize Qb m k=s at hs
 (refine ce Try.func81 ?_;simp only[Try.f81];(have hb:=trivial;with_reducible repeat' (first|simp only[hb,Vc.down,seval,bmI.down,hs,h0',Bz.cells]|refine Aq ?_ ?_<;>intro hb|refine fd ?_|fail)))
 all_goals simp_all
theorem bkM(m:Ad)(v:Aj){l:List Int}{nn:Bool}(hl:l.length=m.sens.length)(hv:v.sens.length≤maxLen)(hi:Idx m v.sens):Dc.call (.fn 60) [.agg [Af 3 true m.nS (m.sens.map Bz.cells),Af 4 false m.nV (m.votes.map Aj.cells),Af 5 false m.nM (m.moves.map Ap.cells),.int .i64 m.states,.int .i64 m.cmds,.int .i64 m.bgn,Af 1 true m.nO (m.opn.map iv)],.agg [Af 1 true v.nn (v.sens.map iv),.int .i64 v.need,.int .i64 v.level,.bool v.above],Af 1 true nn (l.map iv)] []=some (.ret (.bool (fY m l v)),[]):=by
 have hI:=hi
 clear hi
 (refine ce Try.func60 ?_;simp only[Try.f60];(have hb:=trivial;with_reducible repeat' (first|simp only[hb,Vc.down,seval,aM6.down,acE]|refine Aq ?_ ?_<;>intro hb|refine fd ?_|fail)))
 refine Dl (Ss 38 v.sens (fun i (zz:Int) t h=>t 2=Af 1 true nn (l.map iv)∧t 3=.ptr 0 0 0∧t 4=.ptr 1 0 0∧t 8=.int .i64 i∧t 7=.int .i64 zz∧(h=[.live 7 false false [[Af 3 true m.nS (m.sens.map Bz.cells),Af 4 false m.nV (m.votes.map Aj.cells),Af 5 false m.nM (m.moves.map Ap.cells),.int .i64 m.states,.int .i64 m.cmds,.int .i64 m.bgn,Af 1 true m.nO (m.opn.map iv)]],.live 4 false false [[Af 1 true v.nn (v.sens.map iv),.int .i64 v.need,.int .i64 v.level,.bool v.above]]])) (fun rest zz=>gV m v l rest zz) (fun r e t h=>e=.exit 0∧t 4=.ptr 1 0 0∧t 7=.int .i64 r∧h=[.live 7 false false [[Af 3 true m.nS (m.sens.map Bz.cells),Af 4 false m.nV (m.votes.map Aj.cells),Af 5 false m.nM (m.moves.map Ap.cells),.int .i64 m.states,.int .i64 m.cmds,.int .i64 m.bgn,Af 1 true m.nO (m.opn.map iv)]],.live 4 false false [[Af 1 true v.nn (v.sens.map iv),.int .i64 v.need,.int .i64 v.level,.bool v.above]]]) ?_ ?_ (0) _ _ ?_) (fun e t h hk=>?_)
 ·rintro c t h Q' kQ ⟨h2,h3,h4,h8,h7,rfl⟩
  (have hb:=trivial;with_reducible repeat' (first|simp only[hb,Vc.down,seval,aM6.down,h2,h3,h4,h8,h7,acG,decide_false,acE]|refine Aq ?_ ?_<;>intro hb|refine fd ?_|fail))
  exact kQ _ _ _ ⟨rfl,by simp[up,h4],by simp[up,h7,gV],rfl⟩
 ·rintro x rest i c t h J Q' kJ kQ hx hi ⟨h2,h3,h4,h8,h7,rfl⟩
  have hd:decide ((i:Int)<(v.sens.length:Int))=true:=decide_eq_true (by omega)
  have hw:=Av hi hv
  obtain⟨k0,k1⟩:=hI x (acK hx)
  have hrr:=yG (l:=l) (k:=x) (by omega)
  have h0':(0≤x)=True:=eq_true k0
  have hS:=bgH m v x (rAt l x) k0 k1
  generalize hq:Qk (Qb m x) v (rAt l x)=q at hS
  (have hb:=trivial;with_reducible repeat' (first|simp only[hb,Vc.down,seval,aM6.down,h2,h3,h4,h7,h8,hd,hx,hw,hrr,h0',hS,iv,acE]|refine Aq ?_ ?_<;>intro hb|refine fd ?_|fail))
  all_goals (refine Ax (kJ _ _ (if q=true then IntKind.i64.wrap (c+1)else c) ⟨?_,?_,?_,?_,?_,rfl⟩ ?_);(simp[up,h2]);(simp[up,h3]);(simp[up,h4]);(simp[up]);(simp[up,h7,hb]);(simp[gV,hq]))
 ·exact⟨by simp[up,Eg],by simp[up,Eg],by simp[up,Eg],by simp[up],by simp[up,Eg],rfl⟩
 obtain⟨rfl,h4,h7,rfl⟩:=hk
 (have hb:=trivial;with_reducible repeat' (first|simp only[hb,Vc.down,seval,aM6.down,h4,h7]|refine Aq ?_ ?_<;>intro hb|refine fd ?_|fail))
 rfl
def orN(a b:Int):Int:=IntKind.i64.wrap ((BitVec.ofInt 64 a|||BitVec.ofInt 64 b).toNat:Int)
theorem ad3(ty:TypeId)(a b:Int):Pn Try.prog .or ty (.int .i64 a) (.int .i64 b)=some (.int .i64 (orN a b)):=by
 show(if IntKind.i64=IntKind.i64 then Lq .or .i64 a b else none)=_
 rw[if_pos rfl];rfl
def Vq(m:Ad)(l:List Int):List Aj→Nat→Int→Int
 | [],_,b=>b
 |v::vs,i,b=>Vq m l vs (i+1) (if fY m l v=true then orN b (alF i)else b)
theorem yU(m:Ad){l:List Int}{nn:Bool}(hl:l.length=m.sens.length)(hs:m.small)(hi:∀v∈m.votes,Idx m v.sens):Dc.call (.fn 46) [.agg [Af 3 true m.nS (m.sens.map Bz.cells),Af 4 false m.nV (m.votes.map Aj.cells),Af 5 false m.nM (m.moves.map Ap.cells),.int .i64 m.states,.int .i64 m.cmds,.int .i64 m.bgn,Af 1 true m.nO (m.opn.map iv)],Af 1 true nn (l.map iv)] []=some (.ret (.int .i64 (Vq m l m.votes 0 0)),[]):=by
 have hI:=hi
 clear hi
 (refine ce Try.func46 ?_;simp only[Try.f46];(have hb:=trivial;with_reducible repeat' (first|simp only[hb,Vc.down,seval,sE.down,acE]|refine Aq ?_ ?_<;>intro hb|refine fd ?_|fail)))
 refine Dl (Ss 50 m.votes (fun i (zz:Nat × Int) t h=>t 1=Af 1 true nn (l.map iv)∧t 2=.ptr 0 0 0∧t 12=Af 4 false m.nV (m.votes.map Aj.cells)∧t 13=.int .i64 m.votes.length∧t 14=.int .i64 i∧t 5=.int .i64 zz.2∧(h[0]?=some (.live 7 false false [[Af 3 true m.nS (m.sens.map Bz.cells),Af 4 false m.nV (m.votes.map Aj.cells),Af 5 false m.nM (m.moves.map Ap.cells),.int .i64 m.states,.int .i64 m.cmds,.int .i64 m.bgn,Af 1 true m.nO (m.opn.map iv)]])∧i=zz.1)) (fun rest zz=>Vq m l rest zz.1 zz.2) (fun r e t h=>e=.exit 0∧t 5=.int .i64 r) ?_ ?_ (0,0) _ _ ?_) (fun e t h hk=>?_)
 ·rintro⟨k,b⟩ t h Q' kQ ⟨h1,h2,h12,h13,h14,h5,⟨hA,rfl⟩⟩
  try dsimp only at *
  (have hb:=trivial;with_reducible repeat' (first|simp only[hb,Vc.down,seval,sE.down,h1,h2,h12,h13,h14,h5,acG,decide_false]|refine Aq ?_ ?_<;>intro hb|refine fd ?_|fail))
  exact kQ _ _ _ ⟨rfl,by simp[up,h5,Vq]⟩
 ·rintro x rest i ⟨k,b⟩ t h J Q' kJ kQ hx hi ⟨h1,h2,h12,h13,h14,h5,⟨hA,rfl⟩⟩
  have hd:decide ((i:Int)<(m.votes.length:Int))=true:=decide_eq_true (by omega)
  have hw:=Av hi hs.votes
  try dsimp only at *
  have hA1:=Ac hA
  have hvs:=hs.vs x (acK hx)
  have hIx:=hI x (acK hx)
  obtain⟨w,rfl⟩:∃w,w=x:=⟨_,rfl⟩
  obtain⟨k,rfl⟩:∃k,k=i:=⟨_,rfl⟩
  obtain⟨hL,hLe⟩:∃hL,hL=h.length:=⟨_,rfl⟩
  (have hb:=trivial;with_reducible repeat' (first|simp only[hb,Vc.down,seval,sE.down,h1,h2,h12,h13,h14,h5,hd,hx,hw,hA1,Aj.cells,acE]|refine Aq ?_ ?_<;>intro hb|refine fd ?_|fail))
  refine Dl (Ss 50 w.sens (fun i (zz:Int) t h=>t 1=Af 1 true nn (l.map iv)∧t 2=.ptr 0 0 0∧t 12=Af 4 false m.nV (m.votes.map Aj.cells)∧t 13=.int .i64 m.votes.length∧t 14=.int .i64 (k:Int)∧t 5=.int .i64 b∧t 6=.int .i64 (k:Int)∧t 7=.ptr hL 0 0∧t 20=Af 1 true w.nn (w.sens.map iv)∧t 21=.int .i64 w.sens.length∧t 22=.int .i64 i∧t 8=.int .i64 zz∧(h[0]?=some (.live 7 false false [[Af 3 true m.nS (m.sens.map Bz.cells),Af 4 false m.nV (m.votes.map Aj.cells),Af 5 false m.nM (m.moves.map Ap.cells),.int .i64 m.states,.int .i64 m.cmds,.int .i64 m.bgn,Af 1 true m.nO (m.opn.map iv)]])∧∃wf,h[hL]?=some (.live 4 false wf [[Af 1 true w.nn (w.sens.map iv),.int .i64 w.need,.int .i64 w.level,.bool w.above]]))) (fun rest zz=>gV m w l rest zz) (fun r e t h=>e=.exit 2∧t 1=Af 1 true nn (l.map iv)∧t 2=.ptr 0 0 0∧t 12=Af 4 false m.nV (m.votes.map Aj.cells)∧t 13=.int .i64 m.votes.length∧t 14=.int .i64 (k:Int)∧t 5=.int .i64 b∧t 6=.int .i64 (k:Int)∧t 7=.ptr hL 0 0∧t 8=.int .i64 r∧h[0]?=some (.live 7 false false [[Af 3 true m.nS (m.sens.map Bz.cells),Af 4 false m.nV (m.votes.map Aj.cells),Af 5 false m.nM (m.moves.map Ap.cells),.int .i64 m.states,.int .i64 m.cmds,.int .i64 m.bgn,Af 1 true m.nO (m.opn.map iv)]])∧∃wf,h[hL]?=some (.live 4 false wf [[Af 1 true w.nn (w.sens.map iv),.int .i64 w.need,.int .i64 w.level,.bool w.above]])) ?_ ?_ (0) _ _ ?_) (fun e tC hC hk=>?_)
  ·rintro c t h Q' kQ ⟨h1,h2,h12,h13,h14,h5,h6,h7,h20,h21,h22,h8,⟨hA,wf,hB⟩⟩
   (have hb:=trivial;with_reducible repeat' (first|simp only[hb,Vc.down,seval,sE.down,h1,h2,h12,h13,h14,h5,h6,h7,h20,h21,h22,h8,acG,decide_false]|refine Aq ?_ ?_<;>intro hb|refine fd ?_|fail))
   exact kQ _ _ _ ⟨rfl,by simp[up,h1],by simp[up,h2],by simp[up,h12],by simp[up,h13],by simp[up,h14],by simp[up,h5],by simp[up,h6],by simp[up,h7],by simp[up,h8,gV],hA,wf,hB⟩
  ·rintro x rest i c t h J Q' kJ kQ hx hi ⟨h1,h2,h12,h13,h14,h5,h6,h7,h20,h21,h22,h8,⟨hA,wf,hB⟩⟩
   have hd:decide ((i:Int)<(w.sens.length:Int))=true:=decide_eq_true (by omega)
   have hw:=Av hi hvs
   obtain⟨k0,k1⟩:=hIx x (acK hx)
   have hrr:=yG (l:=l) (k:=x) (by omega)
   have hss:=cR k1
   have h0':(0≤x)=True:=eq_true k0
   have hS:=ahK (Qb m x) w (rAt l x)
   generalize hq:Qk (Qb m x) w (rAt l x)=q at hS
   generalize Qb m x=s at hss hS
   (have hb:=trivial;with_reducible repeat' (first|simp only[hb,Vc.down,seval,sE.down,h1,h2,h7,h8,h20,h21,h22,hd,hx,hw,hrr,hss,h0',hA,hB,hS,iv,Bz.cells,acE]|refine Aq ?_ ?_<;>intro hb|refine fd ?_|fail))
   all_goals (refine Ax (kJ _ _ (if q=true then IntKind.i64.wrap (c+1)else c) ⟨?_,?_,?_,?_,?_,?_,?_,?_,?_,?_,?_,?_,⟨hA,wf,hB⟩⟩ ?_);(simp[up,h1]);(simp[up,h2]);(simp[up,h12]);(simp[up,h13]);(simp[up,h14]);(simp[up,h5]);(simp[up,h6]);(simp[up,h7]);(simp[up,h20]);(simp[up,h21]);(simp[up]);(simp[up,h8,hb]);(simp[gV,hq]))
  ·exact⟨by simp[up,Eg,h1,h2,h12,h13,h14,h5,hLe],by simp[up,Eg,h1,h2,h12,h13,h14,h5,hLe],by simp[up,Eg,h1,h2,h12,h13,h14,h5,hLe],by simp[up,Eg,h1,h2,h12,h13,h14,h5,hLe],by simp[up,Eg,h1,h2,h12,h13,h14,h5,hLe],by simp[up,Eg,h1,h2,h12,h13,h14,h5,hLe],by simp[up,Eg,h1,h2,h12,h13,h14,h5,hLe],by simp[up,Eg,h1,h2,h12,h13,h14,h5,hLe],by simp[up,Eg,h1,h2,h12,h13,h14,h5,hLe],by simp[up,Eg,h1,h2,h12,h13,h14,h5,hLe],by simp[up],by simp[up,Eg,h1,h2,h12,h13,h14,h5,hLe],⟨hA1 _,true,by rw[hLe];simp⟩⟩
  ·obtain⟨rfl,h1,h2,h12,h13,h14,h5,h6,h7,h8,hA,wf,hB⟩:=hk
   have hy:decide (w.need≤gV m w l w.sens 0)=fY m l w:=rfl
   (have hb:=trivial;with_reducible repeat' (first|simp only[hb,Vc.down,seval,sE.down,h1,h2,h12,h13,h14,h5,h6,h7,h8,hA,hB,hw,hy,ad3]|refine Aq ?_ ?_<;>intro hb|refine fd ?_|fail))
   all_goals (refine Ax (kJ _ _ (k+1,(if fY m l w=true then orN b (alF k)else b)) ⟨?_,?_,?_,?_,?_,?_,⟨hA,rfl⟩⟩ ?_);(simp[up,h1]);(simp[up,h2]);(simp[up,h12]);(simp[up,h13]);(simp[up]);(simp[up,h5,hb]);(simp[Vq]))
 ·exact⟨by simp[up,Eg],by simp[up,Eg],by simp[up,Eg],by simp[up,Eg],by simp[up],by simp[up,Eg],⟨rfl,rfl⟩⟩
 obtain⟨rfl,h5⟩:=hk
 (have hb:=trivial;with_reducible repeat' (first|simp only[hb,Vc.down,seval,sE.down,h5]|refine Aq ?_ ?_<;>intro hb|refine fd ?_|fail))
def bv(b:Bool):List AV:=[.bool b]
theorem Jt{h:Ab}{b:Nat}(hb:b<h.length)(l:Ab)(c:CB):(h++l).set b c=h.set b c++l:=List.set_append_left _ _ hb
theorem Lm{h:Ab}{b:Nat}(c:CB)(l:Ab):(h.set b c++l)[h.length]?=l[0]?:=by
 have:=aoA (h.set b c) l
 rwa[al2]at this
theorem Gj{h:Ab}{b:Nat}(c:CB)(l:Ab)(k:Nat):(h.set b c++l)[h.length+k]?=l[k]?:=by
 have:=Px (h.set b c) l k
 rwa[al2]at this
theorem Us{h:Ab}{b b':Nat}{x:CB}(c:CB)(hne:b≠b')(hb:h[b']?=some x)(l:Ab):(h.set b c++l)[b']?=some x:=by
 rw[List.getElem?_append_left (by rw[al2];exact(aiK.1 hb).1),List.getElem?_set_ne hne];exact hb
def bbA(v:AV)(i:Nat)(rows:List (List AV))(h:Ab):Prop:=(i=0∧v=.nils)∨(0<i∧∃b,0<b∧v=.slr 1 b 0 i∧h[b]?=some (.live 1 true false rows))
theorem aAG(m:Ad){l:List Int}{nn:Bool}(hl:l.length=m.sens.length)(hs:m.small)(h6:m.votes.length≤6)(hi:∀v∈m.votes,Idx m v.sens)(o:Gp)(h':Ab)(c0:m.votes=[]→(o,h')=(.ret .nils,[]))(c1:m.votes≠[]→(o,h')=(.ret (.slr 1 0 0 m.votes.length),[.live 1 true false ((m.votes.map (fY m l)).map bv)])):
 Dc.call (.fn 28) [.agg [Af 3 true m.nS (m.sens.map Bz.cells),Af 4 false m.nV (m.votes.map Aj.cells),Af 5 false m.nM (m.moves.map Ap.cells),.int .i64 m.states,.int .i64 m.cmds,.int .i64 m.bgn,Af 1 true m.nO (m.opn.map iv)],Af 1 true nn (l.map iv)] []=some (o,h'):=by
 have hI:=hi
 clear hi
 (refine ce Try.func28 ?_;simp only[Try.f28];(have hb:=trivial;with_reducible repeat' (first|simp only[hb,Vc.down,seval,arC.down,acE]|refine Aq ?_ ?_<;>intro hb|refine fd ?_|fail)))
 refine Dl (Ss 26 m.votes (fun i (zz:List Bool) t h=>t 1=Af 1 true nn (l.map iv)∧t 2=.ptr 0 0 0∧t 6=.int .i64 i∧(h[0]?=some (.live 7 false false [[Af 3 true m.nS (m.sens.map Bz.cells),Af 4 false m.nV (m.votes.map Aj.cells),Af 5 false m.nM (m.moves.map Ap.cells),.int .i64 m.states,.int .i64 m.cmds,.int .i64 m.bgn,Af 1 true m.nO (m.opn.map iv)]])∧zz.length=i∧bbA (t 5) i (zz.map bv) h)) (fun rest zz=>zz++rest.map (fY m l)) (fun r e t h=>e=.exit 0∧bbA (t 5) m.votes.length (r.map bv) h) ?_ ?_ ([]) _ _ ?_) (fun e t h hk=>?_)
 ·rintro a t h Q' kQ ⟨h1,h2,h6,⟨hA,hp,hc⟩⟩
  (have hb:=trivial;with_reducible repeat' (first|simp only[hb,Vc.down,seval,arC.down,h1,h2,h6,acG,decide_false,hA,acE]|refine Aq ?_ ?_<;>intro hb|refine fd ?_|fail))
  exact kQ _ _ _ ⟨rfl,by simpa [up]using hc⟩
 ·rintro x rest i a t h J Q' kJ kQ hx hi ⟨h1,h2,h6,⟨hA,hp,hc⟩⟩
  have hd:decide ((i:Int)<(m.votes.length:Int))=true:=decide_eq_true (by omega)
  have hw:=Av hi hs.votes
  have hV:=bkM m x (l:=l) (nn:=nn) hl (hs.vs x (acK hx)) (hI x (acK hx))
  have hA1:=Ac hA
  have h0l:0<h.length:=(aiK.1 hA).1
  rcases hc with⟨rfl,ho⟩|⟨h0,b,hb0,ho,hb⟩
  ·simp only[Int.natCast_zero]at hd
   (have hb:=trivial;with_reducible repeat' (first|simp only[hb,Vc.down,seval,arC.down,h1,h2,h6,ho,hd,hw,hx,hA,hA1,hV,Aj.cells,acE]|refine Aq ?_ ?_<;>intro hb|refine fd ?_|fail))
   obtain rfl:a=[]:=anF.1 hp
   (refine Ax (kJ _ _ [fY m l x] ⟨?_,?_,?_,⟨hA1 _,rfl,.inr ⟨by omega,h.length+1,by omega,by simp[up],by rw[Px];simp[bv]⟩⟩⟩ ?_);(simp[up,h1]);(simp[up,h2]);(simp[up]);(simp))
  ·have hbl:b<h.length:=(aiK.1 hb).1
   have hB:=Ac hb
   have hS:=Jt hbl
   have hlp:0+i=a.length:=by omega
   have hi39:(i+1≤549755813888)=True:=eq_true (by omega)
   (have hb:=trivial;with_reducible repeat' (first|simp only[hb,Vc.down,seval,arC.down,h1,h2,h6,ho,hd,hw,hx,hA,hA1,hV,Aj.cells,acE,hB,hS,Lm,Gj,al2,hp,hi39]|refine Aq ?_ ?_<;>intro hb|refine fd ?_|fail))
   (refine Ax (kJ _ _ (a++[fY m l x]) ⟨?_,?_,?_,⟨Us _ (by omega) hA _,by simp[hp],.inr ⟨by omega,h.length+1,by omega,by simp[up],by rw[Gj];simp[bv]⟩⟩⟩ ?_);(simp[up,h1]);(simp[up,h2]);(simp[up]);(simp))
 ·exact⟨by simp[up,Eg],by simp[up,Eg],by simp[up],⟨rfl,rfl,.inl ⟨rfl,by simp[up]⟩⟩⟩
 obtain⟨rfl,⟨hn,ho⟩|⟨hn,b,hb0,ho,hb⟩⟩:=hk
 ·rw[c0 (anF.1 hn)]
  (have hb:=trivial;with_reducible repeat' (first|simp only[hb,Vc.down,seval,arC.down,ho]|refine Aq ?_ ?_<;>intro hb|refine fd ?_|fail))
 ·rw[c1 (fun e=>by rw[e]at hn;simp at hn)]
  (with_reducible repeat' (first|simp only[hb,Vc.down,seval,arC.down,ho,hb]|refine Aq ?_ ?_<;>intro hb|refine fd ?_|fail))
def Yy:List Bool→Nat→Int→Int
 | [],_,b=>b
 |v::vs,i,b=>Yy vs (i+1) (if v=true then orN b (alF i)else b)
theorem pV(m:Ad)(l:List Int):∀(vs:List Aj) (i:Nat) (b:Int),Vq m l vs i b=Yy (vs.map (fY m l)) i b
 | [],_,_=>rfl
 |v::vs,i,b=>by simp only[Vq,List.map_cons,Yy];exact pV m l vs _ _
def Vv(b v:Int):Bool:=bhV (aAX b v.toNat)==1
theorem anN:∀(l:List Bool),l.length≤6→∀i:Nat,i<l.length→l[i]?=some (Vv (Yy l 0 0) i)
 | [],_,i,h=>by simp at h
 | [a],_,i,h=>by
   have:∀a:Bool,∀i:Fin 1,[a][i.val]?=some (Vv (Yy [a] 0 0) (i.val:Nat)):=by decide+kernel
   exact this a ⟨i,h⟩
 | [a,b],_,i,h=>by
   have:∀a b:Bool,∀i:Fin 2,[a,b][i.val]?=some (Vv (Yy [a,b] 0 0) (i.val:Nat)):=by decide+kernel
   exact this a b ⟨i,h⟩
 | [a,b,c],_,i,h=>by
   have:∀a b c:Bool,∀i:Fin 3,[a,b,c][i.val]?=some (Vv (Yy [a,b,c] 0 0) (i.val:Nat)):=by decide+kernel
   exact this a b c ⟨i,h⟩
 | [a,b,c,d],_,i,h=>by
   have:∀a b c d:Bool,∀i:Fin 4,[a,b,c,d][i.val]?=some (Vv (Yy [a,b,c,d] 0 0) (i.val:Nat)):=by decide+kernel
   exact this a b c d ⟨i,h⟩
 | [a,b,c,d,e],_,i,h=>by
   have:∀a b c d e:Bool,∀i:Fin 5,[a,b,c,d,e][i.val]?=some (Vv (Yy [a,b,c,d,e] 0 0) (i.val:Nat)):=by decide+kernel
   exact this a b c d e ⟨i,h⟩
 | [a,b,c,d,e,f],_,i,h=>by
   have:∀a b c d e f:Bool,∀i:Fin 6,[a,b,c,d,e,f][i.val]?=some (Vv (Yy [a,b,c,d,e,f] 0 0) (i.val:Nat)):=by decide+kernel
   exact this a b c d e f ⟨i,h⟩
 |_::_::_::_::_::_::_::_,h,_,_=>by simp only[List.length_cons]at h;omega
theorem ahI(a b:Bool):Pn Try.prog .neq 4 (.bool a) (.bool b)=some (.bool (!(a==b))):=by cases a<;>cases b<;>kernel_rfl
structure Ui where
 frm:Int
 to:Int
 nn:Bool
 wants:List Ao
 cmd:Int
 after:Int
 st:Int
 ag:Int
 bits:Int
 com:Int
theorem anU(n:Ui):Dc.call (.fn 92) [.agg [.int .i64 n.frm,.int .i64 n.to,Af 2 true n.nn (n.wants.map Ao.cells),.int .i64 n.cmd,.int .i64 n.after,.int .i64 n.st,.int .i64 n.ag,.int .i64 n.bits,.int .i64 n.com]] []=some (.ret (.bool (n.frm==n.st)),[]):=by
 (refine ce Try.func92 ?_;simp only[Try.f92];(have hb:=trivial;with_reducible repeat' (first|simp only[hb,Vc.down,seval,bi6.down]|refine Aq ?_ ?_<;>intro hb|refine fd ?_|fail)))
theorem axX(n:Ui):Dc.call (.fn 93) [.agg [.int .i64 n.frm,.int .i64 n.to,Af 2 true n.nn (n.wants.map Ao.cells),.int .i64 n.cmd,.int .i64 n.after,.int .i64 n.st,.int .i64 n.ag,.int .i64 n.bits,.int .i64 n.com]] []=some (.ret (.bool (decide (n.after≤n.ag))),[]):=by
 (refine ce Try.func93 ?_;simp only[Try.f93];(have hb:=trivial;with_reducible repeat' (first|simp only[hb,Vc.down,seval,blI.down]|refine Aq ?_ ?_<;>intro hb|refine fd ?_|fail)))
theorem an8(n:Ui):Dc.call (.fn 95) [.agg [.int .i64 n.frm,.int .i64 n.to,Af 2 true n.nn (n.wants.map Ao.cells),.int .i64 n.cmd,.int .i64 n.after,.int .i64 n.st,.int .i64 n.ag,.int .i64 n.bits,.int .i64 n.com]] []=some (.ret (.bool (n.cmd== -1||n.cmd==n.com)),[]):=by
 (refine ce Try.func95 ?_;simp only[Try.f95];(have hb:=trivial;with_reducible repeat' (first|simp only[hb,Vc.down,seval,bi7.down]|refine Aq ?_ ?_<;>intro hb|refine fd ?_|fail)))
 all_goals simp_all
theorem uX(n:Ui)(w:Ao)(h0:0≤w.vote):Dc.call (.fn 99) [.agg [.int .i64 w.vote,.bool w.is],.ptr 0 0 0] [.live 9 false false [[.int .i64 n.frm,.int .i64 n.to,Af 2 true n.nn (n.wants.map Ao.cells),.int .i64 n.cmd,.int .i64 n.after,.int .i64 n.st,.int .i64 n.ag,.int .i64 n.bits,.int .i64 n.com]]]=some (.ret (.bool (!(Vv n.bits w.vote==w.is))),[.live 9 false false [[.int .i64 n.frm,.int .i64 n.to,Af 2 true n.nn (n.wants.map Ao.cells),.int .i64 n.cmd,.int .i64 n.after,.int .i64 n.st,.int .i64 n.ag,.int .i64 n.bits,.int .i64 n.com]]]):=by
 obtain⟨v,is⟩:=w
 obtain⟨k,hk⟩:∃k:Nat,v=k:=⟨v.toNat,by simp at h0;omega⟩
 subst hk
 (refine ce Try.func99 ?_;simp only[Try.f99];(have hb:=trivial;with_reducible repeat' (first|simp only[hb,Vc.down,seval,bjQ.down,ahI]|refine Aq ?_ ?_<;>intro hb|refine fd ?_|fail)))
 all_goals simp[Vv]
theorem oR{l:List Ao}{nn:Bool}{g:Nat}{ndq:Ui}{p:Ao→Bool}(hp:∀x∈l,Dc.call (.fn g) (.agg [.int .i64 x.vote,.bool x.is]::[.ptr 0 0 0]) [.live 9 false false [[.int .i64 ndq.frm,.int .i64 ndq.to,Af 2 true ndq.nn (ndq.wants.map Ao.cells),.int .i64 ndq.cmd,.int .i64 ndq.after,.int .i64 ndq.st,.int .i64 ndq.ag,.int .i64 ndq.bits,.int .i64 ndq.com]]]=some (.ret (.bool (p x)),[.live 9 false false [[.int .i64 ndq.frm,.int .i64 ndq.to,Af 2 true ndq.nn (ndq.wants.map Ao.cells),.int .i64 ndq.cmd,.int .i64 ndq.after,.int .i64 ndq.st,.int .i64 ndq.ag,.int .i64 ndq.bits,.int .i64 ndq.com]]]))(hl:l.length≤maxLen)(hgm:Dc.md g=false:=by exact rfl):
 Dc.call (.fn 98) [Af 2 true nn (l.map Ao.cells),.func (.func g) [] [.ptr 0 0 0]] [.live 9 false false [[.int .i64 ndq.frm,.int .i64 ndq.to,Af 2 true ndq.nn (ndq.wants.map Ao.cells),.int .i64 ndq.cmd,.int .i64 ndq.after,.int .i64 ndq.st,.int .i64 ndq.ag,.int .i64 ndq.bits,.int .i64 ndq.com]]]=some (.ret (.int .i64 (dT p l 0)),[.live 9 false false [[.int .i64 ndq.frm,.int .i64 ndq.to,Af 2 true ndq.nn (ndq.wants.map Ao.cells),.int .i64 ndq.cmd,.int .i64 ndq.after,.int .i64 ndq.st,.int .i64 ndq.ag,.int .i64 ndq.bits,.int .i64 ndq.com]]]):=by
 (refine ce Try.func98 ?_;simp only[Try.f98];(have hb:=trivial;with_reducible repeat' (first|simp only[hb,Vc.down,seval,eL.down,acE]|refine Aq ?_ ?_<;>intro hb|refine fd ?_|fail)))
 refine Dl (Ss 19 l (fun i (s:Int) t h=>s=i∧h=[.live 9 false false [[.int .i64 ndq.frm,.int .i64 ndq.to,Af 2 true ndq.nn (ndq.wants.map Ao.cells),.int .i64 ndq.cmd,.int .i64 ndq.after,.int .i64 ndq.st,.int .i64 ndq.ag,.int .i64 ndq.bits,.int .i64 ndq.com]]]∧t 0=Af 2 true nn (l.map Ao.cells)∧t 1=.func (.func g) [] [.ptr 0 0 0]∧t 7=.int .i64 l.length∧t 8=.int .i64 i)
  (fun rest s=>dT p rest s) (fun r e t h=>h=[.live 9 false false [[.int .i64 ndq.frm,.int .i64 ndq.to,Af 2 true ndq.nn (ndq.wants.map Ao.cells),.int .i64 ndq.cmd,.int .i64 ndq.after,.int .i64 ndq.st,.int .i64 ndq.ag,.int .i64 ndq.bits,.int .i64 ndq.com]]]∧((e=.exit 0∧r= -1)∨(e=.ret∧t 4=.int .i64 r))) ?_ ?_ 0 _ _ ?_) (fun e t h hk=>?_)
 ·rintro s t h Q' kQ ⟨rfl,rfl,h0,h1,h7,h8⟩
  (have hb:=trivial;with_reducible repeat' (first|simp only[hb,Vc.down,seval,eL.down,h0,h1,h7,h8,acG,decide_false]|refine Aq ?_ ?_<;>intro hb|refine fd ?_|fail))
  exact kQ _ _ _ ⟨rfl,.inl ⟨rfl,rfl⟩⟩
 ·rintro x rest i s t h J Q' kJ kQ hx hi ⟨rfl,rfl,h0,h1,h7,h8⟩
  have hgm2:=hgm
  simp only[lI,al6,al7,Bool.or_false]at hgm2
  have hpx:=hp x (acK hx)
  have hd:decide ((i:Int)<(l.length:Int))=true:=by simpa using hi
  (have hb:=trivial;with_reducible repeat' (first|simp only[hb,Vc.down,seval,eL.down,h0,h1,h7,h8,hd,hx,Ao.cells,hpx,hgm2,Av hi hl]|refine Aq ?_ ?_<;>intro hb|refine fd ?_|fail))
  ·exact kQ _ _ _ ⟨rfl,.inr ⟨rfl,by simp[up,dT,hb]⟩⟩
  ·exact Ax (kJ _ _ (i+1) ⟨by simp,rfl,by simp[up,h0],by simp[up,h1],by simp[up,h7],by simp[up]⟩ (by simp[dT,hb]))
 ·exact⟨rfl,rfl,by simp[up,Eg],by simp[up,Eg],by simp[up],by simp[up]⟩
 ·obtain⟨rfl,⟨rfl,hi⟩|⟨rfl,hi⟩⟩:=hk
  ·(have hb:=trivial;with_reducible repeat' (first|simp only[hb,Vc.down,seval,eL.down]|refine Aq ?_ ?_<;>intro hb|refine fd ?_|fail))
   rw[hi]
  ·(have hb:=trivial;with_reducible repeat' (first|simp only[hb,Vc.down,seval,eL.down,hi]|refine Aq ?_ ?_<;>intro hb|refine fd ?_|fail))
theorem jS{l:List Ao}{nn:Bool}{g:Nat}{ndq:Ui}{p:Ao→Bool}(hp:∀x∈l,Dc.call (.fn g) (.agg [.int .i64 x.vote,.bool x.is]::[.ptr 0 0 0]) [.live 9 false false [[.int .i64 ndq.frm,.int .i64 ndq.to,Af 2 true ndq.nn (ndq.wants.map Ao.cells),.int .i64 ndq.cmd,.int .i64 ndq.after,.int .i64 ndq.st,.int .i64 ndq.ag,.int .i64 ndq.bits,.int .i64 ndq.com]]]=some (.ret (.bool (p x)),[.live 9 false false [[.int .i64 ndq.frm,.int .i64 ndq.to,Af 2 true ndq.nn (ndq.wants.map Ao.cells),.int .i64 ndq.cmd,.int .i64 ndq.after,.int .i64 ndq.st,.int .i64 ndq.ag,.int .i64 ndq.bits,.int .i64 ndq.com]]]))(hl:l.length≤maxLen)(hgm:Dc.md g=false:=by exact rfl):
 Dc.call (.fn 89) [Af 2 true nn (l.map Ao.cells),.func (.func g) [] [.ptr 0 0 0]] [.live 9 false false [[.int .i64 ndq.frm,.int .i64 ndq.to,Af 2 true ndq.nn (ndq.wants.map Ao.cells),.int .i64 ndq.cmd,.int .i64 ndq.after,.int .i64 ndq.st,.int .i64 ndq.ag,.int .i64 ndq.bits,.int .i64 ndq.com]]]=some (.ret (.bool (l.any p)),[.live 9 false false [[.int .i64 ndq.frm,.int .i64 ndq.to,Af 2 true ndq.nn (ndq.wants.map Ao.cells),.int .i64 ndq.cmd,.int .i64 ndq.after,.int .i64 ndq.st,.int .i64 ndq.ag,.int .i64 ndq.bits,.int .i64 ndq.com]]]):=by
 (refine ce Try.func89 ?_;simp only[Try.f89];(have hb:=trivial;with_reducible repeat' (first|simp only[hb,Vc.down,seval,oR hp hl hgm,Ur p l 0 (al3 0)]|refine Aq ?_ ?_<;>intro hb|refine fd ?_|fail)))
def Yi(bits:Int)(l:List Ao):Bool:=l.all fun w=>Vv bits w.vote==w.is
theorem zV(n:Ui)(hl:n.wants.length≤maxLen)(h0:∀w∈n.wants,0≤w.vote):Dc.call (.fn 94) [.agg [.int .i64 n.frm,.int .i64 n.to,Af 2 true n.nn (n.wants.map Ao.cells),.int .i64 n.cmd,.int .i64 n.after,.int .i64 n.st,.int .i64 n.ag,.int .i64 n.bits,.int .i64 n.com]] []=some (.ret (.bool (Yi n.bits n.wants)),[]):=by
 have hc:=jS (ndq:=n) (l:=n.wants) (nn:=n.nn) (g:=99) (p:=fun w=> !(Vv n.bits w.vote==w.is)) (fun w hw=>uX n w (h0 w hw)) hl
 have q1:Yi n.bits n.wants= !(n.wants.any fun w=> !(Vv n.bits w.vote==w.is)):=al4
 (refine ce Try.func94 ?_;simp only[Try.f94];(have hb:=trivial;with_reducible repeat' (first|simp only[hb,Vc.down,seval,bkP.down,hc]|refine Aq ?_ ?_<;>intro hb|refine fd ?_|fail)))
 all_goals simp[q1]
theorem au8(f0 f1 f2 f3:Fn)(a0 a1 a2 a3 c0 c1 c2 c3:List AV):Zr Try.prog 155 [(0,.func f0 a0 c0),(1,.func f1 a1 c1),(2,.func f2 a2 c2),(3,.func f3 a3 c3)]=some (.agg [.func f0 a0 c0,.func f1 a1 c1,.func f2 a2 c2,.func f3 a3 c3]):=by kernel_rfl
theorem ak5(a b c d:AV):Zm Try.prog 155 (.agg [a,b,c,d]) (.int .i64 0)=some a:=by kernel_rfl
theorem ak6(a b c d:AV):Zm Try.prog 155 (.agg [a,b,c,d]) (.int .i64 1)=some b:=by kernel_rfl
theorem aiL(a b c d:AV):Zm Try.prog 155 (.agg [a,b,c,d]) (.int .i64 2)=some c:=by kernel_rfl
theorem akQ(a b c d:AV):Zm Try.prog 155 (.agg [a,b,c,d]) (.int .i64 3)=some d:=by kernel_rfl
def qZ(n:Ui):Bool:=(n.frm==n.st)&&decide (n.after≤n.ag)&&Yi n.bits n.wants&&(n.cmd== -1||n.cmd==n.com)
theorem w2:IntKind.i64.wrap 2=2:=Eq.trans rfl rfl
theorem w3:IntKind.i64.wrap 3=3:=Eq.trans rfl rfl
theorem w4:IntKind.i64.wrap 4=4:=Eq.trans rfl rfl
theorem uF(n:Ui)(hl:n.wants.length≤maxLen)(h0:∀w∈n.wants,0≤w.vote):Dc.call (.fn 75) [.agg [.int .i64 n.frm,.int .i64 n.to,Af 2 true n.nn (n.wants.map Ao.cells),.int .i64 n.cmd,.int .i64 n.after,.int .i64 n.st,.int .i64 n.ag,.int .i64 n.bits,.int .i64 n.com]] []=some (.ret (.bool (qZ n)),[]):=by
 have q1:=anU n
 have q2:=axX n
 have q3:=zV n hl h0
 have q4:=an8 n
 (refine ce Try.func75 ?_;simp only[Try.f75];(have hb:=trivial;with_reducible repeat' (first|simp only[hb,Vc.down,seval,aBJ.down,au8,ak5,ak6,aiL,akQ,q1,q2,q3,q4,w2,w3,w4]|refine Aq ?_ ?_<;>intro hb|refine fd ?_|fail)))
 (have hb:=trivial;with_reducible repeat' (first|simp only[hb,Vc.down,seval,aBJ.down,au8,ak5,ak6,aiL,akQ,q1,q2,q3,q4,w2,w3,w4]|refine Aq ?_ ?_<;>intro hb|refine fd ?_|refine bh9 ?_|fail))
 all_goals (refine congrArg (fun b=>(Gp.ret (AV.bool b),([]:Ab))) ?_;symm;((try simp only[an5,ah3,aiC]at *);simp only[qZ, *,aoC,aiI,al5,aiH,Bool.and_self,Bool.not_not,ah3,aiC,ahZ,List.all_nil]))
def nd(x:Ap)(st ag bits com:Int):Ui:=⟨x.frm,x.to,x.nn,x.wants,x.cmd,x.after,st,ag,bits,com⟩
theorem aq7(x:Ap)(st ag bits com:Int){bs:List Bool}{nn:Bool}(hl:x.wants.length≤maxLen)(hv:∀w∈x.wants,0≤w.vote∧bs[w.vote.toNat]?=some (Vv bits w.vote)):
 Dc.call (.fn 50) [.agg [.int .i64 x.frm,.int .i64 x.to,Af 2 true x.nn (x.wants.map Ao.cells),.int .i64 x.cmd,.int .i64 x.after],.int .i64 st,.int .i64 ag,Af 1 true nn (bs.map bv),.int .i64 com] []=some (.ret (.bool (qZ (nd x st ag bits com))),[]):=by
 obtain⟨y,rfl⟩:∃y,y=x:=⟨_,rfl⟩
 (refine ce Try.func50 ?_;simp only[Try.f50];(have hb:=trivial;with_reducible repeat' (first|simp only[hb,Vc.down,seval,awL.down,acE]|refine Aq ?_ ?_<;>intro hb|refine fd ?_|fail)))
 refine Dl (Ss 56 y.wants (fun i (zz:Unit) t h=>t 1=.int .i64 st∧t 2=.int .i64 ag∧t 3=Af 1 true nn (bs.map bv)∧t 4=.int .i64 com∧t 5=.ptr 0 0 0∧t 11=.int .i64 i∧(h=[.live 5 false false [[.int .i64 y.frm,.int .i64 y.to,Af 2 true y.nn (y.wants.map Ao.cells),.int .i64 y.cmd,.int .i64 y.after]]])) (fun rest zz=>Yi bits rest) (fun r e t h=>(if r=true then e=.exit 0∧t 1=.int .i64 st∧t 2=.int .i64 ag∧t 4=.int .i64 com∧t 5=.ptr 0 0 0∧h=[.live 5 false false [[.int .i64 y.frm,.int .i64 y.to,Af 2 true y.nn (y.wants.map Ao.cells),.int .i64 y.cmd,.int .i64 y.after]]]else e=.ret∧t 10=.bool false)) ?_ ?_ () _ _ ?_) (fun e t h hk=>?_)
 ·rintro _ t h Q' kQ ⟨h1,h2,h3,h4,h5,h11,rfl⟩
  (have hb:=trivial;with_reducible repeat' (first|simp only[hb,Vc.down,seval,awL.down,h1,h2,h3,h4,h5,h11,acG,decide_false,acE]|refine Aq ?_ ?_<;>intro hb|refine fd ?_|fail))
  exact kQ _ _ _ (by rw[if_pos (by rfl)];exact⟨rfl,by simp[up,h1],by simp[up,h2],by simp[up,h4],by simp[up,h5],rfl⟩)
 ·rintro x rest i _ t h J Q' kJ kQ hx hi ⟨h1,h2,h3,h4,h5,h11,rfl⟩
  have hd:decide ((i:Int)<(y.wants.length:Int))=true:=decide_eq_true (by omega)
  have hw:=Av hi hl
  obtain⟨k0,k1⟩:=hv x (acK hx)
  have h0':(0≤x.vote)=True:=eq_true k0
  (have hb:=trivial;with_reducible repeat' (first|simp only[hb,Vc.down,seval,awL.down,h1,h2,h3,h4,h5,h11,hd,hx,hw,k1,h0',ahI,bv,Ao.cells,acE]|refine Aq ?_ ?_<;>intro hb|refine fd ?_|fail))
  all_goals first
   |exact kQ _ _ _ (by rw[if_neg (by simp_all[Yi])];exact⟨rfl,by simp[up]⟩)
   |(refine Ax (kJ _ _ () ⟨?_,?_,?_,?_,?_,?_,rfl⟩ ?_);(simp[up,h1]);(simp[up,h2]);(simp[up,h3]);(simp[up,h4]);(simp[up,h5]);(simp[up]);(simp_all[Yi]))
 ·exact⟨by simp[up,Eg],by simp[up,Eg],by simp[up,Eg],by simp[up,Eg],by simp[up,Eg],by simp[up],rfl⟩
 split at hk
 ·obtain⟨rfl,h1,h2,h4,h5,rfl⟩:=hk
  rename_i hr1
  (have hb:=trivial;with_reducible repeat' (first|simp only[hb,Vc.down,seval,awL.down,h1,h2,h4,h5]|refine Aq ?_ ?_<;>intro hb|refine fd ?_|fail))
  all_goals (refine congrArg (fun b=>(Gp.ret (AV.bool b),([]:Ab))) ?_;symm;simp only[qZ,nd];(try have q9:=hr1);simp_all<;>try (intro q7;exfalso;have:=of_decide_eq_true q7;omega))
 ·obtain⟨rfl,h2⟩:=hk
  rename_i hr1
  (have hb:=trivial;with_reducible repeat' (first|simp only[hb,Vc.down,seval,awL.down,h2]|refine Aq ?_ ?_<;>intro hb|refine fd ?_|fail))
  all_goals simp_all[qZ,nd]
def tW(a:Int):Int:=if IntKind.i64.wrap (a+1)<10 then IntKind.i64.wrap (a+1)else 10
def Ox(st ag bits com:Int):List Ap→Int × Int
 | []=>(st,tW ag)
 |x::l=>if qZ (nd x st ag bits com)=true then(x.to,0)else Ox st ag bits com l
theorem amC(m:Ad)(st ag bits com:Int)(hs:m.small)(h0:∀x∈m.moves,∀w∈x.wants,0≤w.vote):
 Dc.call (.fn 45) [.agg [Af 3 true m.nS (m.sens.map Bz.cells),Af 4 false m.nV (m.votes.map Aj.cells),Af 5 false m.nM (m.moves.map Ap.cells),.int .i64 m.states,.int .i64 m.cmds,.int .i64 m.bgn,Af 1 true m.nO (m.opn.map iv)],.agg [.int .i64 st,.int .i64 ag],.agg [.int .i64 bits,.int .i64 com]] []=some (.ret (.agg [.int .i64 (Ox st ag bits com m.moves).1,.int .i64 (Ox st ag bits com m.moves).2]),[]):=by
 (refine ce Try.func45 ?_;simp only[Try.f45];(have hb:=trivial;with_reducible repeat' (first|simp only[hb,Vc.down,seval,acU.down,acE]|refine Aq ?_ ?_<;>intro hb|refine fd ?_|fail)))
 refine Dl (Ss 32 m.moves (fun i (zz:Unit) t h=>t 4=.ptr 1 0 0∧t 5=.ptr 2 0 0∧t 6=.ptr 3 0 0∧t 10=Af 5 false m.nM (m.moves.map Ap.cells)∧t 11=.int .i64 m.moves.length∧t 12=.int .i64 i∧(h[1]?=some (.live 2 true false [[.int .i64 st,.int .i64 ag]])∧h[2]?=some (.live 2 true false [[.int .i64 bits,.int .i64 com]])∧h[3]?=some (.live 2 true false [[.int .i64 0,.int .i64 0]]))) (fun rest zz=>Ox st ag bits com rest) (fun r e t h=>(e=.exit 0∧t 4=.ptr 1 0 0∧t 6=.ptr 3 0 0∧h[1]?=some (.live 2 true false [[.int .i64 st,.int .i64 ag]])∧h[3]?=some (.live 2 true false [[.int .i64 0,.int .i64 0]])∧r=(st,tW ag))∨(e=.ret∧t 6=.ptr 3 0 0∧h[3]?=some (.live 2 true true [[.int .i64 r.1,.int .i64 r.2]]))) ?_ ?_ () _ _ ?_) (fun e t h hk=>?_)
 ·rintro _ t h Q' kQ ⟨h4,h5,h6,h10,h11,h12,⟨hA,hB,hC⟩⟩
  (have hb:=trivial;with_reducible repeat' (first|simp only[hb,Vc.down,seval,acU.down,h4,h5,h6,h10,h11,h12,acG,decide_false]|refine Aq ?_ ?_<;>intro hb|refine fd ?_|fail))
  exact kQ _ _ _ (.inl ⟨rfl,by simp[up,h4],by simp[up,h6],hA,hC,rfl⟩)
 ·rintro x rest i _ t h J Q' kJ kQ hx hi ⟨h4,h5,h6,h10,h11,h12,⟨hA,hB,hC⟩⟩
  have hd:decide ((i:Int)<(m.moves.length:Int))=true:=decide_eq_true (by omega)
  have hw:=Av hi hs.moves
  have hA1:=Ac hA
  have hB1:=Ac hB
  have hC1:=Ac hC
  have hap:=uF (nd x st ag bits com) (hs.ws x (acK hx)) (h0 x (acK hx))
  have h3l:3<h.length:=(aiK.1 hC).1
  generalize hq:qZ (nd x st ag bits com)=q at hap
  simp only[nd]at hap
  (have hb:=trivial;with_reducible repeat' (first|simp only[hb,Vc.down,seval,acU.down,h4,h5,h6,h10,h11,h12,hd,hx,hw,hA1,hB1,hC1,hap,Ap.cells,acE]|refine Aq ?_ ?_<;>intro hb|refine fd ?_|fail))
  ·exact kQ _ _ _ (.inr ⟨rfl,by simp[up,h6],by rw[ao3 (by simp;omega)];simp[Ox,hq,hb]⟩)
  ·(refine Ax (kJ _ _ () ⟨?_,?_,?_,?_,?_,?_,⟨hA1 _,hB1 _,hC1 _⟩⟩ ?_);(simp[up,h4]);(simp[up,h5]);(simp[up,h6]);(simp[up,h10]);(simp[up,h11]);(simp[up]);(simp[Ox,hq,hb]))
 ·exact⟨by simp[up,Eg],by simp[up,Eg],by simp[up,Eg],by simp[up,Eg],by simp[up,Eg],by simp[up],⟨rfl,rfl,rfl⟩⟩
 rcases hk with⟨rfl,h4,h6,hA,hC,hr⟩|⟨rfl,h6,hC⟩
 ·have hA1:=Ac hA
  have hC1:=Ac hC
  have h3l:3<h.length:=(aiK.1 hC).1
  have hset:∀c:CB,(h.set 3 c)[3]?=some c:=fun c=>ao3 h3l
  have hmt:(if IntKind.i64.wrap (ag+1)<10 then IntKind.i64.wrap (ag+1)else 10)=tW ag:=rfl
  rw[hr]
  (have hb:=trivial;with_reducible repeat' (first|simp only[hb,Vc.down,seval,acU.down,h4,h6,hA,hC,hA1,hC1,hset,hmt]|refine Aq ?_ ?_<;>intro hb|refine fd ?_|fail))
 ·(have hb:=trivial;with_reducible repeat' (first|simp only[hb,Vc.down,seval,acU.down,h6,hC]|refine Aq ?_ ?_<;>intro hb|refine fd ?_|fail))
theorem aeR{m:Ad}(h:Bh m=true):∀x∈m.moves,∀w∈x.wants,0≤w.vote∧w.vote.toNat<m.votes.length:=fun x hx w hw=>by
 simp only[Bh,Xd,acZ,decide_eq_true_eq,anC]at h
 have h2:=h.1.2 x hx
 simp only[Sj,acZ]at h2
 have h3:=h2.1.1.1.1.1
 have h6:m.votes.length≤6:=h.1.1.1.1.1.1.1.1.1.2
 have key:∀(l p:List Ao),Qa m.votes.length p l=true→w∈l→0≤w.vote∧w.vote.toNat<m.votes.length:=by
  intro l
  induction l with
  |nil=>intro p _ h;cases h
  |cons y l ih=>
   intro p h hm
   simp only[Qa,acZ]at h
   rcases List.mem_cons.1 hm with rfl|hm
   ·have:=h.1.1
    rw[Ed (by omega) (by omega)]at this
    simp[To]at this
    omega
   ·exact ih _ h.2 hm
 exact key x.wants [] h3 hw
def aj7(m:Ad)(st ag:Int)(s:Ii):Int × Int:=Ox st ag (Vq m s.reads m.votes 0 0) s.cmd m.moves
theorem auG{m:Ad}{l:List Int}(h:afZ m l=true):l.length=m.sens.length:=by
 simp only[afZ,acZ,beq_iff_eq]at h
 omega
theorem gY{m:Ad}(h:Bh m=true):m.votes.length≤6:=by
 simp only[Bh,Xd,acZ,decide_eq_true_eq]at h
 exact h.1.1.1.1.1.1.1.1.1.2
theorem bfX(m:Ad)(st ag:Int)(y:Ii)(hs:m.small)(hm:Bh m=true)(hr:afZ m y.reads=true):Dc.call (.fn 17) [.agg [Af 3 true m.nS (m.sens.map Bz.cells),Af 4 false m.nV (m.votes.map Aj.cells),Af 5 false m.nM (m.moves.map Ap.cells),.int .i64 m.states,.int .i64 m.cmds,.int .i64 m.bgn,Af 1 true m.nO (m.opn.map iv)],.int .i64 st,.int .i64 ag,.agg [Af 1 true y.nn (y.reads.map iv),.int .i64 y.cmd]] []=
 some (.ret (.tup [.int .i64 (aj7 m st ag y).1,.int .i64 (aj7 m st ag y).2]),[]):=by
 have h6:=gY hm
 have hV:=aAG m (l:=y.reads) (nn:=y.nn) (auG hr) hs h6 (rX hm)
 have hw0:=aeR hm
 have hbs:∀x∈m.moves,∀w∈x.wants,0≤w.vote∧(m.votes.map (fY m y.reads))[w.vote.toNat]?=some (Vv (Vq m y.reads m.votes 0 0) w.vote):=fun x hx w hw=>by
  obtain⟨a,b⟩:=hw0 x hx w hw
  refine⟨a,?_⟩
  rw[pV,anN _ (by simpa using h6) _ (by simpa using b)]
  congr 2;omega
 have hA:=fun(nn:Bool) x (hx:x∈m.moves)=>aq7 x st ag (Vq m y.reads m.votes 0 0) y.cmd (bs:=m.votes.map (fY m y.reads)) (nn:=nn) (hs.ws x hx) (hbs x hx)
 unfold aj7
 generalize Vq m y.reads m.votes 0 0=bits at hA
 clear hbs hw0
 have hmt:(if IntKind.i64.wrap (ag+1)<10 then IntKind.i64.wrap (ag+1)else 10)=tW ag:=rfl
 have htk:((m.votes.map (fY m y.reads)).map bv).take m.votes.length=(m.votes.map (fY m y.reads)).map bv:=List.take_of_length_le (by simp)
 by_cases hn:m.votes=[]
 ·have hV':=hV _ _ (fun _=>rfl) (fun h=>(h hn).elim)
  have hA:=hA false
  rw[hn]at hA;simp only[List.map_nil,aBF]at hA
  (refine ce Try.func17 ?_;simp only[Try.f17];(have hb:=trivial;with_reducible repeat' (first|simp only[hb,Vc.down,seval,acM.down,hV',acE]|refine Aq ?_ ?_<;>intro hb|refine fd ?_|fail)))
  refine Dl (Ss 44 m.moves (fun i (zz:Unit) t h=>t 1=.int .i64 st∧t 2=.int .i64 ag∧t 4=.ptr 0 0 0∧t 7=.ptr 1 0 0∧t 10=.nils∧t 11=.int .i64 i∧(h=[.live 7 false false [[Af 3 true m.nS (m.sens.map Bz.cells),Af 4 false m.nV (m.votes.map Aj.cells),Af 5 false m.nM (m.moves.map Ap.cells),.int .i64 m.states,.int .i64 m.cmds,.int .i64 m.bgn,Af 1 true m.nO (m.opn.map iv)]],.live 2 false false [[Af 1 true y.nn (y.reads.map iv),.int .i64 y.cmd]]])) (fun rest zz=>Ox st ag bits y.cmd rest) (fun r e t h=>(e=.exit 0∧t 1=.int .i64 st∧t 2=.int .i64 ag∧r=(st,tW ag))∨(e=.ret∧t 8=.int .i64 r.1∧t 9=.int .i64 r.2)) ?_ ?_ () _ _ ?_) (fun e t h hk=>?_)
  ·rintro _ t h Q' kQ ⟨h1,h2,h4,h7,h10,h11,rfl⟩
   (have hb:=trivial;with_reducible repeat' (first|simp only[hb,Vc.down,seval,acM.down,h1,h2,h4,h7,h10,h11,acG,decide_false,acE]|refine Aq ?_ ?_<;>intro hb|refine fd ?_|fail))
   exact kQ _ _ _ (.inl ⟨rfl,by simp[up,h1],by simp[up,h2],rfl⟩)
  ·rintro x rest i _ t h J Q' kJ kQ hx hi ⟨h1,h2,h4,h7,h10,h11,rfl⟩
   have hd:decide ((i:Int)<(m.moves.length:Int))=true:=decide_eq_true (by omega)
   have hw:=Av hi hs.moves
   have hap:=hA x (acK hx)
   generalize hq:qZ (nd x st ag bits y.cmd)=q at hap
   (have hb:=trivial;with_reducible repeat' (first|simp only[hb,Vc.down,seval,acM.down,h1,h2,h4,h7,h10,h11,hd,hx,hw,hap,htk,Ap.cells,acE]|refine Aq ?_ ?_<;>intro hb|refine fd ?_|fail))
   ·exact kQ _ _ _ (.inr ⟨rfl,by simp[up,Ox,hq,hb],by simp[up,Ox,hq,hb]⟩)
   ·(refine Ax (kJ _ _ () ⟨?_,?_,?_,?_,?_,?_,rfl⟩ ?_);(simp[up,h1]);(simp[up,h2]);(simp[up,h4]);(simp[up,h7]);(simp[up,h10]);(simp[up]);(simp[Ox,hq,hb]))
  ·exact⟨by simp[up,Eg],by simp[up,Eg],by simp[up,Eg],by simp[up,Eg],by simp[up,Eg],by simp[up],rfl⟩
  rcases hk with⟨rfl,h1,h2,hr⟩|⟨rfl,h8,h9⟩
  ·rw[hr]
   (have hb:=trivial;with_reducible repeat' (first|simp only[hb,Vc.down,seval,acM.down,h1,h2,hmt]|refine Aq ?_ ?_<;>intro hb|refine fd ?_|fail))
  ·(have hb:=trivial;with_reducible repeat' (first|simp only[hb,Vc.down,seval,acM.down,h8,h9]|refine Aq ?_ ?_<;>intro hb|refine fd ?_|fail))
 ·have hV':=hV _ _ (fun h=>(hn h).elim) (fun _=>rfl)
  have hA:=hA true
  simp only[Wv]at hA
  (refine ce Try.func17 ?_;simp only[Try.f17];(have hb:=trivial;with_reducible repeat' (first|simp only[hb,Vc.down,seval,acM.down,hV',acE]|refine Aq ?_ ?_<;>intro hb|refine fd ?_|fail)))
  refine Dl (Ss 44 m.moves (fun i (zz:Unit) t h=>t 1=.int .i64 st∧t 2=.int .i64 ag∧t 4=.ptr 0 0 0∧t 7=.ptr 1 0 0∧t 10=.slr 1 2 0 m.votes.length∧t 11=.int .i64 i∧(h=[.live 7 false false [[Af 3 true m.nS (m.sens.map Bz.cells),Af 4 false m.nV (m.votes.map Aj.cells),Af 5 false m.nM (m.moves.map Ap.cells),.int .i64 m.states,.int .i64 m.cmds,.int .i64 m.bgn,Af 1 true m.nO (m.opn.map iv)]],.live 2 false false [[Af 1 true y.nn (y.reads.map iv),.int .i64 y.cmd]],.live 1 true false ((m.votes.map (fY m y.reads)).map bv)])) (fun rest zz=>Ox st ag bits y.cmd rest) (fun r e t h=>(e=.exit 0∧t 1=.int .i64 st∧t 2=.int .i64 ag∧r=(st,tW ag))∨(e=.ret∧t 8=.int .i64 r.1∧t 9=.int .i64 r.2)) ?_ ?_ () _ _ ?_) (fun e t h hk=>?_)
  ·rintro _ t h Q' kQ ⟨h1,h2,h4,h7,h10,h11,rfl⟩
   (have hb:=trivial;with_reducible repeat' (first|simp only[hb,Vc.down,seval,acM.down,h1,h2,h4,h7,h10,h11,acG,decide_false,acE]|refine Aq ?_ ?_<;>intro hb|refine fd ?_|fail))
   exact kQ _ _ _ (.inl ⟨rfl,by simp[up,h1],by simp[up,h2],rfl⟩)
  ·rintro x rest i _ t h J Q' kJ kQ hx hi ⟨h1,h2,h4,h7,h10,h11,rfl⟩
   have hd:decide ((i:Int)<(m.moves.length:Int))=true:=decide_eq_true (by omega)
   have hw:=Av hi hs.moves
   have hap:=hA x (acK hx)
   generalize hq:qZ (nd x st ag bits y.cmd)=q at hap
   (have hb:=trivial;with_reducible repeat' (first|simp only[hb,Vc.down,seval,acM.down,h1,h2,h4,h7,h10,h11,hd,hx,hw,hap,htk,Ap.cells,acE]|refine Aq ?_ ?_<;>intro hb|refine fd ?_|fail))
   ·exact kQ _ _ _ (.inr ⟨rfl,by simp[up,Ox,hq,hb],by simp[up,Ox,hq,hb]⟩)
   ·(refine Ax (kJ _ _ () ⟨?_,?_,?_,?_,?_,?_,rfl⟩ ?_);(simp[up,h1]);(simp[up,h2]);(simp[up,h4]);(simp[up,h7]);(simp[up,h10]);(simp[up]);(simp[Ox,hq,hb]))
  ·exact⟨by simp[up,Eg],by simp[up,Eg],by simp[up,Eg],by simp[up,Eg],by simp[up,Eg],by simp[up],rfl⟩
  rcases hk with⟨rfl,h1,h2,hr⟩|⟨rfl,h8,h9⟩
  ·rw[hr]
   (have hb:=trivial;with_reducible repeat' (first|simp only[hb,Vc.down,seval,acM.down,h1,h2,hmt]|refine Aq ?_ ?_<;>intro hb|refine fd ?_|fail))
  ·(have hb:=trivial;with_reducible repeat' (first|simp only[hb,Vc.down,seval,acM.down,h8,h9]|refine Aq ?_ ?_<;>intro hb|refine fd ?_|fail))
def tK(m:Ad):Bool:=m.votes.all (fun v=>decide (v.sens.length≤10))&&m.moves.all (fun x=>decide (x.wants.length≤10))&&decide (m.sens.length≤10)&&decide (m.votes.length≤10)&&decide (m.moves.length≤30)&&decide (m.opn.length≤20)
theorem a2Z(m:Ad)(hs:m.small):Dc.call (.fn 12) [.agg [Af 3 true m.nS (m.sens.map Bz.cells),Af 4 false m.nV (m.votes.map Aj.cells),Af 5 false m.nM (m.moves.map Ap.cells),.int .i64 m.states,.int .i64 m.cmds,.int .i64 m.bgn,Af 1 true m.nO (m.opn.map iv)]] []=some (.ret (.bool (tK m)),[]):=by
 have l1:decide ((m.sens.length:Int)≤10)=decide (m.sens.length≤10):=by rw[decide_eq_decide];omega
 have l2:decide ((m.votes.length:Int)≤10)=decide (m.votes.length≤10):=by rw[decide_eq_decide];omega
 have l3:decide ((m.moves.length:Int)≤30)=decide (m.moves.length≤30):=by rw[decide_eq_decide];omega
 have l4:decide ((m.opn.length:Int)≤20)=decide (m.opn.length≤20):=by rw[decide_eq_decide];omega
 (refine ce Try.func12 ?_;simp only[Try.f12];(have hb:=trivial;with_reducible repeat' (first|simp only[hb,Vc.down,seval,zP.down,acE]|refine Aq ?_ ?_<;>intro hb|refine fd ?_|fail)))
 refine Dl (Ss 57 m.votes (fun i (zz:Unit) t h=>t 1=.ptr 0 0 0∧t 3=.int .i64 i∧(h=[.live 7 false false [[Af 3 true m.nS (m.sens.map Bz.cells),Af 4 false m.nV (m.votes.map Aj.cells),Af 5 false m.nM (m.moves.map Ap.cells),.int .i64 m.states,.int .i64 m.cmds,.int .i64 m.bgn,Af 1 true m.nO (m.opn.map iv)]]])) (fun rest zz=>rest.all (fun v=>decide (v.sens.length≤10))) (fun r e t h=>(if r=true then e=.exit 0∧t 1=.ptr 0 0 0∧h=[.live 7 false false [[Af 3 true m.nS (m.sens.map Bz.cells),Af 4 false m.nV (m.votes.map Aj.cells),Af 5 false m.nM (m.moves.map Ap.cells),.int .i64 m.states,.int .i64 m.cmds,.int .i64 m.bgn,Af 1 true m.nO (m.opn.map iv)]]]else e=.ret∧t 2=.bool false)) ?_ ?_ () _ _ ?_) (fun e t h hk=>?_)
 ·rintro _ t h Q' kQ ⟨h1,h3,rfl⟩
  (have hb:=trivial;with_reducible repeat' (first|simp only[hb,Vc.down,seval,zP.down,h1,h3,acG,decide_false,acE]|refine Aq ?_ ?_<;>intro hb|refine fd ?_|fail))
  exact kQ _ _ _ (by rw[if_pos (by rfl)];exact⟨rfl,by simp[up,h1],rfl⟩)
 ·rintro x rest i _ t h J Q' kJ kQ hx hi ⟨h1,h3,rfl⟩
  have hd:decide ((i:Int)<(m.votes.length:Int))=true:=decide_eq_true (by omega)
  have hw:=Av hi hs.votes
  have lx:decide ((10:Int)<(x.sens.length:Int))= !decide (x.sens.length≤10):=by rw[←decide_not,decide_eq_decide];omega
  cases c1:decide (x.sens.length≤10)with
  |false=>
   (have hb:=trivial;with_reducible repeat' (first|simp only[hb,Vc.down,seval,zP.down,h1,h3,hd,hx,hw,lx,c1,Aj.cells,acE]|refine Aq ?_ ?_<;>intro hb|refine fd ?_|fail))
   exact kQ _ _ _ (by rw[if_neg (by simp only[ahZ,c1,aiI];simp)];exact⟨rfl,by simp[up]⟩)
  |true=>
   (have hb:=trivial;with_reducible repeat' (first|simp only[hb,Vc.down,seval,zP.down,h1,h3,hd,hx,hw,lx,c1,Aj.cells,acE]|refine Aq ?_ ?_<;>intro hb|refine fd ?_|fail))
   (refine Ax (kJ _ _ () ⟨?_,?_,rfl⟩ ?_);(simp[up,h1]);(simp[up]);(simp only[ahZ,c1,aiH]))
 ·exact⟨by simp[up,Eg],by simp[up],rfl⟩
 split at hk
 rotate_left
 ·obtain⟨rfl,h2⟩:=hk
  rename_i hr1
  (have hb:=trivial;with_reducible repeat' (first|simp only[hb,Vc.down,seval,zP.down,h2]|refine Aq ?_ ?_<;>intro hb|refine fd ?_|fail))
  all_goals simp[tK,adD.2 hr1]
 obtain⟨rfl,h1,rfl⟩:=hk
 rename_i hr1
 (have hb:=trivial;with_reducible repeat' (first|simp only[hb,Vc.down,seval,zP.down,h1,acE]|refine Aq ?_ ?_<;>intro hb|refine fd ?_|fail))
 refine Dl (Ss 57 m.moves (fun i (zz:Unit) t h=>t 1=.ptr 0 0 0∧t 4=.int .i64 i∧(h=[.live 7 false false [[Af 3 true m.nS (m.sens.map Bz.cells),Af 4 false m.nV (m.votes.map Aj.cells),Af 5 false m.nM (m.moves.map Ap.cells),.int .i64 m.states,.int .i64 m.cmds,.int .i64 m.bgn,Af 1 true m.nO (m.opn.map iv)]]])) (fun rest zz=>rest.all (fun x=>decide (x.wants.length≤10))) (fun r e t h=>(if r=true then e=.exit 2∧t 1=.ptr 0 0 0∧h=[.live 7 false false [[Af 3 true m.nS (m.sens.map Bz.cells),Af 4 false m.nV (m.votes.map Aj.cells),Af 5 false m.nM (m.moves.map Ap.cells),.int .i64 m.states,.int .i64 m.cmds,.int .i64 m.bgn,Af 1 true m.nO (m.opn.map iv)]]]else e=.ret∧t 2=.bool false)) ?_ ?_ () _ _ ?_) (fun e t h hk=>?_)
 ·rintro _ t h Q' kQ ⟨h1,h4,rfl⟩
  (have hb:=trivial;with_reducible repeat' (first|simp only[hb,Vc.down,seval,zP.down,h1,h4,acG,decide_false,acE]|refine Aq ?_ ?_<;>intro hb|refine fd ?_|fail))
  exact kQ _ _ _ (by rw[if_pos (by rfl)];exact⟨rfl,by simp[up,h1],rfl⟩)
 ·rintro x rest i _ t h J Q' kJ kQ hx hi ⟨h1,h4,rfl⟩
  have hd:decide ((i:Int)<(m.moves.length:Int))=true:=decide_eq_true (by omega)
  have hw:=Av hi hs.moves
  have lx:decide ((10:Int)<(x.wants.length:Int))= !decide (x.wants.length≤10):=by rw[←decide_not,decide_eq_decide];omega
  cases c1:decide (x.wants.length≤10)with
  |false=>
   (have hb:=trivial;with_reducible repeat' (first|simp only[hb,Vc.down,seval,zP.down,h1,h4,hd,hx,hw,lx,c1,Ap.cells,acE]|refine Aq ?_ ?_<;>intro hb|refine fd ?_|fail))
   exact kQ _ _ _ (by rw[if_neg (by simp only[ahZ,c1,aiI];simp)];exact⟨rfl,by simp[up]⟩)
  |true=>
   (have hb:=trivial;with_reducible repeat' (first|simp only[hb,Vc.down,seval,zP.down,h1,h4,hd,hx,hw,lx,c1,Ap.cells,acE]|refine Aq ?_ ?_<;>intro hb|refine fd ?_|fail))
   (refine Ax (kJ _ _ () ⟨?_,?_,rfl⟩ ?_);(simp[up,h1]);(simp[up]);(simp only[ahZ,c1,aiH]))
 ·exact⟨by simp[up,Eg,h1],by simp[up],rfl⟩
 split at hk
 rotate_left
 ·obtain⟨rfl,h2⟩:=hk
  rename_i hr2
  (have hb:=trivial;with_reducible repeat' (first|simp only[hb,Vc.down,seval,zP.down,h2]|refine Aq ?_ ?_<;>intro hb|refine fd ?_|fail))
  all_goals simp[tK,adD.2 hr2]
 obtain⟨rfl,h1,rfl⟩:=hk
 rename_i hr2
 (have hb:=trivial;with_reducible repeat' (first|simp only[hb,Vc.down,seval,zP.down,h1,acE,l1,l2,l3,l4]|refine Aq ?_ ?_<;>intro hb|refine fd ?_|fail))
 all_goals (refine congrArg (fun b=>(Gp.ret (AV.bool b),([]:Ab))) ?_;symm;((try simp only[an5,ah3,aiC]at *);simp only[tK, *,aoC,aiI,al5,aiH,Bool.and_self,Bool.not_not,ah3,aiC,ahZ,List.all_nil]))
theorem aBI{l:List Int}{nn:Bool}(k:Int)(hl:l.length≤maxLen):Dc.call (.fn 80) [Af 1 true nn (l.map iv),.int .i64 k] []=some (.ret (.int .i64 (dT (fun x=>k==x) l 0)),[]):=by
 (refine ce Try.func80 ?_;simp only[Try.f80];(have hb:=trivial;with_reducible repeat' (first|simp only[hb,Vc.down,seval,ayB.down,acE]|refine Aq ?_ ?_<;>intro hb|refine fd ?_|fail)))
 refine Dl (Ss 19 l (fun i (s:Int) t h=>s=i∧h=[]∧t 0=Af 1 true nn (l.map iv)∧t 1=.int .i64 k∧t 7=.int .i64 l.length∧t 8=.int .i64 i)
  (fun rest s=>dT (fun x=>k==x) rest s) (fun r e t h=>h=[]∧((e=.exit 0∧r= -1)∨(e=.ret∧t 4=.int .i64 r))) ?_ ?_ 0 _ _ ?_) (fun e t h hk=>?_)
 ·rintro s t h Q' kQ ⟨rfl,rfl,h0,h1,h7,h8⟩
  (have hb:=trivial;with_reducible repeat' (first|simp only[hb,Vc.down,seval,ayB.down,h0,h1,h7,h8,acG,decide_false]|refine Aq ?_ ?_<;>intro hb|refine fd ?_|fail))
  exact kQ _ _ _ ⟨rfl,.inl ⟨rfl,rfl⟩⟩
 ·rintro x rest i s t h J Q' kJ kQ hx hi ⟨rfl,rfl,h0,h1,h7,h8⟩
  have hd:decide ((i:Int)<(l.length:Int))=true:=by simpa using hi
  (have hb:=trivial;with_reducible repeat' (first|simp only[hb,Vc.down,seval,ayB.down,h0,h1,h7,h8,hd,hx,iv,Av hi hl]|refine Aq ?_ ?_<;>intro hb|refine fd ?_|fail))
  ·exact kQ _ _ _ ⟨rfl,.inr ⟨rfl,by simp only[dT,up];rw[if_pos hb];rfl⟩⟩
  ·exact Ax (kJ _ _ (i+1) ⟨by simp,rfl,by simp[up,h0],by simp[up,h1],by simp[up,h7],by simp[up]⟩ (by simp only[dT];rw[if_neg (by rw[hb];simp)]))
 ·exact⟨rfl,rfl,by simp[up,Eg],by simp[up,Eg],by simp[up],by simp[up]⟩
 ·obtain⟨rfl,⟨rfl,hi⟩|⟨rfl,hi⟩⟩:=hk
  ·(have hb:=trivial;with_reducible repeat' (first|simp only[hb,Vc.down,seval,ayB.down]|refine Aq ?_ ?_<;>intro hb|refine fd ?_|fail))
   rw[hi]
  ·(have hb:=trivial;with_reducible repeat' (first|simp only[hb,Vc.down,seval,ayB.down,hi]|refine Aq ?_ ?_<;>intro hb|refine fd ?_|fail))
theorem amY{l:List Int}{nn:Bool}(k:Int)(hl:l.length≤maxLen):Dc.call (.fn 57) [Af 1 true nn (l.map iv),.int .i64 k] []=some (.ret (.bool (l.any fun x=>k==x)),[]):=by
 have h1:=aBI (l:=l) (nn:=nn) k hl
 have h2:=Ur (fun x=>k==x) l 0 (al3 0)
 (refine ce Try.func57 ?_;simp only[Try.f57];(have hb:=trivial;with_reducible repeat' (first|simp only[hb,Vc.down,seval,h1,h2]|refine Aq ?_ ?_<;>intro hb|refine fd ?_|fail)))
def nD(k:Int)(s:Bz)(r:Int)(vs:List Aj):List Bool:=vs.map fun v=>(v.sens.any fun x=>k==x)&&Qk s v r
def Vy(k:Int)(s:Bz)(r:Int)(vs:List Aj):Int:=Yy (nD k s r vs) 0 0
end Go.Proofs.Ytfkokgjfpojeoaa
