/- The functions of the layer, walked. -/
import Derived.Test.YtfkokgjfpojeoaaPartAA
import Derived.Test.YtfkokgjfpojeoaaLibD
import Derived.Test.YtfkokgjfpojeoaaLibE
import Derived.Test.YtfkokgjfpojeoaaLibF
import Derived.Test.YtfkokgjfpojeoaaRows
import Derived.Test.YtfkokgjfpojeoaaShelf
import Derived.ProofKit
import Derived.LaidMore
import Derived.OpenShut
open List renaming length_map→aaA,mem_of_getElem?→aa0,mem_cons→acI,not_mem_nil→acM,getElem?_eq_getElem→adV,all_eq_true→ae4,contains_cons→af4,contains_nil→af5,all_eq_not_any_not→af7,getElem?_eq_some_iff→agA,getElem?_set_self→ai2
open Int renaming lt_irrefl→aaK,le_refl→aa3,natCast_zero→ajM
open Option renaming bind_eq_some_iff→aa9,map_eq_some_iff→abO
open Bool renaming and_eq_true→acY,or_false→af6,not_true→af8,not_false→af9,false_and→agB,eq_false_iff→aiO
open Eq renaming trans→ae2
open And renaming intro→ae7
open Nat renaming ble→afR,add_sub_cancel→aj8
set_option linter.unusedSimpArgs false
set_option linter.unusedVariables false
namespace Go.Proofs.Ytfkokgjfpojeoaa.Ko
open Go.Ev Go
set_option maxRecDepth 100000
set_option maxHeartbeats 16000000
def dA(s:Ba):Bool:=Kw s.lo&&Kw s.hi&& !decide (s.hi<s.lo)
def Lj(m:Ac):Bool:=decide (m.sens.length≤6)&&decide (m.votes.length≤6)&&decide (m.moves.length≤20)&&Ie m.states 1 8&&Ie m.cmds 0 4&&Ie m.bgn 0 (IntKind.i64.wrap (m.states-1))&&((m.opn.length:Int)==m.states)
def Be(m:Ac):Bool:=Lj m&&m.sens.all dA&&m.votes.all (Qo m.sens.length)&&m.moves.all (Is m)&&m.opn.all (fun n=>Ie n 0 255)
theorem kC(m:Ac)(x:Ai)(hl:x.wants.length≤maxLen):Bh.call (.fn 71) [.agg [.int .i64 x.frm,.int .i64 x.to,Ad 2 true x.nn (x.wants.map Aj.cells),.int .i64 x.cmd,.int .i64 x.after],.ptr 0 0 0] [.live 7 false false [[Ad 3 true m.nS (m.sens.map Ba.cells),Ad 4 false m.nV (m.votes.map Ag.cells),Ad 5 false m.nM (m.moves.map Ai.cells),.int .i64 m.states,.int .i64 m.cmds,.int .i64 m.bgn,Ad 1 true m.nO (m.opn.map iv)]]]=some (.ret (.bool (!Is m x)),[.live 7 false false [[Ad 3 true m.nS (m.sens.map Ba.cells),Ad 4 false m.nV (m.votes.map Ag.cells),Ad 5 false m.nM (m.moves.map Ai.cells),.int .i64 m.states,.int .i64 m.cmds,.int .i64 m.bgn,Ad 1 true m.nO (m.opn.map iv)]]]):=by
 have hm:=yB m x hl
 (refine ce Try.func71 ?_;simp only[Try.f71];(have hb:=trivial;with_reducible repeat' (first|simp only[hb,Vc.down,seval,axP.down,hm]|refine An ?_ ?_<;>intro hb|refine fd ?_|fail)))
theorem eB{l:List Ai}{nn:Bool}{g:Nat}{mm:Ac}{p:Ai→Bool}(hp:∀x∈l,Bh.call (.fn g) (.agg [.int .i64 x.frm,.int .i64 x.to,Ad 2 true x.nn (x.wants.map Aj.cells),.int .i64 x.cmd,.int .i64 x.after]::[.ptr 0 0 0]) [.live 7 false false [[Ad 3 true mm.nS (mm.sens.map Ba.cells),Ad 4 false mm.nV (mm.votes.map Ag.cells),Ad 5 false mm.nM (mm.moves.map Ai.cells),.int .i64 mm.states,.int .i64 mm.cmds,.int .i64 mm.bgn,Ad 1 true mm.nO (mm.opn.map iv)]]]=some (.ret (.bool (p x)),[.live 7 false false [[Ad 3 true mm.nS (mm.sens.map Ba.cells),Ad 4 false mm.nV (mm.votes.map Ag.cells),Ad 5 false mm.nM (mm.moves.map Ai.cells),.int .i64 mm.states,.int .i64 mm.cmds,.int .i64 mm.bgn,Ad 1 true mm.nO (mm.opn.map iv)]]]))(hl:l.length≤maxLen)(hgm:Bh.md g=false:=by exact rfl):
 Bh.call (.fn 88) [Ad 5 false nn (l.map Ai.cells),.func (.func g) [] [.ptr 0 0 0]] [.live 7 false false [[Ad 3 true mm.nS (mm.sens.map Ba.cells),Ad 4 false mm.nV (mm.votes.map Ag.cells),Ad 5 false mm.nM (mm.moves.map Ai.cells),.int .i64 mm.states,.int .i64 mm.cmds,.int .i64 mm.bgn,Ad 1 true mm.nO (mm.opn.map iv)]]]=some (.ret (.int .i64 (Rx p l 0)),[.live 7 false false [[Ad 3 true mm.nS (mm.sens.map Ba.cells),Ad 4 false mm.nV (mm.votes.map Ag.cells),Ad 5 false mm.nM (mm.moves.map Ai.cells),.int .i64 mm.states,.int .i64 mm.cmds,.int .i64 mm.bgn,Ad 1 true mm.nO (mm.opn.map iv)]]]):=by
 (refine ce Try.func88 ?_;simp only[Try.f88];(have hb:=trivial;with_reducible repeat' (first|simp only[hb,Vc.down,seval,lX.down,aaA]|refine An ?_ ?_<;>intro hb|refine fd ?_|fail)))
 refine Ci (Lp 19 l (fun i (s:Int) t h=>s=i∧h=[.live 7 false false [[Ad 3 true mm.nS (mm.sens.map Ba.cells),Ad 4 false mm.nV (mm.votes.map Ag.cells),Ad 5 false mm.nM (mm.moves.map Ai.cells),.int .i64 mm.states,.int .i64 mm.cmds,.int .i64 mm.bgn,Ad 1 true mm.nO (mm.opn.map iv)]]]∧t 0=Ad 5 false nn (l.map Ai.cells)∧t 1=.func (.func g) [] [.ptr 0 0 0]∧t 7=.int .i64 l.length∧t 8=.int .i64 i)
  (fun rest s=>Rx p rest s) (fun r e t h=>h=[.live 7 false false [[Ad 3 true mm.nS (mm.sens.map Ba.cells),Ad 4 false mm.nV (mm.votes.map Ag.cells),Ad 5 false mm.nM (mm.moves.map Ai.cells),.int .i64 mm.states,.int .i64 mm.cmds,.int .i64 mm.bgn,Ad 1 true mm.nO (mm.opn.map iv)]]]∧((e=.exit 0∧r= -1)∨(e=.ret∧t 4=.int .i64 r))) ?_ ?_ 0 _ _ ?_) (fun e t h hk=>?_)
 ·rintro s t h Q' kQ ⟨rfl,rfl,h0,h1,h7,h8⟩
  (have hb:=trivial;with_reducible repeat' (first|simp only[hb,Vc.down,seval,lX.down,h0,h1,h7,h8,aaK,decide_false]|refine An ?_ ?_<;>intro hb|refine fd ?_|fail))
  exact kQ _ _ _ ⟨rfl,.inl ⟨rfl,rfl⟩⟩
 ·rintro x rest i s t h J Q' kJ kQ hx hi ⟨rfl,rfl,h0,h1,h7,h8⟩
  have hgm2:=hgm
  simp only[Vp,af4,af5,af6]at hgm2
  have hpx:=hp x (aa0 hx)
  have hd:decide ((i:Int)<(l.length:Int))=true:=by simpa using hi
  (have hb:=trivial;with_reducible repeat' (first|simp only[hb,Vc.down,seval,lX.down,h0,h1,h7,h8,hd,hx,Ai.cells,hpx,hgm2,Aq hi hl]|refine An ?_ ?_<;>intro hb|refine fd ?_|fail))
  ·exact kQ _ _ _ ⟨rfl,.inr ⟨rfl,by simp[up,Rx,hb]⟩⟩
  ·exact Av (kJ _ _ (i+1) ⟨by simp,rfl,by simp[up,h0],by simp[up,h1],by simp[up,h7],by simp[up]⟩ (by simp[Rx,hb]))
 ·exact⟨rfl,rfl,by simp[up,Cj],by simp[up,Cj],by simp[up],by simp[up]⟩
 ·obtain⟨rfl,⟨rfl,hi⟩|⟨rfl,hi⟩⟩:=hk
  ·(have hb:=trivial;with_reducible repeat' (first|simp only[hb,Vc.down,seval,lX.down]|refine An ?_ ?_<;>intro hb|refine fd ?_|fail))
   rw[hi]
  ·(have hb:=trivial;with_reducible repeat' (first|simp only[hb,Vc.down,seval,lX.down,hi]|refine An ?_ ?_<;>intro hb|refine fd ?_|fail))
theorem aA{l:List Ai}{nn:Bool}{g:Nat}{mm:Ac}{p:Ai→Bool}(hp:∀x∈l,Bh.call (.fn g) (.agg [.int .i64 x.frm,.int .i64 x.to,Ad 2 true x.nn (x.wants.map Aj.cells),.int .i64 x.cmd,.int .i64 x.after]::[.ptr 0 0 0]) [.live 7 false false [[Ad 3 true mm.nS (mm.sens.map Ba.cells),Ad 4 false mm.nV (mm.votes.map Ag.cells),Ad 5 false mm.nM (mm.moves.map Ai.cells),.int .i64 mm.states,.int .i64 mm.cmds,.int .i64 mm.bgn,Ad 1 true mm.nO (mm.opn.map iv)]]]=some (.ret (.bool (p x)),[.live 7 false false [[Ad 3 true mm.nS (mm.sens.map Ba.cells),Ad 4 false mm.nV (mm.votes.map Ag.cells),Ad 5 false mm.nM (mm.moves.map Ai.cells),.int .i64 mm.states,.int .i64 mm.cmds,.int .i64 mm.bgn,Ad 1 true mm.nO (mm.opn.map iv)]]]))(hl:l.length≤maxLen)(hgm:Bh.md g=false:=by exact rfl):
 Bh.call (.fn 70) [Ad 5 false nn (l.map Ai.cells),.func (.func g) [] [.ptr 0 0 0]] [.live 7 false false [[Ad 3 true mm.nS (mm.sens.map Ba.cells),Ad 4 false mm.nV (mm.votes.map Ag.cells),Ad 5 false mm.nM (mm.moves.map Ai.cells),.int .i64 mm.states,.int .i64 mm.cmds,.int .i64 mm.bgn,Ad 1 true mm.nO (mm.opn.map iv)]]]=some (.ret (.bool (l.any p)),[.live 7 false false [[Ad 3 true mm.nS (mm.sens.map Ba.cells),Ad 4 false mm.nV (mm.votes.map Ag.cells),Ad 5 false mm.nM (mm.moves.map Ai.cells),.int .i64 mm.states,.int .i64 mm.cmds,.int .i64 mm.bgn,Ad 1 true mm.nO (mm.opn.map iv)]]]):=by
 (refine ce Try.func70 ?_;simp only[Try.f70];(have hb:=trivial;with_reducible repeat' (first|simp only[hb,Vc.down,seval,eB hp hl hgm,Jl p l 0 (aa3 0)]|refine An ?_ ?_<;>intro hb|refine fd ?_|fail)))
theorem bL(m:Ac)(hs:m.small):Bh.call (.fn 42) [.agg [Ad 3 true m.nS (m.sens.map Ba.cells),Ad 4 false m.nV (m.votes.map Ag.cells),Ad 5 false m.nM (m.moves.map Ai.cells),.int .i64 m.states,.int .i64 m.cmds,.int .i64 m.bgn,Ad 1 true m.nO (m.opn.map iv)]] []=some (.ret (.bool (Be m)),[]):=by
 have l1:decide ((6:Int)<(m.sens.length:Int))= !decide (m.sens.length≤6):=by rw[←decide_not,decide_eq_decide];omega
 have l2:decide ((6:Int)<(m.votes.length:Int))= !decide (m.votes.length≤6):=by rw[←decide_not,decide_eq_decide];omega
 have l3:decide ((20:Int)<(m.moves.length:Int))= !decide (m.moves.length≤20):=by rw[←decide_not,decide_eq_decide];omega
 cases hp:Lj m with
 |false=>
  have hp':Be m=false:=by simp[Be,hp]
  rw[hp']
  (refine ce Try.func42 ?_;simp only[Try.f42];(have hb:=trivial;with_reducible repeat' (first|simp only[hb,Vc.down,seval,Ta.down,aaA,Nj,l1,l2,l3]|refine An ?_ ?_<;>intro hb|refine fd ?_|fail)))
  all_goals first
   |rfl
   |(exfalso;simp_all[Lj];done)
 |true=>
  have hp':=hp
  simp only[Lj,acY]at hp'
  obtain⟨⟨⟨⟨⟨⟨p1,p2⟩,p3⟩,p4⟩,p5⟩,p6⟩,p7⟩:=hp'
  (refine ce Try.func42 ?_;simp only[Try.f42];(have hb:=trivial;with_reducible repeat' (first|simp only[hb,Vc.down,seval,Ta.down,aaA,Nj,l1,l2,l3,p1,p2,p3,p4,p5,p6,p7]|refine An ?_ ?_<;>intro hb|refine fd ?_|fail)))
  refine Ci (Lp 118 m.sens (fun i (zz:Unit) t h=>t 1=.ptr 0 0 0∧t 53=Ad 3 true m.nS (m.sens.map Ba.cells)∧t 54=.int .i64 m.sens.length∧t 55=.int .i64 i∧(h[0]?=some (.live 7 false false [[Ad 3 true m.nS (m.sens.map Ba.cells),Ad 4 false m.nV (m.votes.map Ag.cells),Ad 5 false m.nM (m.moves.map Ai.cells),.int .i64 m.states,.int .i64 m.cmds,.int .i64 m.bgn,Ad 1 true m.nO (m.opn.map iv)]]))) (fun rest zz=>rest.all dA) (fun r e t h=>(if r=true then e=.exit 0∧t 1=.ptr 0 0 0∧h[0]?=some (.live 7 false false [[Ad 3 true m.nS (m.sens.map Ba.cells),Ad 4 false m.nV (m.votes.map Ag.cells),Ad 5 false m.nM (m.moves.map Ai.cells),.int .i64 m.states,.int .i64 m.cmds,.int .i64 m.bgn,Ad 1 true m.nO (m.opn.map iv)]])else e=.ret∧t 2=.bool false)) ?_ ?_ () _ _ ?_) (fun e t h hk=>?_)
  ·rintro _ t h Q' kQ ⟨h1,h53,h54,h55,hA⟩
   (have hb:=trivial;with_reducible repeat' (first|simp only[hb,Vc.down,seval,Ta.down,h1,h53,h54,h55,aaK,decide_false]|refine An ?_ ?_<;>intro hb|refine fd ?_|fail))
   exact kQ _ _ _ (by rw[if_pos (by rfl)];exact⟨rfl,by simp[up,h1],hA⟩)
  ·rintro x rest i _ t h J Q' kJ kQ hx hi ⟨h1,h53,h54,h55,hA⟩
   have hd:decide ((i:Int)<(m.sens.length:Int))=true:=decide_eq_true (by omega)
   have hw:=Aq hi hs.sens
   have hA1:=Ab hA
   (have hb:=trivial;with_reducible repeat' (first|simp only[hb,Vc.down,seval,Ta.down,h1,h53,h54,h55,hd,hx,hw,Vj,Ba.cells,aaA]|refine An ?_ ?_<;>intro hb|refine fd ?_|fail))
   all_goals first
    |exact kQ _ _ _ (by rw[if_neg (by simp_all[dA])];exact⟨rfl,by simp[up]⟩)
    |(refine Av (kJ _ _ () ⟨?_,?_,?_,?_,hA1 _⟩ ?_);(simp[up,h1]);(simp[up,h53]);(simp[up,h54]);(simp[up]);(simp_all[dA]))
  ·exact⟨by simp[up,Cj],by simp[up,Cj],by simp[up,Cj],by simp[up],rfl⟩
  ·split at hk
   ·obtain⟨rfl,h1,hA⟩:=hk
    rename_i hr1
    have hA1:=Ab hA
    (have hb:=trivial;with_reducible repeat' (first|simp only[hb,Vc.down,seval,Ta.down,h1,hA,hA1,aaA]|refine An ?_ ?_<;>intro hb|refine fd ?_|fail))
    refine Ci (Lp 118 m.votes (fun i (zz:Unit) t h=>t 1=.ptr 0 0 0∧t 78=Ad 4 false m.nV (m.votes.map Ag.cells)∧t 79=.int .i64 m.votes.length∧t 80=.int .i64 i∧(h[0]?=some (.live 7 false false [[Ad 3 true m.nS (m.sens.map Ba.cells),Ad 4 false m.nV (m.votes.map Ag.cells),Ad 5 false m.nM (m.moves.map Ai.cells),.int .i64 m.states,.int .i64 m.cmds,.int .i64 m.bgn,Ad 1 true m.nO (m.opn.map iv)]]))) (fun rest zz=>rest.all (Qo m.sens.length)) (fun r e t h=>(if r=true then e=.exit 2∧t 1=.ptr 0 0 0∧h[0]?=some (.live 7 false false [[Ad 3 true m.nS (m.sens.map Ba.cells),Ad 4 false m.nV (m.votes.map Ag.cells),Ad 5 false m.nM (m.moves.map Ai.cells),.int .i64 m.states,.int .i64 m.cmds,.int .i64 m.bgn,Ad 1 true m.nO (m.opn.map iv)]])else e=.ret∧t 2=.bool false)) ?_ ?_ () _ _ ?_) (fun e t h hk=>?_)
    ·rintro _ t h Q' kQ ⟨h1,h78,h79,h80,hA⟩
     (have hb:=trivial;with_reducible repeat' (first|simp only[hb,Vc.down,seval,Ta.down,h1,h78,h79,h80,aaK,decide_false]|refine An ?_ ?_<;>intro hb|refine fd ?_|fail))
     exact kQ _ _ _ (by rw[if_pos (by rfl)];exact⟨rfl,by simp[up,h1],hA⟩)
    ·rintro x rest i _ t h J Q' kJ kQ hx hi ⟨h1,h78,h79,h80,hA⟩
     have hd:decide ((i:Int)<(m.votes.length:Int))=true:=decide_eq_true (by omega)
     have hw:=Aq hi hs.votes
     have hA1:=Ab hA
     have hin:=Pj (nn:=x.nn) m.sens.length (hs.vs x (aa0 hx))
     (have hb:=trivial;with_reducible repeat' (first|simp only[hb,Vc.down,seval,Ta.down,h1,h78,h79,h80,hd,hx,hw,hA1,Vj,Nj,hin,Ag.cells,aaA]|refine An ?_ ?_<;>intro hb|refine fd ?_|fail))
     all_goals first
      |exact kQ _ _ _ (by rw[if_neg (by simp_all[Qo])];exact⟨rfl,by simp[up]⟩)
      |(refine Av (kJ _ _ () ⟨?_,?_,?_,?_,hA1 _⟩ ?_);(simp[up,h1]);(simp[up,h78]);(simp[up,h79]);(simp[up]);(simp_all[Qo]))
    ·exact⟨by simp[up,Cj,h1],by simp[up,Cj,h1],by simp[up,Cj,h1],by simp[up],hA⟩
    ·split at hk
     ·obtain⟨rfl,h1,hA⟩:=hk
      rename_i hr2
      have hA1:=Ab hA
      have hcM:=aA (mm:=m) (l:=m.moves) (nn:=m.nM) (g:=71) (p:=fun x=> !Is m x) (fun x hx=>kC m x (hs.ws x hx)) hs.moves
      have hcI:=Yc (l:=m.opn) (nn:=m.nO) (g:=74) (cap:=[]) (p:=fun x=> !Ie x 0 255) rfl rfl (fun x _=>lP x) hs.opn
      (have hb:=trivial;with_reducible repeat' (first|simp only[hb,Vc.down,seval,Ta.down,h1,hA,hA1,aaA,hcM,hcI]|refine An ?_ ?_<;>intro hb|refine fd ?_|fail))
      all_goals
       have q1:m.moves.all (Is m)= !(m.moves.any fun x=> !Is m x):=af7
       have q2:m.opn.all (fun n=>Ie n 0 255)= !(m.opn.any fun x=> !Ie x 0 255):=af7
       simp only[Be,hp,hr1,hr2,q1,q2,hb,af8,af9,Bool.true_and,agB,Bool.and_true]
       try rfl
     ·obtain⟨rfl,h2⟩:=hk
      rename_i hr2
      (have hb:=trivial;with_reducible repeat' (first|simp only[hb,Vc.down,seval,Ta.down,h2]|refine An ?_ ?_<;>intro hb|refine fd ?_|fail))
      all_goals simp[Be,hp,aiO.2 hr2]
   ·obtain⟨rfl,h2⟩:=hk
    rename_i hr1
    (have hb:=trivial;with_reducible repeat' (first|simp only[hb,Vc.down,seval,Ta.down,h2]|refine An ?_ ?_<;>intro hb|refine fd ?_|fail))
    all_goals simp[Be,hp,aiO.2 hr1]
def Jm(m:Ac)(k:Int):Ba:=m.sens.getD k.toNat ⟨0,0,false⟩
def rAt(l:List Int)(k:Int):Int:=l.getD k.toNat 0
theorem Up{m:Ac}{k:Int}(h:k.toNat<m.sens.length):m.sens[k.toNat]?=some (Jm m k):=by
 simp[Jm,List.getD,adV h]
theorem rB{l:List Int}{k:Int}(h:k.toNat<l.length):l[k.toNat]?=some (rAt l k):=by
 simp[rAt,List.getD,adV h]
def Yp(m:Ac)(v:Ag)(l:List Int):List Int→Int→Int
 | [],c=>c
 |k::ks,c=>Yp m v l ks (if Lm (Jm m k) v (rAt l k)=true then IntKind.i64.wrap (c+1)else c)
def Yq(m:Ac)(l:List Int)(v:Ag):Bool:=decide (v.need≤Yp m v l v.sens 0)
def Idx(m:Ac)(l:List Int):Prop:=∀k∈l,0≤k∧k.toNat<m.sens.length
def orN(a b:Int):Int:=IntKind.i64.wrap ((BitVec.ofInt 64 a|||BitVec.ofInt 64 b).toNat:Int)
theorem pH(ty:TypeId)(a b:Int):Fz Try.prog .or ty (.int .i64 a) (.int .i64 b)=some (.int .i64 (orN a b)):=by
 show(if IntKind.i64=IntKind.i64 then Ho .or .i64 a b else none)=_
 rw[if_pos rfl];rfl
def Ir(m:Ac)(l:List Int):List Ag→Nat→Int→Int
 | [],_,b=>b
 |v::vs,i,b=>Ir m l vs (i+1) (if Yq m l v=true then orN b (uF i)else b)
theorem Xx(m:Ac){l:List Int}{nn:Bool}(hl:l.length=m.sens.length)(hs:m.small)(hi:∀v∈m.votes,Idx m v.sens):Bh.call (.fn 46) [.agg [Ad 3 true m.nS (m.sens.map Ba.cells),Ad 4 false m.nV (m.votes.map Ag.cells),Ad 5 false m.nM (m.moves.map Ai.cells),.int .i64 m.states,.int .i64 m.cmds,.int .i64 m.bgn,Ad 1 true m.nO (m.opn.map iv)],Ad 1 true nn (l.map iv)] []=some (.ret (.int .i64 (Ir m l m.votes 0 0)),[]):=by
 have hI:=hi
 clear hi
 (refine ce Try.func46 ?_;simp only[Try.f46];(have hb:=trivial;with_reducible repeat' (first|simp only[hb,Vc.down,seval,bC.down,aaA]|refine An ?_ ?_<;>intro hb|refine fd ?_|fail)))
 refine Ci (Lp 50 m.votes (fun i (zz:Nat × Int) t h=>t 1=Ad 1 true nn (l.map iv)∧t 2=.ptr 0 0 0∧t 12=Ad 4 false m.nV (m.votes.map Ag.cells)∧t 13=.int .i64 m.votes.length∧t 14=.int .i64 i∧t 5=.int .i64 zz.2∧(h[0]?=some (.live 7 false false [[Ad 3 true m.nS (m.sens.map Ba.cells),Ad 4 false m.nV (m.votes.map Ag.cells),Ad 5 false m.nM (m.moves.map Ai.cells),.int .i64 m.states,.int .i64 m.cmds,.int .i64 m.bgn,Ad 1 true m.nO (m.opn.map iv)]])∧i=zz.1)) (fun rest zz=>Ir m l rest zz.1 zz.2) (fun r e t h=>e=.exit 0∧t 5=.int .i64 r) ?_ ?_ (0,0) _ _ ?_) (fun e t h hk=>?_)
 ·rintro⟨k,b⟩ t h Q' kQ ⟨h1,h2,h12,h13,h14,h5,⟨hA,rfl⟩⟩
  try dsimp only at *
  (have hb:=trivial;with_reducible repeat' (first|simp only[hb,Vc.down,seval,bC.down,h1,h2,h12,h13,h14,h5,aaK,decide_false]|refine An ?_ ?_<;>intro hb|refine fd ?_|fail))
  exact kQ _ _ _ ⟨rfl,by simp[up,h5,Ir]⟩
 ·rintro x rest i ⟨k,b⟩ t h J Q' kJ kQ hx hi ⟨h1,h2,h12,h13,h14,h5,⟨hA,rfl⟩⟩
  have hd:decide ((i:Int)<(m.votes.length:Int))=true:=decide_eq_true (by omega)
  have hw:=Aq hi hs.votes
  try dsimp only at *
  have hA1:=Ab hA
  have hvs:=hs.vs x (aa0 hx)
  have hIx:=hI x (aa0 hx)
  obtain⟨w,rfl⟩:∃w,w=x:=⟨_,rfl⟩
  obtain⟨k,rfl⟩:∃k,k=i:=⟨_,rfl⟩
  obtain⟨hL,hLe⟩:∃hL,hL=h.length:=⟨_,rfl⟩
  (have hb:=trivial;with_reducible repeat' (first|simp only[hb,Vc.down,seval,bC.down,h1,h2,h12,h13,h14,h5,hd,hx,hw,hA1,Ag.cells,aaA]|refine An ?_ ?_<;>intro hb|refine fd ?_|fail))
  refine Ci (Lp 50 w.sens (fun i (zz:Int) t h=>t 1=Ad 1 true nn (l.map iv)∧t 2=.ptr 0 0 0∧t 12=Ad 4 false m.nV (m.votes.map Ag.cells)∧t 13=.int .i64 m.votes.length∧t 14=.int .i64 (k:Int)∧t 5=.int .i64 b∧t 6=.int .i64 (k:Int)∧t 7=.ptr hL 0 0∧t 20=Ad 1 true w.nn (w.sens.map iv)∧t 21=.int .i64 w.sens.length∧t 22=.int .i64 i∧t 8=.int .i64 zz∧(h[0]?=some (.live 7 false false [[Ad 3 true m.nS (m.sens.map Ba.cells),Ad 4 false m.nV (m.votes.map Ag.cells),Ad 5 false m.nM (m.moves.map Ai.cells),.int .i64 m.states,.int .i64 m.cmds,.int .i64 m.bgn,Ad 1 true m.nO (m.opn.map iv)]])∧∃wf,h[hL]?=some (.live 4 false wf [[Ad 1 true w.nn (w.sens.map iv),.int .i64 w.need,.int .i64 w.level,.bool w.above]]))) (fun rest zz=>Yp m w l rest zz) (fun r e t h=>e=.exit 2∧t 1=Ad 1 true nn (l.map iv)∧t 2=.ptr 0 0 0∧t 12=Ad 4 false m.nV (m.votes.map Ag.cells)∧t 13=.int .i64 m.votes.length∧t 14=.int .i64 (k:Int)∧t 5=.int .i64 b∧t 6=.int .i64 (k:Int)∧t 7=.ptr hL 0 0∧t 8=.int .i64 r∧h[0]?=some (.live 7 false false [[Ad 3 true m.nS (m.sens.map Ba.cells),Ad 4 false m.nV (m.votes.map Ag.cells),Ad 5 false m.nM (m.moves.map Ai.cells),.int .i64 m.states,.int .i64 m.cmds,.int .i64 m.bgn,Ad 1 true m.nO (m.opn.map iv)]])∧∃wf,h[hL]?=some (.live 4 false wf [[Ad 1 true w.nn (w.sens.map iv),.int .i64 w.need,.int .i64 w.level,.bool w.above]])) ?_ ?_ (0) _ _ ?_) (fun e tC hC hk=>?_)
  ·rintro c t h Q' kQ ⟨h1,h2,h12,h13,h14,h5,h6,h7,h20,h21,h22,h8,⟨hA,wf,hB⟩⟩
   (have hb:=trivial;with_reducible repeat' (first|simp only[hb,Vc.down,seval,bC.down,h1,h2,h12,h13,h14,h5,h6,h7,h20,h21,h22,h8,aaK,decide_false]|refine An ?_ ?_<;>intro hb|refine fd ?_|fail))
   exact kQ _ _ _ ⟨rfl,by simp[up,h1],by simp[up,h2],by simp[up,h12],by simp[up,h13],by simp[up,h14],by simp[up,h5],by simp[up,h6],by simp[up,h7],by simp[up,h8,Yp],hA,wf,hB⟩
  ·rintro x rest i c t h J Q' kJ kQ hx hi ⟨h1,h2,h12,h13,h14,h5,h6,h7,h20,h21,h22,h8,⟨hA,wf,hB⟩⟩
   have hd:decide ((i:Int)<(w.sens.length:Int))=true:=decide_eq_true (by omega)
   have hw:=Aq hi hvs
   obtain⟨k0,k1⟩:=hIx x (aa0 hx)
   have hrr:=rB (l:=l) (k:=x) (by omega)
   have hss:=Up k1
   have h0':(0≤x)=True:=eq_true k0
   have hS:=qC (Jm m x) w (rAt l x)
   generalize hq:Lm (Jm m x) w (rAt l x)=q at hS
   generalize Jm m x=s at hss hS
   (have hb:=trivial;with_reducible repeat' (first|simp only[hb,Vc.down,seval,bC.down,h1,h2,h7,h8,h20,h21,h22,hd,hx,hw,hrr,hss,h0',hA,hB,hS,iv,Ba.cells,aaA]|refine An ?_ ?_<;>intro hb|refine fd ?_|fail))
   all_goals (refine Av (kJ _ _ (if q=true then IntKind.i64.wrap (c+1)else c) ⟨?_,?_,?_,?_,?_,?_,?_,?_,?_,?_,?_,?_,⟨hA,wf,hB⟩⟩ ?_);(simp[up,h1]);(simp[up,h2]);(simp[up,h12]);(simp[up,h13]);(simp[up,h14]);(simp[up,h5]);(simp[up,h6]);(simp[up,h7]);(simp[up,h20]);(simp[up,h21]);(simp[up]);(simp[up,h8,hb]);(simp[Yp,hq]))
  ·exact⟨by simp[up,Cj,h1,h2,h12,h13,h14,h5,hLe],by simp[up,Cj,h1,h2,h12,h13,h14,h5,hLe],by simp[up,Cj,h1,h2,h12,h13,h14,h5,hLe],by simp[up,Cj,h1,h2,h12,h13,h14,h5,hLe],by simp[up,Cj,h1,h2,h12,h13,h14,h5,hLe],by simp[up,Cj,h1,h2,h12,h13,h14,h5,hLe],by simp[up,Cj,h1,h2,h12,h13,h14,h5,hLe],by simp[up,Cj,h1,h2,h12,h13,h14,h5,hLe],by simp[up,Cj,h1,h2,h12,h13,h14,h5,hLe],by simp[up,Cj,h1,h2,h12,h13,h14,h5,hLe],by simp[up],by simp[up,Cj,h1,h2,h12,h13,h14,h5,hLe],⟨hA1 _,true,by rw[hLe];simp⟩⟩
  ·obtain⟨rfl,h1,h2,h12,h13,h14,h5,h6,h7,h8,hA,wf,hB⟩:=hk
   have hy:decide (w.need≤Yp m w l w.sens 0)=Yq m l w:=rfl
   (have hb:=trivial;with_reducible repeat' (first|simp only[hb,Vc.down,seval,bC.down,h1,h2,h12,h13,h14,h5,h6,h7,h8,hA,hB,hw,hy,pH]|refine An ?_ ?_<;>intro hb|refine fd ?_|fail))
   all_goals (refine Av (kJ _ _ (k+1,(if Yq m l w=true then orN b (uF k)else b)) ⟨?_,?_,?_,?_,?_,?_,⟨hA,rfl⟩⟩ ?_);(simp[up,h1]);(simp[up,h2]);(simp[up,h12]);(simp[up,h13]);(simp[up]);(simp[up,h5,hb]);(simp[Ir]))
 ·exact⟨by simp[up,Cj],by simp[up,Cj],by simp[up,Cj],by simp[up,Cj],by simp[up],by simp[up,Cj],⟨rfl,rfl⟩⟩
 obtain⟨rfl,h5⟩:=hk
 (have hb:=trivial;with_reducible repeat' (first|simp only[hb,Vc.down,seval,bC.down,h5]|refine An ?_ ?_<;>intro hb|refine fd ?_|fail))
def Gs(b v:Int):Bool:=adM (vL b v.toNat)==1
theorem yH(a b:Bool):Fz Try.prog .neq 4 (.bool a) (.bool b)=some (.bool (!(a==b))):=by cases a<;>cases b<;>kernel_rfl
structure Ji where
 frm:Int
 to:Int
 nn:Bool
 wants:List Aj
 cmd:Int
 after:Int
 st:Int
 ag:Int
 bits:Int
 com:Int
theorem zS(n:Ji):Bh.call (.fn 92) [.agg [.int .i64 n.frm,.int .i64 n.to,Ad 2 true n.nn (n.wants.map Aj.cells),.int .i64 n.cmd,.int .i64 n.after,.int .i64 n.st,.int .i64 n.ag,.int .i64 n.bits,.int .i64 n.com]] []=some (.ret (.bool (n.frm==n.st)),[]):=by
 (refine ce Try.func92 ?_;simp only[Try.f92];(have hb:=trivial;with_reducible repeat' (first|simp only[hb,Vc.down,seval,awF.down]|refine An ?_ ?_<;>intro hb|refine fd ?_|fail)))
theorem ajD(n:Ji):Bh.call (.fn 93) [.agg [.int .i64 n.frm,.int .i64 n.to,Ad 2 true n.nn (n.wants.map Aj.cells),.int .i64 n.cmd,.int .i64 n.after,.int .i64 n.st,.int .i64 n.ag,.int .i64 n.bits,.int .i64 n.com]] []=some (.ret (.bool (decide (n.after≤n.ag))),[]):=by
 (refine ce Try.func93 ?_;simp only[Try.f93];(have hb:=trivial;with_reducible repeat' (first|simp only[hb,Vc.down,seval,ayE.down]|refine An ?_ ?_<;>intro hb|refine fd ?_|fail)))
theorem zQ(n:Ji):Bh.call (.fn 95) [.agg [.int .i64 n.frm,.int .i64 n.to,Ad 2 true n.nn (n.wants.map Aj.cells),.int .i64 n.cmd,.int .i64 n.after,.int .i64 n.st,.int .i64 n.ag,.int .i64 n.bits,.int .i64 n.com]] []=some (.ret (.bool (n.cmd== -1||n.cmd==n.com)),[]):=by
 (refine ce Try.func95 ?_;simp only[Try.f95];(have hb:=trivial;with_reducible repeat' (first|simp only[hb,Vc.down,seval,ax7.down]|refine An ?_ ?_<;>intro hb|refine fd ?_|fail)))
 all_goals simp_all
theorem dP(n:Ji)(w:Aj)(h0:0≤w.vote):Bh.call (.fn 99) [.agg [.int .i64 w.vote,.bool w.is],.ptr 0 0 0] [.live 9 false false [[.int .i64 n.frm,.int .i64 n.to,Ad 2 true n.nn (n.wants.map Aj.cells),.int .i64 n.cmd,.int .i64 n.after,.int .i64 n.st,.int .i64 n.ag,.int .i64 n.bits,.int .i64 n.com]]]=some (.ret (.bool (!(Gs n.bits w.vote==w.is))),[.live 9 false false [[.int .i64 n.frm,.int .i64 n.to,Ad 2 true n.nn (n.wants.map Aj.cells),.int .i64 n.cmd,.int .i64 n.after,.int .i64 n.st,.int .i64 n.ag,.int .i64 n.bits,.int .i64 n.com]]]):=by
 obtain⟨v,is⟩:=w
 obtain⟨k,hk⟩:∃k:Nat,v=k:=⟨v.toNat,by simp at h0;omega⟩
 subst hk
 (refine ce Try.func99 ?_;simp only[Try.f99];(have hb:=trivial;with_reducible repeat' (first|simp only[hb,Vc.down,seval,axZ.down,yH]|refine An ?_ ?_<;>intro hb|refine fd ?_|fail)))
 all_goals simp[Gs]
theorem Zo{l:List Aj}{nn:Bool}{g:Nat}{ndq:Ji}{p:Aj→Bool}(hp:∀x∈l,Bh.call (.fn g) (.agg [.int .i64 x.vote,.bool x.is]::[.ptr 0 0 0]) [.live 9 false false [[.int .i64 ndq.frm,.int .i64 ndq.to,Ad 2 true ndq.nn (ndq.wants.map Aj.cells),.int .i64 ndq.cmd,.int .i64 ndq.after,.int .i64 ndq.st,.int .i64 ndq.ag,.int .i64 ndq.bits,.int .i64 ndq.com]]]=some (.ret (.bool (p x)),[.live 9 false false [[.int .i64 ndq.frm,.int .i64 ndq.to,Ad 2 true ndq.nn (ndq.wants.map Aj.cells),.int .i64 ndq.cmd,.int .i64 ndq.after,.int .i64 ndq.st,.int .i64 ndq.ag,.int .i64 ndq.bits,.int .i64 ndq.com]]]))(hl:l.length≤maxLen)(hgm:Bh.md g=false:=by exact rfl):
 Bh.call (.fn 98) [Ad 2 true nn (l.map Aj.cells),.func (.func g) [] [.ptr 0 0 0]] [.live 9 false false [[.int .i64 ndq.frm,.int .i64 ndq.to,Ad 2 true ndq.nn (ndq.wants.map Aj.cells),.int .i64 ndq.cmd,.int .i64 ndq.after,.int .i64 ndq.st,.int .i64 ndq.ag,.int .i64 ndq.bits,.int .i64 ndq.com]]]=some (.ret (.int .i64 (Rx p l 0)),[.live 9 false false [[.int .i64 ndq.frm,.int .i64 ndq.to,Ad 2 true ndq.nn (ndq.wants.map Aj.cells),.int .i64 ndq.cmd,.int .i64 ndq.after,.int .i64 ndq.st,.int .i64 ndq.ag,.int .i64 ndq.bits,.int .i64 ndq.com]]]):=by
 (refine ce Try.func98 ?_;simp only[Try.f98];(have hb:=trivial;with_reducible repeat' (first|simp only[hb,Vc.down,seval,Su.down,aaA]|refine An ?_ ?_<;>intro hb|refine fd ?_|fail)))
 refine Ci (Lp 19 l (fun i (s:Int) t h=>s=i∧h=[.live 9 false false [[.int .i64 ndq.frm,.int .i64 ndq.to,Ad 2 true ndq.nn (ndq.wants.map Aj.cells),.int .i64 ndq.cmd,.int .i64 ndq.after,.int .i64 ndq.st,.int .i64 ndq.ag,.int .i64 ndq.bits,.int .i64 ndq.com]]]∧t 0=Ad 2 true nn (l.map Aj.cells)∧t 1=.func (.func g) [] [.ptr 0 0 0]∧t 7=.int .i64 l.length∧t 8=.int .i64 i)
  (fun rest s=>Rx p rest s) (fun r e t h=>h=[.live 9 false false [[.int .i64 ndq.frm,.int .i64 ndq.to,Ad 2 true ndq.nn (ndq.wants.map Aj.cells),.int .i64 ndq.cmd,.int .i64 ndq.after,.int .i64 ndq.st,.int .i64 ndq.ag,.int .i64 ndq.bits,.int .i64 ndq.com]]]∧((e=.exit 0∧r= -1)∨(e=.ret∧t 4=.int .i64 r))) ?_ ?_ 0 _ _ ?_) (fun e t h hk=>?_)
 ·rintro s t h Q' kQ ⟨rfl,rfl,h0,h1,h7,h8⟩
  (have hb:=trivial;with_reducible repeat' (first|simp only[hb,Vc.down,seval,Su.down,h0,h1,h7,h8,aaK,decide_false]|refine An ?_ ?_<;>intro hb|refine fd ?_|fail))
  exact kQ _ _ _ ⟨rfl,.inl ⟨rfl,rfl⟩⟩
 ·rintro x rest i s t h J Q' kJ kQ hx hi ⟨rfl,rfl,h0,h1,h7,h8⟩
  have hgm2:=hgm
  simp only[Vp,af4,af5,af6]at hgm2
  have hpx:=hp x (aa0 hx)
  have hd:decide ((i:Int)<(l.length:Int))=true:=by simpa using hi
  (have hb:=trivial;with_reducible repeat' (first|simp only[hb,Vc.down,seval,Su.down,h0,h1,h7,h8,hd,hx,Aj.cells,hpx,hgm2,Aq hi hl]|refine An ?_ ?_<;>intro hb|refine fd ?_|fail))
  ·exact kQ _ _ _ ⟨rfl,.inr ⟨rfl,by simp[up,Rx,hb]⟩⟩
  ·exact Av (kJ _ _ (i+1) ⟨by simp,rfl,by simp[up,h0],by simp[up,h1],by simp[up,h7],by simp[up]⟩ (by simp[Rx,hb]))
 ·exact⟨rfl,rfl,by simp[up,Cj],by simp[up,Cj],by simp[up],by simp[up]⟩
 ·obtain⟨rfl,⟨rfl,hi⟩|⟨rfl,hi⟩⟩:=hk
  ·(have hb:=trivial;with_reducible repeat' (first|simp only[hb,Vc.down,seval,Su.down]|refine An ?_ ?_<;>intro hb|refine fd ?_|fail))
   rw[hi]
  ·(have hb:=trivial;with_reducible repeat' (first|simp only[hb,Vc.down,seval,Su.down,hi]|refine An ?_ ?_<;>intro hb|refine fd ?_|fail))
theorem Xh{l:List Aj}{nn:Bool}{g:Nat}{ndq:Ji}{p:Aj→Bool}(hp:∀x∈l,Bh.call (.fn g) (.agg [.int .i64 x.vote,.bool x.is]::[.ptr 0 0 0]) [.live 9 false false [[.int .i64 ndq.frm,.int .i64 ndq.to,Ad 2 true ndq.nn (ndq.wants.map Aj.cells),.int .i64 ndq.cmd,.int .i64 ndq.after,.int .i64 ndq.st,.int .i64 ndq.ag,.int .i64 ndq.bits,.int .i64 ndq.com]]]=some (.ret (.bool (p x)),[.live 9 false false [[.int .i64 ndq.frm,.int .i64 ndq.to,Ad 2 true ndq.nn (ndq.wants.map Aj.cells),.int .i64 ndq.cmd,.int .i64 ndq.after,.int .i64 ndq.st,.int .i64 ndq.ag,.int .i64 ndq.bits,.int .i64 ndq.com]]]))(hl:l.length≤maxLen)(hgm:Bh.md g=false:=by exact rfl):
 Bh.call (.fn 89) [Ad 2 true nn (l.map Aj.cells),.func (.func g) [] [.ptr 0 0 0]] [.live 9 false false [[.int .i64 ndq.frm,.int .i64 ndq.to,Ad 2 true ndq.nn (ndq.wants.map Aj.cells),.int .i64 ndq.cmd,.int .i64 ndq.after,.int .i64 ndq.st,.int .i64 ndq.ag,.int .i64 ndq.bits,.int .i64 ndq.com]]]=some (.ret (.bool (l.any p)),[.live 9 false false [[.int .i64 ndq.frm,.int .i64 ndq.to,Ad 2 true ndq.nn (ndq.wants.map Aj.cells),.int .i64 ndq.cmd,.int .i64 ndq.after,.int .i64 ndq.st,.int .i64 ndq.ag,.int .i64 ndq.bits,.int .i64 ndq.com]]]):=by
 (refine ce Try.func89 ?_;simp only[Try.f89];(have hb:=trivial;with_reducible repeat' (first|simp only[hb,Vc.down,seval,Zo hp hl hgm,Jl p l 0 (aa3 0)]|refine An ?_ ?_<;>intro hb|refine fd ?_|fail)))
def Vl(bits:Int)(l:List Aj):Bool:=l.all fun w=>Gs bits w.vote==w.is
theorem lC(n:Ji)(hl:n.wants.length≤maxLen)(h0:∀w∈n.wants,0≤w.vote):Bh.call (.fn 94) [.agg [.int .i64 n.frm,.int .i64 n.to,Ad 2 true n.nn (n.wants.map Aj.cells),.int .i64 n.cmd,.int .i64 n.after,.int .i64 n.st,.int .i64 n.ag,.int .i64 n.bits,.int .i64 n.com]] []=some (.ret (.bool (Vl n.bits n.wants)),[]):=by
 have hc:=Xh (ndq:=n) (l:=n.wants) (nn:=n.nn) (g:=99) (p:=fun w=> !(Gs n.bits w.vote==w.is)) (fun w hw=>dP n w (h0 w hw)) hl
 have q1:Vl n.bits n.wants= !(n.wants.any fun w=> !(Gs n.bits w.vote==w.is)):=af7
 (refine ce Try.func94 ?_;simp only[Try.f94];(have hb:=trivial;with_reducible repeat' (first|simp only[hb,Vc.down,seval,axK.down,hc]|refine An ?_ ?_<;>intro hb|refine fd ?_|fail)))
 all_goals simp[q1]
theorem akR(f0 f1 f2 f3:Fn)(a0 a1 a2 a3 c0 c1 c2 c3:List AV):Ly Try.prog 155 [(0,.func f0 a0 c0),(1,.func f1 a1 c1),(2,.func f2 a2 c2),(3,.func f3 a3 c3)]=some (.agg [.func f0 a0 c0,.func f1 a1 c1,.func f2 a2 c2,.func f3 a3 c3]):=by kernel_rfl
theorem uI(a b c d:AV):Oo Try.prog 155 (.agg [a,b,c,d]) (.int .i64 0)=some a:=by kernel_rfl
theorem sQ(a b c d:AV):Oo Try.prog 155 (.agg [a,b,c,d]) (.int .i64 1)=some b:=by kernel_rfl
theorem wM(a b c d:AV):Oo Try.prog 155 (.agg [a,b,c,d]) (.int .i64 2)=some c:=by kernel_rfl
theorem uH(a b c d:AV):Oo Try.prog 155 (.agg [a,b,c,d]) (.int .i64 3)=some d:=by kernel_rfl
def pX(n:Ji):Bool:=(n.frm==n.st)&&decide (n.after≤n.ag)&&Vl n.bits n.wants&&(n.cmd== -1||n.cmd==n.com)
theorem w2:IntKind.i64.wrap 2=2:=ae2 rfl rfl
theorem w3:IntKind.i64.wrap 3=3:=ae2 rfl rfl
theorem w4:IntKind.i64.wrap 4=4:=ae2 rfl rfl
theorem dK(n:Ji)(hl:n.wants.length≤maxLen)(h0:∀w∈n.wants,0≤w.vote):Bh.call (.fn 75) [.agg [.int .i64 n.frm,.int .i64 n.to,Ad 2 true n.nn (n.wants.map Aj.cells),.int .i64 n.cmd,.int .i64 n.after,.int .i64 n.st,.int .i64 n.ag,.int .i64 n.bits,.int .i64 n.com]] []=some (.ret (.bool (pX n)),[]):=by
 have q1:=zS n
 have q2:=ajD n
 have q3:=lC n hl h0
 have q4:=zQ n
 (refine ce Try.func75 ?_;simp only[Try.f75];(have hb:=trivial;with_reducible repeat' (first|simp only[hb,Vc.down,seval,aqD.down,akR,uI,sQ,wM,uH,q1,q2,q3,q4,w2,w3,w4]|refine An ?_ ?_<;>intro hb|refine fd ?_|fail)))
 (have hb:=trivial;with_reducible repeat' (first|simp only[hb,Vc.down,seval,aqD.down,akR,uI,sQ,wM,uH,q1,q2,q3,q4,w2,w3,w4]|refine An ?_ ?_<;>intro hb|refine fd ?_|refine arL ?_|fail))
 all_goals (refine congrArg (fun b=>(Dk.ret (AV.bool b),([]:Aa))) ?_;symm;((try simp only[Bool.not_eq_eq_eq_not,af8,af9]at *);simp only[pX, *,Bool.and_false,agB,Bool.and_true,Bool.true_and,Bool.and_self,Bool.not_not,af8,af9,List.all_cons,List.all_nil]))
def nd(x:Ai)(st ag bits com:Int):Ji:=⟨x.frm,x.to,x.nn,x.wants,x.cmd,x.after,st,ag,bits,com⟩
def mQ(a:Int):Int:=if IntKind.i64.wrap (a+1)<10 then IntKind.i64.wrap (a+1)else 10
def Ij(st ag bits com:Int):List Ai→Int × Int
 | []=>(st,mQ ag)
 |x::l=>if pX (nd x st ag bits com)=true then(x.to,0)else Ij st ag bits com l
theorem jB(m:Ac)(st ag bits com:Int)(hs:m.small)(h0:∀x∈m.moves,∀w∈x.wants,0≤w.vote):
 Bh.call (.fn 45) [.agg [Ad 3 true m.nS (m.sens.map Ba.cells),Ad 4 false m.nV (m.votes.map Ag.cells),Ad 5 false m.nM (m.moves.map Ai.cells),.int .i64 m.states,.int .i64 m.cmds,.int .i64 m.bgn,Ad 1 true m.nO (m.opn.map iv)],.agg [.int .i64 st,.int .i64 ag],.agg [.int .i64 bits,.int .i64 com]] []=some (.ret (.agg [.int .i64 (Ij st ag bits com m.moves).1,.int .i64 (Ij st ag bits com m.moves).2]),[]):=by
 (refine ce Try.func45 ?_;simp only[Try.f45];(have hb:=trivial;with_reducible repeat' (first|simp only[hb,Vc.down,seval,mX.down,aaA]|refine An ?_ ?_<;>intro hb|refine fd ?_|fail)))
 refine Ci (Lp 32 m.moves (fun i (zz:Unit) t h=>t 4=.ptr 1 0 0∧t 5=.ptr 2 0 0∧t 6=.ptr 3 0 0∧t 10=Ad 5 false m.nM (m.moves.map Ai.cells)∧t 11=.int .i64 m.moves.length∧t 12=.int .i64 i∧(h[1]?=some (.live 2 true false [[.int .i64 st,.int .i64 ag]])∧h[2]?=some (.live 2 true false [[.int .i64 bits,.int .i64 com]])∧h[3]?=some (.live 2 true false [[.int .i64 0,.int .i64 0]]))) (fun rest zz=>Ij st ag bits com rest) (fun r e t h=>(e=.exit 0∧t 4=.ptr 1 0 0∧t 6=.ptr 3 0 0∧h[1]?=some (.live 2 true false [[.int .i64 st,.int .i64 ag]])∧h[3]?=some (.live 2 true false [[.int .i64 0,.int .i64 0]])∧r=(st,mQ ag))∨(e=.ret∧t 6=.ptr 3 0 0∧h[3]?=some (.live 2 true true [[.int .i64 r.1,.int .i64 r.2]]))) ?_ ?_ () _ _ ?_) (fun e t h hk=>?_)
 ·rintro _ t h Q' kQ ⟨h4,h5,h6,h10,h11,h12,⟨hA,hB,hC⟩⟩
  (have hb:=trivial;with_reducible repeat' (first|simp only[hb,Vc.down,seval,mX.down,h4,h5,h6,h10,h11,h12,aaK,decide_false]|refine An ?_ ?_<;>intro hb|refine fd ?_|fail))
  exact kQ _ _ _ (.inl ⟨rfl,by simp[up,h4],by simp[up,h6],hA,hC,rfl⟩)
 ·rintro x rest i _ t h J Q' kJ kQ hx hi ⟨h4,h5,h6,h10,h11,h12,⟨hA,hB,hC⟩⟩
  have hd:decide ((i:Int)<(m.moves.length:Int))=true:=decide_eq_true (by omega)
  have hw:=Aq hi hs.moves
  have hA1:=Ab hA
  have hB1:=Ab hB
  have hC1:=Ab hC
  have hap:=dK (nd x st ag bits com) (hs.ws x (aa0 hx)) (h0 x (aa0 hx))
  have h3l:3<h.length:=(agA.1 hC).1
  generalize hq:pX (nd x st ag bits com)=q at hap
  simp only[nd]at hap
  (have hb:=trivial;with_reducible repeat' (first|simp only[hb,Vc.down,seval,mX.down,h4,h5,h6,h10,h11,h12,hd,hx,hw,hA1,hB1,hC1,hap,Ai.cells,aaA]|refine An ?_ ?_<;>intro hb|refine fd ?_|fail))
  ·exact kQ _ _ _ (.inr ⟨rfl,by simp[up,h6],by rw[ai2 (by simp;omega)];simp[Ij,hq,hb]⟩)
  ·(refine Av (kJ _ _ () ⟨?_,?_,?_,?_,?_,?_,⟨hA1 _,hB1 _,hC1 _⟩⟩ ?_);(simp[up,h4]);(simp[up,h5]);(simp[up,h6]);(simp[up,h10]);(simp[up,h11]);(simp[up]);(simp[Ij,hq,hb]))
 ·exact⟨by simp[up,Cj],by simp[up,Cj],by simp[up,Cj],by simp[up,Cj],by simp[up,Cj],by simp[up],⟨rfl,rfl,rfl⟩⟩
 rcases hk with⟨rfl,h4,h6,hA,hC,hr⟩|⟨rfl,h6,hC⟩
 ·have hA1:=Ab hA
  have hC1:=Ab hC
  have h3l:3<h.length:=(agA.1 hC).1
  have hset:∀c:CB,(h.set 3 c)[3]?=some c:=fun c=>ai2 h3l
  have hmt:(if IntKind.i64.wrap (ag+1)<10 then IntKind.i64.wrap (ag+1)else 10)=mQ ag:=rfl
  rw[hr]
  (have hb:=trivial;with_reducible repeat' (first|simp only[hb,Vc.down,seval,mX.down,h4,h6,hA,hC,hA1,hC1,hset,hmt]|refine An ?_ ?_<;>intro hb|refine fd ?_|fail))
 ·(have hb:=trivial;with_reducible repeat' (first|simp only[hb,Vc.down,seval,mX.down,h6,hC]|refine An ?_ ?_<;>intro hb|refine fd ?_|fail))
theorem uE{α:Type}{d:List AV→Option α}{f:α→List AV}(hd:∀cs x,d cs=some x→cs=f x):∀{rows:List (List AV)} {l:List α},Au d rows=some l→rows=l.map f
 | [],l,h=>by simp[Au]at h;subst h;rfl
 |r::rows,l,h=>by
  simp only[Au,aa9,abO]at h
  obtain⟨x,h1,l',h2,rfl⟩:=h
  rw[hd r x h1,uE hd h2];rfl
def dSl{α:Type}(n:Nat)(fl:Bool)(d:List AV→Option α):AV→Option (Bool × List α)
 | .nils=>some (false,[])
 | .imm n' fl' rows=>if n'=n∧fl'=fl then(Au d rows).map fun l=>(true,l)else none
 |_=>none
theorem Zz{α:Type}{n:Nat}{fl:Bool}{d:List AV→Option α}{f:α→List AV}(hd:∀cs x,d cs=some x→cs=f x){v:AV}{x:Bool × List α}(h:dSl n fl d v=some x):v=Ad n fl x.1 (x.2.map f):=by
 unfold dSl at h
 split at h
 ·cases h;rfl
 ·split at h
  ·rename_i hq
   obtain⟨rfl,rfl⟩:=hq
   obtain⟨l,h1,rfl⟩:=abO.1 h
   rw[uE hd h1]
   cases l<;>rfl
  ·cases h
 ·cases h
def ai7:List AV→Option Int
 | [.int .i64 a]=>some a
 |_=>none
theorem rT(cs:List AV)(x:Int)(h:ai7 cs=some x):cs=iv x:=by
 unfold ai7 at h
 split at h
 ·cases h;rfl
 ·cases h
def auJ:List AV→Option Ba
 | [.int .i64 a,.int .i64 b,.bool c]=>some ⟨a,b,c⟩
 |_=>none
theorem aoY(cs:List AV)(x:Ba)(h:auJ cs=some x):cs=x.cells:=by
 unfold auJ at h
 split at h
 ·cases h;rfl
 ·cases h
def ai9:List AV→Option Ag
 | [l,.int .i64 a,.int .i64 b,.bool c]=>(dSl 1 true ai7 l).map fun x=>⟨x.1,x.2,a,b,c⟩
 |_=>none
theorem alN(cs:List AV)(x:Ag)(h:ai9 cs=some x):cs=x.cells:=by
 unfold ai9 at h
 split at h
 ·obtain⟨y,h1,rfl⟩:=abO.1 h
  rw[Zz rT h1];rfl
 ·cases h
def agE:List AV→Option Aj
 | [.int .i64 a,.bool c]=>some ⟨a,c⟩
 |_=>none
theorem ah9(cs:List AV)(x:Aj)(h:agE cs=some x):cs=x.cells:=by
 unfold agE at h
 split at h
 ·cases h;rfl
 ·cases h
def aiJ:List AV→Option Ai
 | [.int .i64 a,.int .i64 b,l,.int .i64 c,.int .i64 d]=>(dSl 2 true agE l).map fun x=>⟨a,b,x.1,x.2,c,d⟩
 |_=>none
theorem akQ(cs:List AV)(x:Ai)(h:aiJ cs=some x):cs=x.cells:=by
 unfold aiJ at h
 split at h
 ·obtain⟨y,h1,rfl⟩:=abO.1 h
  rw[Zz ah9 h1];rfl
 ·cases h
def vE:List AV→Option Ac
 | [s,v,x,.int .i64 a,.int .i64 b,.int .i64 c,o]=>(dSl 3 true auJ s).bind fun s=>(dSl 4 false ai9 v).bind fun v=>(dSl 5 false aiJ x).bind fun x=>(dSl 1 true ai7 o).map fun o=>⟨s.1,s.2,v.1,v.2,x.1,x.2,a,b,c,o.1,o.2⟩
 |_=>none
theorem kO(cs:List AV)(x:Ac)(h:vE cs=some x):cs=x.cells:=by
 unfold vE at h
 split at h
 ·simp only[aa9,abO]at h
  obtain⟨s,h1,v,h2,y,h3,o,h4,rfl⟩:=h
  rw[Zz aoY h1,Zz alN h2,Zz akQ h3,Zz rT h4]
 ·cases h
def kA(m:Ac):Bool:=decide (m.sens.length≤1000)&&decide (m.votes.length≤1000)&&decide (m.moves.length≤1000)&&decide (m.opn.length≤1000)&&m.votes.all (fun v=>decide (v.sens.length≤1000))&&m.moves.all (fun x=>decide (x.wants.length≤1000))
theorem cS{m:Ac}(h:kA m=true):m.small:=by
 simp only[kA,acY,decide_eq_true_eq,ae4]at h
 obtain⟨⟨⟨⟨⟨a,b⟩,c⟩,d⟩,e⟩,f⟩:=h
 exact⟨by unfold maxLen;omega,by unfold maxLen;omega,by unfold maxLen;omega,by unfold maxLen;omega,fun v hv=>by have:=e v hv;unfold maxLen;omega,fun v hv=>by have:=f v hv;unfold maxLen;omega⟩
def ah1:List AV→Aa→Option (Dk × Aa)
 | [.agg cs],[]=>(vE cs).bind fun m=>if kA m=true then some (.ret (.bool (Be m)),[])else none
 |_,_=>none
def aq0:List AV→Aa→Option (Dk × Aa)
 | [.agg cs,.agg [.int .i64 st,.int .i64 ag],.agg [.int .i64 bits,.int .i64 com]],[]=>(vE cs).bind fun m=>if(kA m&&m.moves.all fun x=>x.wants.all fun w=>decide (0≤w.vote))=true then
     (match Ij st ag bits com m.moves with
       |(a,b)=>some (.ret (.agg [.int .i64 a,.int .i64 b]),[]))else none
 |_,_=>none
def akS:List AV→Aa→Option (Dk × Aa)
 | [.agg cs,l],[]=>(vE cs).bind fun m=>(dSl 1 true ai7 l).bind fun l=>if(kA m&&decide (l.2.length=m.sens.length)&&m.votes.all fun v=>v.sens.all fun k=>decide (0≤k)&&decide (k.toNat<m.sens.length))=true then
     some (.ret (.int .i64 (Ir m l.2 m.votes 0 0)),[])else none
 |_,_=>none
def pr2:Hl:={ pr with at_:=fun f=>if f=42 then some ah1 else if f=45 then some aq0 else if f=46 then some akS else pr f }
theorem aqQ(f:Nat)(h:pr2 f=none):pr f=none:=by
 simp only[pr2]at h
 split at h
 ·cases h
 ·split at h
  ·cases h
  ·split at h
   ·cases h
   ·exact h
theorem wC{tab:List Ent}(f:Nat)(h:bX pr2 tab f=none):pr f=none:=by
 simp only[bX]at h
 split at h
 ·cases h
 ·exact aqQ f h
theorem eA:∀f p,pr2 f=some p→∀a h r,p a h=some r→Bh.call (.fn f) a h=some r:=by
 intro f p hp a h r hr
 simp only[pr2]at hp
 split at hp
 ·rename_i hf
  subst hf
  cases hp
  unfold ah1 at hr
  split at hr
  ·rename_i cs
   obtain⟨s,h1,h2⟩:=aa9.1 hr
   split at h2
   ·rename_i hs
    cases h2
    rw[kO _ _ h1]
    exact bL s (cS hs)
   ·cases h2
  ·cases hr
 ·split at hp
  ·rename_i hf
   subst hf
   cases hp
   unfold aq0 at hr
   split at hr
   ·rename_i cs st ag bits com
    obtain⟨s,h1,h2⟩:=aa9.1 hr
    split at h2
    ·rename_i hs
     simp only[acY,ae4,decide_eq_true_eq]at hs
     cases h2
     rw[kO _ _ h1]
     exact jB s st ag bits com (cS hs.1) hs.2
    ·cases h2
   ·cases hr
  ·split at hp
   ·rename_i hf
    subst hf
    cases hp
    unfold akS at hr
    split at hr
    ·rename_i cs l
     simp only[aa9]at hr
     obtain⟨s,h1,y,h2,h3⟩:=hr
     split at h3
     ·rename_i hs
      simp only[acY,ae4,decide_eq_true_eq]at hs
      cases h3
      rw[kO _ _ h1,Zz rT h2]
      exact Xx s hs.1.2 (cS hs.1.1) (fun v hv k hk=>hs.2 v hv k hk)
     ·cases h3
    ·cases hr
   ·exact abK hp hr
def exA:AV:=.agg [.imm 3 true [[.int .i64 0,.int .i64 100,.bool false],[.int .i64 0,.int .i64 100,.bool false],[.int .i64 0,.int .i64 100,.bool false]],.imm 4 false [[.imm 1 true [[.int .i64 0],[.int .i64 1],[.int .i64 2]],.int .i64 2,.int .i64 80,.bool true]],.imm 5 false [[.int .i64 0,.int .i64 1,.imm 2 true [[.int .i64 0,.bool true]],.int .i64 (-1),.int .i64 0],[.int .i64 1,.int .i64 2,.nils,.int .i64 (-1),.int .i64 1],[.int .i64 2,.int .i64 0,.imm 2 true [[.int .i64 0,.bool false]],.int .i64 0,.int .i64 2]],.int .i64 3,.int .i64 1,.int .i64 0,.imm 1 true [[.int .i64 3],[.int .i64 1],[.int .i64 0]]]
def exS:AV:=.imm 2 true [[.int .i64 1,.int .i64 (-1)],[.int .i64 1,.int .i64 0],[.int .i64 0,.int .i64 (-1)],[.int .i64 0,.int .i64 0]]
def E0:Ent:=⟨54,[exA],(.ret (.tup [.slr 2 0 0 4,.slr 2 1 0 4]),[.live 2 false false [[.slr 1 2 0 3,.int .i64 (-1)],[.slr 1 3 0 3,.int .i64 0],[.slr 1 4 0 3,.int .i64 (-1)],[.slr 1 5 0 3,.int .i64 0]],.live 2 true false [[.int .i64 1,.int .i64 (-1)],[.int .i64 1,.int .i64 0],[.int .i64 0,.int .i64 (-1)],[.int .i64 0,.int .i64 0]],.live 1 true false [[.int .i64 (-10000)],[.int .i64 (-10000)],[.int .i64 (-10000)]],.live 1 true false [[.int .i64 (-10000)],[.int .i64 (-10000)],[.int .i64 (-10000)]],.live 1 true false [[.int .i64 (-10000)],[.int .i64 0],[.int .i64 0]],.live 1 true false [[.int .i64 (-10000)],[.int .i64 0],[.int .i64 0]]])⟩
def E1:Ent:=⟨55,[exA,exS],(.ret (.tup [.slr 2 0 0 24,.mapr 1]),[.live 2 true false [[.int .i64 0,.int .i64 0],[.int .i64 1,.int .i64 0],[.int .i64 0,.int .i64 1],[.int .i64 1,.int .i64 1],[.int .i64 0,.int .i64 2],[.int .i64 2,.int .i64 0],[.int .i64 0,.int .i64 3],[.int .i64 2,.int .i64 1],[.int .i64 0,.int .i64 4],[.int .i64 2,.int .i64 2],[.int .i64 0,.int .i64 5],[.int .i64 2,.int .i64 3],[.int .i64 0,.int .i64 6],[.int .i64 2,.int .i64 4],[.int .i64 0,.int .i64 7],[.int .i64 2,.int .i64 5],[.int .i64 0,.int .i64 8],[.int .i64 2,.int .i64 6],[.int .i64 0,.int .i64 9],[.int .i64 2,.int .i64 7],[.int .i64 0,.int .i64 10],[.int .i64 2,.int .i64 8],[.int .i64 2,.int .i64 9],[.int .i64 2,.int .i64 10]],.lp [] .skip .skip [.agg [.int .i64 0,.int .i64 0],.agg [.int .i64 0,.int .i64 0,.int .i64 (-1)],.agg [.int .i64 1,.int .i64 0],.agg [.int .i64 0,.int .i64 0,.int .i64 0],.agg [.int .i64 0,.int .i64 1],.agg [.int .i64 0,.int .i64 0,.int .i64 2],.agg [.int .i64 1,.int .i64 1],.agg [.int .i64 1,.int .i64 0,.int .i64 0],.agg [.int .i64 0,.int .i64 2],.agg [.int .i64 0,.int .i64 1,.int .i64 2],.agg [.int .i64 2,.int .i64 0],.agg [.int .i64 1,.int .i64 1,.int .i64 0],.agg [.int .i64 0,.int .i64 3],.agg [.int .i64 0,.int .i64 2,.int .i64 2],.agg [.int .i64 2,.int .i64 1],.agg [.int .i64 2,.int .i64 0,.int .i64 0],.agg [.int .i64 0,.int .i64 4],.agg [.int .i64 0,.int .i64 3,.int .i64 2],.agg [.int .i64 2,.int .i64 2],.agg [.int .i64 2,.int .i64 1,.int .i64 0],.agg [.int .i64 0,.int .i64 5],.agg [.int .i64 0,.int .i64 4,.int .i64 2],.agg [.int .i64 2,.int .i64 3],.agg [.int .i64 2,.int .i64 2,.int .i64 0],.agg [.int .i64 0,.int .i64 6],.agg [.int .i64 0,.int .i64 5,.int .i64 2],.agg [.int .i64 2,.int .i64 4],.agg [.int .i64 2,.int .i64 3,.int .i64 0],.agg [.int .i64 0,.int .i64 7],.agg [.int .i64 0,.int .i64 6,.int .i64 2],.agg [.int .i64 2,.int .i64 5],.agg [.int .i64 2,.int .i64 4,.int .i64 0],.agg [.int .i64 0,.int .i64 8],.agg [.int .i64 0,.int .i64 7,.int .i64 2],.agg [.int .i64 2,.int .i64 6],.agg [.int .i64 2,.int .i64 5,.int .i64 0],.agg [.int .i64 0,.int .i64 9],.agg [.int .i64 0,.int .i64 8,.int .i64 2],.agg [.int .i64 2,.int .i64 7],.agg [.int .i64 2,.int .i64 6,.int .i64 0],.agg [.int .i64 0,.int .i64 10],.agg [.int .i64 0,.int .i64 9,.int .i64 2],.agg [.int .i64 2,.int .i64 8],.agg [.int .i64 2,.int .i64 7,.int .i64 0],.agg [.int .i64 2,.int .i64 9],.agg [.int .i64 2,.int .i64 8,.int .i64 0],.agg [.int .i64 2,.int .i64 10],.agg [.int .i64 2,.int .i64 9,.int .i64 0]] .map])⟩
def E2:Ent:=⟨30,[exA,.int .i64 2],(.ret (.tup [.slr 2 0 0 3,.int .i64 0]),[.live 2 false true [[.slr 1 1 0 3,.int .i64 (-1)],[.slr 1 2 0 3,.int .i64 (-1)],[.slr 1 3 0 3,.int .i64 (-1)]],.live 1 true false [[.int .i64 (-10000)],[.int .i64 (-10000)],[.int .i64 (-10000)]],.live 1 true false [[.int .i64 (-10000)],[.int .i64 (-10000)],[.int .i64 (-10000)]],.live 1 true false [[.int .i64 (-10000)],[.int .i64 (-10000)],[.int .i64 (-10000)]]])⟩
def E3:Ent:=⟨21,[exA,.int .i64 0,.imm 1 true [[.int .i64 2]]],(.ret (.tup [.int .i64 3,.int .i64 0]),[])⟩
def E4:Ent:=⟨21,[exA,.int .i64 0,.imm 1 true [[.int .i64 0]]],(.ret (.tup [.int .i64 0,.int .i64 5]),[])⟩
theorem atY:(Pz Try.prog pr2 400).call (.fn E0.f) E0.args []=some E0.res:=by kernel_rfl
theorem aa2:Bh.call (.fn E0.f) E0.args []=some E0.res:=Tt (pr:=pr) (pr2:=pr2) rfl aqQ eA atY
def T1:Hl:=bX pr2 [E0]
theorem ayP:∀f p,T1 f=some p→∀a h r,p a h=some r→Bh.call (.fn f) a h=some r:=Xq eA (fun e he=>by
 simp only[acI,acM,or_false]at he
 rcases he with rfl
 ·exact aa2)
theorem auU:(Pz Try.prog T1 400).call (.fn E1.f) E1.args []=some E1.res:=by kernel_rfl
theorem aiD:Bh.call (.fn E1.f) E1.args []=some E1.res:=Tt (pr:=pr) (pr2:=T1) rfl wC ayP auU
def T2:Hl:=bX pr2 [E0,E1]
theorem av5:∀f p,T2 f=some p→∀a h r,p a h=some r→Bh.call (.fn f) a h=some r:=Xq eA (fun e he=>by
 simp only[acI,acM,or_false]at he
 rcases he with rfl|rfl
 ·exact aa2
 ·exact aiD)
theorem au2:(Pz Try.prog T2 400).call (.fn E2.f) E2.args []=some E2.res:=by kernel_rfl
theorem ayJ:Bh.call (.fn E2.f) E2.args []=some E2.res:=Tt (pr:=pr) (pr2:=T2) rfl wC av5 au2
def T3:Hl:=bX pr2 [E0,E1]
theorem axF:∀f p,T3 f=some p→∀a h r,p a h=some r→Bh.call (.fn f) a h=some r:=Xq eA (fun e he=>by
 simp only[acI,acM,or_false]at he
 rcases he with rfl|rfl
 ·exact aa2
 ·exact aiD)
theorem ar0:(Pz Try.prog T3 400).call (.fn E3.f) E3.args []=some E3.res:=by kernel_rfl
theorem axS:Bh.call (.fn E3.f) E3.args []=some E3.res:=Tt (pr:=pr) (pr2:=T3) rfl wC axF ar0
def T4:Hl:=bX pr2 [E0,E1]
theorem aw8:∀f p,T4 f=some p→∀a h r,p a h=some r→Bh.call (.fn f) a h=some r:=Xq eA (fun e he=>by
 simp only[acI,acM,or_false]at he
 rcases he with rfl|rfl
 ·exact aa2
 ·exact aiD)
theorem arY:(Pz Try.prog T4 400).call (.fn E4.f) E4.args []=some E4.res:=by kernel_rfl
theorem axV:Bh.call (.fn E4.f) E4.args []=some E4.res:=Tt (pr:=pr) (pr2:=T4) rfl wC aw8 arY
def TK:Hl:=bX pr2 [E2,E3,E4]
theorem ayQ:∀f p,TK f=some p→∀a h r,p a h=some r→Bh.call (.fn f) a h=some r:=Xq eA (fun e he=>by
 simp only[acI,acM,or_false]at he
 rcases he with rfl|rfl|rfl
 ·exact ayJ
 ·exact axS
 ·exact axV)
theorem ad9:(Pz Try.prog TK 400).call (.fn 13) [] []=some (.ret (.bool true),[]):=by kernel_rfl
theorem known_ok:Bh.call (.fn 13) [] []=some (.ret (.bool true),[]):=Tt (pr:=pr) (pr2:=TK) rfl wC ayQ ad9
end Go.Proofs.Ytfkokgjfpojeoaa.Ko
namespace Go.Proofs.Ytfkokgjfpojeoaa
open Go Go.Ev Go.ChangeShapes Go.WideShapes Go.ChangeAt Go.RowKit
set_option maxRecDepth 100000
set_option maxHeartbeats 16000000
def mdL:List Nat:=[96,83,78,56,54,55,79,63,64,135,136,39,67]
def rC:List AV→Aa→Option (Dk × Aa)
 | [],[]=>some (.ret (.bool true),[])
 |_,_=>none
theorem xN:qA Try.prog (fun _=>none) 13 rC:=fun args h out h' hp=>by
 unfold rC at hp
 split at hp
 ·cases hp;exact Ko.calls_ok.1 _ _ _ _ _ Ko.known_ok
 ·cases hp
def pr:Hl:={ at_:=fun f=>if f=13 then some rC else none,md:=(mdL.contains ·),sh:=fun f=>if f=96 then some oI else none }
noncomputable def Bh:Ea:=om Try.prog pr
theorem Vp(f:Nat):Bh.md f=([96,83,78,56,54,55,79,63,64,135,136,39,67]:List Nat).contains f:=ae2 rfl rfl
def Va:=PLift.up (ae7 EE.down (ae7 EVu.down @Vp))
def Vc:=PLift.up (ae7 EG.down (ae7 EVu.down @Vp))
theorem arL{C:R→Prop}[NoN C]{n:Nat}{k:List Ar}{c:Code}{s:St}(h:Un Bh Try.prog n k c C (Ce Bh Try.prog 5000 c [] s)):C (lpK Bh Try.prog n k (Bh.loop c s)):=aqW (pr:=pr) h
theorem own:ownKnob Try.prog.godebug=none:=by kernel_rfl
theorem aoD:zE Try.prog:=fun f fn hf=>by
 have h:(Try.prog.funcs.toList.all fun fn=> !(fn.name== "runtime.NumGoroutine"))=true:=by kernel_rfl
 have:=ae4.1 h fn (by rw[Array.mem_toList_iff];exact Array.mem_of_getElem? hf)
 simpa using this
theorem mixed:Try.prog.follows .mixedOrders=true:=by kernel_rfl
theorem ao5:laidOutB Try.prog=true:=by kernel_rfl
theorem calls_ok:Gi Try.prog (fun _=>none) Bh:=aqX aoD ⟨fun f p h=>(by
 simp only[pr]at h
 split at h
 ·rename_i e;subst e;cases h;exact xN
 ·cases h),fun f p h=>(by
 simp only[pr]at h
 split at h
 ·rename_i e;subst e;cases h;exact anX (yR aoD Try.func96 rfl) Try.slices_Sort_int
 ·cases h)⟩ mixed
theorem as5{W:World}{S:Nat→Prop}:Qp (fun _=>none) W S:=fun b o h=>by cases h
theorem sO{f:Nat}{fn:Func}{c:Code}{args:List AV}{h:Aa}{Q:Dk→Aa→Prop}(hp:pr f=none)(hf:Try.prog.funcs[f]?=some fn)(hb:fn.body=some c)(hl:afR args.length fn.ntmps=true)
 (he:FnE Try.prog h.length fn.results.toList Q (Ce Bh Try.prog 5000 c [] ⟨mk fn.ntmps (Cj args),h⟩)):ClQ Bh f args h Q:=ClQ.start (pr:=pr) hp hf hb hl he
theorem We{f:Nat}{fn:Func}{c:Code}{args:List AV}{h:Aa}{Q:Dk→Aa→Prop}(hp:pr f=none)(hf:Try.prog.funcs[f]?=some fn)(hb:fn.body=some c)(hl:afR args.length fn.ntmps=true)
 (he:FnS Try.prog fn.results.toList Q (Ce Bh Try.prog 5000 c [] ⟨mk fn.ntmps (Cj args),h⟩)) (hs:pr.sh f=none:=by exact rfl):kZ Bh f args h Q:=kZ.start (pr:=pr) hp hf hb hl he hs
theorem ce{f:Nat}{fn:Func}{c:Code}{args:List AV}{h:Aa}{o:Dk}{h':Aa}(hf:Try.prog.funcs[f]?=some fn)(he:FnE Try.prog h.length fn.results.toList (fun o1 h1=>(o1,h1)=(o,h')) (Ce Bh Try.prog 5000 c [] ⟨mk fn.ntmps (Cj args),h⟩))(hp:pr f=none:=by exact rfl)(hb:fn.body=some c:=by exact rfl)(hl:afR args.length fn.ntmps=true:=by exact rfl):Bh.call (.fn f) args h=some (o,h'):=(sO hp hf hb hl he).eq
theorem csh{f:Nat}{fn:Func}{c:Code}{args:List AV}{h:Aa}{o:Dk}{h':Aa}(hf:Try.prog.funcs[f]?=some fn)(he:FnS Try.prog fn.results.toList (fun o1 h1=>(o1,h1)=(o,h')) (Ce Bh Try.prog 5000 c [] ⟨mk fn.ntmps (Cj args),h⟩))(hp:pr f=none:=by exact rfl)(hb:fn.body=some c:=by exact rfl)(hl:afR args.length fn.ntmps=true:=by exact rfl)(hs:pr.sh f=none:=by exact rfl):Bh.call (.sh f) args h=some (o,h'):=(We hp hf hb hl he hs).eq
theorem Lp{α σ ρ:Type}{c:Code}(N:Nat)(l:List α)(E:Nat→σ→Tm→Aa→Prop)(F:List α→σ→ρ)(Q:ρ→Ex→Tm→Aa→Prop)
 (stop:∀s t h Q',(∀e t h,Q (F [] s) e t h→Q' e ⟨mk N t,h⟩)→E l.length s t h→mU N (fun _ _=>False) Q' (Ce Bh Try.prog 5000 c [] ⟨mk N t,h⟩))
 (go:∀x rest i s t h J Q',(∀t' h' s',E (i+1) s' t' h'→F rest s'=F (x::rest) s→J t' h')→(∀e t h,Q (F (x::rest) s) e t h→Q' e ⟨mk N t,h⟩)→l[i]?=some x→i<l.length→E i s t h→
   mU N J Q' (Ce Bh Try.prog 5000 c [] ⟨mk N t,h⟩)):
 ∀s t h,E 0 s t h→LpQ Bh c ⟨mk N t,h⟩ (Ot N (Q (F l s))):=oP (pr:=pr) rfl N l E F Q stop go
theorem cnt{σ ρ:Type}{c:Code}(N:Nat)(E:Nat→σ→Tm→Aa→Prop)(F:Nat→σ→ρ)(Q:ρ→Ex→Tm→Aa→Prop)
 (stop:∀s t h Q',(∀e t h,Q (F 0 s) e t h→Q' e ⟨mk N t,h⟩)→E 0 s t h→mU N (fun _ _=>False) Q' (Ce Bh Try.prog 5000 c [] ⟨mk N t,h⟩))
 (go:∀n s t h J Q',(∀t' h' s',E n s' t' h'→F n s'=F (n+1) s→J t' h')→(∀e t h,Q (F (n+1) s) e t h→Q' e ⟨mk N t,h⟩)→E (n+1) s t h→mU N J Q' (Ce Bh Try.prog 5000 c [] ⟨mk N t,h⟩)):
 ∀n s t h,E n s t h→LpQ Bh c ⟨mk N t,h⟩ (Ot N (Q (F n s))):=ahX (pr:=pr) rfl N E F Q stop go
def iv(x:Int):List AV:=[.int .i64 x]
theorem Ab{h:Aa}{b:Nat}{c:CB}(h0:h[b]?=some c)(l:Aa):(h++l)[b]?=some c:=by
 rw[List.getElem?_append_left (agA.1 h0).1];exact h0
end Go.Proofs.Ytfkokgjfpojeoaa
namespace Go.Proofs.Ytfkokgjfpojeoaa
open Go.Ev Go
set_option maxRecDepth 100000
set_option maxHeartbeats 16000000
structure Ba where
 lo:Int
 hi:Int
 byp:Bool
def Ba.cells(s:Ba):List AV:=[.int .i64 s.lo,.int .i64 s.hi,.bool s.byp]
structure Ag where
 nn:Bool
 sens:List Int
 need:Int
 level:Int
 above:Bool
def Ag.cells(v:Ag):List AV:=[Ad 1 true v.nn (v.sens.map iv),.int .i64 v.need,.int .i64 v.level,.bool v.above]
structure Aj where
 vote:Int
 is:Bool
def Aj.cells(w:Aj):List AV:=[.int .i64 w.vote,.bool w.is]
structure Ai where
 frm:Int
 to:Int
 nn:Bool
 wants:List Aj
 cmd:Int
 after:Int
def Ai.cells(x:Ai):List AV:=[.int .i64 x.frm,.int .i64 x.to,Ad 2 true x.nn (x.wants.map Aj.cells),.int .i64 x.cmd,.int .i64 x.after]
structure Ac where
 nS:Bool
 sens:List Ba
 nV:Bool
 votes:List Ag
 nM:Bool
 moves:List Ai
 states:Int
 cmds:Int
 bgn:Int
 nO:Bool
 opn:List Int
abbrev Ac.cells(m:Ac):List AV:=[Ad 3 true m.nS (m.sens.map Ba.cells),Ad 4 false m.nV (m.votes.map Ag.cells),Ad 5 false m.nM (m.moves.map Ai.cells),.int .i64 m.states,.int .i64 m.cmds,.int .i64 m.bgn,Ad 1 true m.nO (m.opn.map iv)]
structure Bw where
 nn:Bool
 reads:List Int
 cmd:Int
def Bw.cells(s:Bw):List AV:=[Ad 1 true s.nn (s.reads.map iv),.int .i64 s.cmd]
structure Ac.small(m:Ac):Prop where
 sens:m.sens.length≤maxLen
 votes:m.votes.length≤maxLen
 moves:m.moves.length≤maxLen
 opn:m.opn.length≤maxLen
 vs:∀v∈m.votes,v.sens.length≤maxLen
 ws:∀x∈m.moves,x.wants.length≤maxLen
def Ie(x lo hi:Int):Bool:=decide (lo≤x)&&decide (x≤hi)
theorem Nj(x lo hi:Int):Bh.call (.fn 43) [.int .i64 x,.int .i64 lo,.int .i64 hi] []=some (.ret (.bool (Ie x lo hi)),[]):=by
 (refine ce Try.func43 ?_;simp only[Try.f43];(have hb:=trivial;with_reducible repeat' (first|simp only[hb,Vc.down,seval]|refine An ?_ ?_<;>intro hb|refine fd ?_|fail)))
 all_goals simp[Ie, *]
theorem dX(x lo hi:Int):Bh.call (.fn 48) [.int .i64 x,.int .i64 lo,.int .i64 hi] []=some (.ret (.bool (Ie x lo hi)),[]):=by
 (refine ce Try.func48 ?_;simp only[Try.f48];(have hb:=trivial;with_reducible repeat' (first|simp only[hb,Vc.down,seval]|refine An ?_ ?_<;>intro hb|refine fd ?_|fail)))
 all_goals simp[Ie, *]
def Kw(x:Int):Bool:=Ie x (-10000) 10000
theorem Vj(x:Int):Bh.call (.fn 69) [.int .i64 x] []=some (.ret (.bool (Kw x)),[]):=by
 (refine ce Try.func69 ?_;simp only[Try.f69];(have hb:=trivial;with_reducible repeat' (first|simp only[hb,Vc.down,seval,Nj]|refine An ?_ ?_<;>intro hb|refine fd ?_|fail)))
 all_goals rfl
theorem amF(x:Int):Bh.call (.fn 82) [.int .i64 x] []=some (.ret (.bool (!Kw x)),[]):=by
 (refine ce Try.func82 ?_;simp only[Try.f82];(have hb:=trivial;with_reducible repeat' (first|simp only[hb,Vc.down,seval,Vj]|refine An ?_ ?_<;>intro hb|refine fd ?_|fail)))
theorem lP(x:Int):Bh.call (.fn 74) [.int .i64 x] []=some (.ret (.bool (!Ie x 0 255)),[]):=by
 (refine ce Try.func74 ?_;simp only[Try.f74];(have hb:=trivial;with_reducible repeat' (first|simp only[hb,Vc.down,seval,Nj]|refine An ?_ ?_<;>intro hb|refine fd ?_|fail)))
def Lm(s:Ba)(v:Ag)(r:Int):Bool:= !s.byp&&(!Ie r s.lo s.hi||(if v.above=true then decide (v.level≤r)else decide (r≤v.level)))
theorem qC(s:Ba)(v:Ag)(r:Int):Bh.call (.fn 76) [.agg [.int .i64 s.lo,.int .i64 s.hi,.bool s.byp],.agg [Ad 1 true v.nn (v.sens.map iv),.int .i64 v.need,.int .i64 v.level,.bool v.above],.int .i64 r] []=some (.ret (.bool (Lm s v r)),[]):=by
 (refine ce Try.func76 ?_;simp only[Try.f76];(have hb:=trivial;with_reducible repeat' (first|simp only[hb,Vc.down,seval,aw2.down,Nj]|refine An ?_ ?_<;>intro hb|refine fd ?_|fail)))
 all_goals simp_all[Lm]
def Rx{α:Type}(p:α→Bool):List α→Int→Int
 | [],_=> -1
 |x::l,i=>if p x=true then i else Rx p l (i+1)
theorem Jl{α:Type}(p:α→Bool):∀(l:List α) (i:Int),0≤i→decide (0≤Rx p l i)=l.any p
 | [],i,_=>rfl
 |x::l,i,h=>by
  unfold Rx
  split
  ·rename_i hp;simp[h,hp]
  ·rename_i hp;rw[Jl p l (i+1) (by omega)];simp[hp]
theorem hU{l:List Int}{nn:Bool}{g:Nat}{cap:List AV}{p:Int→Bool}(hc:cap.all (Az 8)=true)(hc7:cap.all (Az 7)=true)(hp:∀x∈l,Bh.call (.fn g) (.int .i64 x::cap) []=some (.ret (.bool (p x)),[]))(hl:l.length≤maxLen)(hgm:Bh.md g=false:=by exact rfl):
 Bh.call (.fn 91) [Ad 1 true nn (l.map iv),.func (.func g) [] cap] []=some (.ret (.int .i64 (Rx p l 0)),[]):=by
 (refine ce Try.func91 ?_;simp only[Try.f91];(have hb:=trivial;with_reducible repeat' (first|simp only[hb,Vc.down,seval,mR.down,aaA]|refine An ?_ ?_<;>intro hb|refine fd ?_|fail)))
 refine Ci (Lp 19 l (fun i (s:Int) t h=>s=i∧h=[]∧t 0=Ad 1 true nn (l.map iv)∧t 1=.func (.func g) [] cap∧t 7=.int .i64 l.length∧t 8=.int .i64 i)
  (fun rest s=>Rx p rest s) (fun r e t h=>h=[]∧((e=.exit 0∧r= -1)∨(e=.ret∧t 4=.int .i64 r))) ?_ ?_ 0 _ _ ?_) (fun e t h hk=>?_)
 ·rintro s t h Q' kQ ⟨rfl,rfl,h0,h1,h7,h8⟩
  (have hb:=trivial;with_reducible repeat' (first|simp only[hb,Vc.down,seval,mR.down,h0,h1,h7,h8,aaK,decide_false]|refine An ?_ ?_<;>intro hb|refine fd ?_|fail))
  exact kQ _ _ _ ⟨rfl,.inl ⟨rfl,rfl⟩⟩
 ·rintro x rest i s t h J Q' kJ kQ hx hi ⟨rfl,rfl,h0,h1,h7,h8⟩
  have hgm2:=hgm
  simp only[Vp,af4,af5,af6]at hgm2
  have hpx:=hp x (aa0 hx)
  have hd:decide ((i:Int)<(l.length:Int))=true:=by simpa using hi
  (have hb:=trivial;with_reducible repeat' (first|simp only[hb,Vc.down,seval,mR.down,h0,h1,h7,h8,hd,hx,iv,hc,hc7,hpx,hgm2,Aq hi hl]|refine An ?_ ?_<;>intro hb|refine fd ?_|fail))
  ·exact kQ _ _ _ ⟨rfl,.inr ⟨rfl,by simp[up,Rx,hb]⟩⟩
  ·exact Av (kJ _ _ (i+1) ⟨by simp,rfl,by simp[up,h0],by simp[up,h1],by simp[up,h7],by simp[up]⟩ (by simp[Rx,hb]))
 ·exact⟨rfl,rfl,by simp[up,Cj],by simp[up,Cj],by simp[up],by simp[up]⟩
 ·obtain⟨rfl,⟨rfl,hi⟩|⟨rfl,hi⟩⟩:=hk
  ·(have hb:=trivial;with_reducible repeat' (first|simp only[hb,Vc.down,seval,mR.down]|refine An ?_ ?_<;>intro hb|refine fd ?_|fail))
   rw[hi]
  ·(have hb:=trivial;with_reducible repeat' (first|simp only[hb,Vc.down,seval,mR.down,hi]|refine An ?_ ?_<;>intro hb|refine fd ?_|fail))
theorem Yc{l:List Int}{nn:Bool}{g:Nat}{cap:List AV}{p:Int→Bool}(hc:cap.all (Az 8)=true)(hc7:cap.all (Az 7)=true)(hp:∀x∈l,Bh.call (.fn g) (.int .i64 x::cap) []=some (.ret (.bool (p x)),[]))(hl:l.length≤maxLen)(hgm:Bh.md g=false:=by exact rfl):
 Bh.call (.fn 73) [Ad 1 true nn (l.map iv),.func (.func g) [] cap] []=some (.ret (.bool (l.any p)),[]):=by
 (refine ce Try.func73 ?_;simp only[Try.f73];(have hb:=trivial;with_reducible repeat' (first|simp only[hb,Vc.down,seval,hU hc hc7 hp hl hgm,hc,hc7,Jl p l 0 (aa3 0)]|refine An ?_ ?_<;>intro hb|refine fd ?_|fail)))
def Hf(b:Int):List Int→Option Int→Bool
 | [],_=>true
 |n::l,p=>Ie n 0 (IntKind.i64.wrap (b-1))&&(match p with|none=>true|some q=> !decide (n≤q))&&Hf b l (some n)
theorem Pj{l:List Int}{nn:Bool}(b:Int)(hl:l.length≤maxLen):Bh.call (.fn 53) [Ad 1 true nn (l.map iv),.int .i64 b] []=some (.ret (.bool (Hf b l none)),[]):=by
 (refine ce Try.func53 ?_;simp only[Try.f53];(have hb:=trivial;with_reducible repeat' (first|simp only[hb,Vc.down,seval,fN.down,aaA]|refine An ?_ ?_<;>intro hb|refine fd ?_|fail)))
 refine Ci (Lp 33 l (fun i (s:Option Int) t h=>(i=0∧s=none∨0<i∧s=l[i-1]?)∧t 0=Ad 1 true nn (l.map iv)∧t 1=.int .i64 b∧t 7=Ad 1 true nn (l.map iv)∧t 8=.int .i64 l.length∧t 9=.int .i64 i)
  (fun rest s=>Hf b rest s) (fun r e t h=>if r=true then e=.exit 0 else e=.ret∧t 4=.bool false) ?_ ?_ none _ _ ?_) (fun e t h hk=>?_)
 ·rintro s t h Q' kQ ⟨hs,h0,h1,h7,h8,h9⟩
  (have hb:=trivial;with_reducible repeat' (first|simp only[hb,Vc.down,seval,fN.down,h0,h1,h7,h8,h9,aaK,decide_false]|refine An ?_ ?_<;>intro hb|refine fd ?_|fail))
  exact kQ _ _ _ (by simp[Hf])
 ·rintro x rest i s t h J Q' kJ kQ hx hi ⟨hs,h0,h1,h7,h8,h9⟩
  have hd:decide ((i:Int)<(l.length:Int))=true:=by simpa using hi
  have kF:∀{p:Option Int},(Ie x 0 (IntKind.i64.wrap (b-1))&&(match p with|none=>true|some q=> !decide (x≤q)))=false→Hf b (x::rest) p=false:=fun h=>by simp[Hf,h]
  have kT:∀{p:Option Int},(Ie x 0 (IntKind.i64.wrap (b-1))&&(match p with|none=>true|some q=> !decide (x≤q)))=true→Hf b rest (some x)=Hf b (x::rest) p:=fun h=>by simp[Hf,h]
  have hw:=Aq hi hl
  rcases hs with⟨rfl,rfl⟩|⟨hpos,rfl⟩
  ·simp only[ajM,Int.zero_add]at hd h9 hw
   (have hb:=trivial;with_reducible repeat' (first|simp only[hb,Vc.down,seval,fN.down,h0,h1,h7,h8,h9,hd,hx,iv,Nj,hw,Int.toNat_zero,aa3,aaK,decide_false]|refine An ?_ ?_<;>intro hb|refine fd ?_|fail))
   all_goals first
    |exact kQ _ _ _ (by rw[if_neg (by rw[kF (by simp_all)];simp)];exact⟨rfl,rfl⟩)
    |exact Av (kJ _ _ (some x) ⟨.inr ⟨by omega,by simp[hx]⟩,by simp[up,h0],by simp[up,h1],by simp[up,h7],by simp[up,h8],by simp[up]<;>omega⟩ (kT (by simp_all)))
  ·obtain⟨j,rfl⟩:∃j,i=j+1:=⟨i-1,by omega⟩
   obtain⟨q,hq⟩:∃q,l[j]?=some q:=⟨l[j],adV (by omega)⟩
   have hj:IntKind.i64.wrap (((j+1:Nat):Int)-1)=(j:Int):=by unfold maxLen at hl;rw[Du (by omega) (by omega)];omega
   have hg:decide (0<((j+1:Nat):Int))=true:=by rw[decide_eq_true_eq];omega
   simp only[aj8,hq]at kJ kQ
   (have hb:=trivial;with_reducible repeat' (first|simp only[hb,Vc.down,seval,fN.down,h0,h1,h7,h8,h9,hd,hx,iv,Nj,hw,hj,hg,hq]|refine An ?_ ?_<;>intro hb|refine fd ?_|fail))
   all_goals first
    |exact kQ _ _ _ (by rw[if_neg (by rw[kF (by simp_all)];simp)];exact⟨rfl,rfl⟩)
    |exact Av (kJ _ _ (some x) ⟨.inr ⟨by omega,by simp[hx]⟩,by simp[up,h0],by simp[up,h1],by simp[up,h7],by simp[up,h8],by simp[up]<;>omega⟩ (kT (by simp_all)))
 ·exact⟨.inl ⟨rfl,rfl⟩,by simp[up,Cj],by simp[up,Cj],by simp[up,Cj],by simp[up],by simp[up]⟩
 ·split at hk
  ·subst hk
   rename_i hr
   (have hb:=trivial;with_reducible repeat' (first|simp only[hb,Vc.down,seval,fN.down]|refine An ?_ ?_<;>intro hb|refine fd ?_|fail))
   all_goals simp[hr]
  ·obtain⟨rfl,h2⟩:=hk
   rename_i hr
   (have hb:=trivial;with_reducible repeat' (first|simp only[hb,Vc.down,seval,fN.down,h2]|refine An ?_ ?_<;>intro hb|refine fd ?_|fail))
   all_goals simp[hr]
def Qo(ns:Int)(v:Ag):Bool:=Hf ns v.sens none&&Ie v.need 1 v.sens.length&&Kw v.level
theorem at0(v:Ag)(ns:Int)(hl:v.sens.length≤maxLen):Bh.call (.fn 47) [.agg [Ad 1 true v.nn (v.sens.map iv),.int .i64 v.need,.int .i64 v.level,.bool v.above],.int .i64 ns] []=some (.ret (.bool (Qo ns v)),[]):=by
 (refine ce Try.func47 ?_;simp only[Try.f47];(have hb:=trivial;with_reducible repeat' (first|simp only[hb,Vc.down,seval,aeF.down,aaA]|refine An ?_ ?_<;>intro hb|refine fd ?_|fail)))
 refine Ci (Lp 51 v.sens (fun i (s:Option Int) t h=>(i=0∧s=none∨0<i∧s=v.sens[i-1]?)∧h[0]?=some (.live 4 false false [[Ad 1 true v.nn (v.sens.map iv),.int .i64 v.need,.int .i64 v.level,.bool v.above]])∧t 1=.int .i64 ns∧t 2=.ptr 0 0 0∧t 5=.int .i64 i)
  (fun rest s=>Hf ns rest s) (fun r e t h=>if r=true then e=.exit 0∧h[0]?=some (.live 4 false false [[Ad 1 true v.nn (v.sens.map iv),.int .i64 v.need,.int .i64 v.level,.bool v.above]])∧t 2=.ptr 0 0 0 else e=.ret∧t 4=.bool false) ?_ ?_ none _ _ ?_) (fun e t h hk=>?_)
 ·rintro s t h Q' kQ ⟨hs,hh,h1,h2,h5⟩
  (have hb:=trivial;with_reducible repeat' (first|simp only[hb,Vc.down,seval,aeF.down,hh,h1,h2,h5,aaA,aaK,decide_false]|refine An ?_ ?_<;>intro hb|refine fd ?_|fail))
  exact kQ _ _ _ (by simp[Hf,up,h2,hh])
 ·rintro x rest i s t h J Q' kJ kQ hx hi ⟨hs,hh,h1,h2,h5⟩
  have hd:decide ((i:Int)<(v.sens.length:Int))=true:=by simpa using hi
  have hA:=Ab hh
  have kF:∀{p:Option Int},(Ie x 0 (IntKind.i64.wrap (ns-1))&&(match p with|none=>true|some q=> !decide (x≤q)))=false→Hf ns (x::rest) p=false:=fun h=>by simp[Hf,h]
  have kT:∀{p:Option Int},(Ie x 0 (IntKind.i64.wrap (ns-1))&&(match p with|none=>true|some q=> !decide (x≤q)))=true→Hf ns rest (some x)=Hf ns (x::rest) p:=fun h=>by simp[Hf,h]
  have hw:=Aq hi hl
  rcases hs with⟨rfl,rfl⟩|⟨hpos,rfl⟩
  ·simp only[ajM,Int.zero_add]at hd h5 hw
   (have hb:=trivial;with_reducible repeat' (first|simp only[hb,Vc.down,seval,aeF.down,hA,hh,h1,h2,h5,hd,hx,aaA,iv,dX,hw,Int.toNat_zero,aa3,aaK,decide_false]|refine An ?_ ?_<;>intro hb|refine fd ?_|fail))
   all_goals first
    |exact kQ _ _ _ (by rw[if_neg (by rw[kF (by simp_all)];simp)];exact⟨rfl,rfl⟩)
    |exact Av (kJ _ _ (some x) ⟨.inr ⟨by omega,by simp[hx]⟩,by simp[hh],by simp[up,h1],by simp[up,h2],by simp[up]<;>omega⟩ (kT (by simp_all)))
  ·obtain⟨j,rfl⟩:∃j,i=j+1:=⟨i-1,by omega⟩
   obtain⟨q,hq⟩:∃q,v.sens[j]?=some q:=⟨v.sens[j],adV (by omega)⟩
   have hj:IntKind.i64.wrap (((j+1:Nat):Int)-1)=(j:Int):=by unfold maxLen at hl;rw[Du (by omega) (by omega)];omega
   have hg:decide (0<((j+1:Nat):Int))=true:=by rw[decide_eq_true_eq];omega
   simp only[aj8,hq]at kJ kQ
   (have hb:=trivial;with_reducible repeat' (first|simp only[hb,Vc.down,seval,aeF.down,hA,hh,h1,h2,h5,hd,hx,aaA,iv,dX,hw,hj,hg,hq]|refine An ?_ ?_<;>intro hb|refine fd ?_|fail))
   all_goals first
    |exact kQ _ _ _ (by rw[if_neg (by rw[kF (by simp_all)];simp)];exact⟨rfl,rfl⟩)
    |exact Av (kJ _ _ (some x) ⟨.inr ⟨by omega,by simp[hx]⟩,by simp[hh],by simp[up,h1],by simp[up,h2],by simp[up]<;>omega⟩ (kT (by simp_all)))
 ·exact⟨.inl ⟨rfl,rfl⟩,rfl,by simp[up,Cj],by simp[up],by simp[up]⟩
 ·split at hk
  ·obtain⟨rfl,hh,h2⟩:=hk
   have hA:=Ab hh
   rename_i hr
   (have hb:=trivial;with_reducible repeat' (first|simp only[hb,Vc.down,seval,aeF.down,hA,hh,h2,aaA,dX]|refine An ?_ ?_<;>intro hb|refine fd ?_|fail))
   all_goals simp_all[Qo,Kw]
  ·obtain⟨rfl,h2⟩:=hk
   rename_i hr
   (have hb:=trivial;with_reducible repeat' (first|simp only[hb,Vc.down,seval,aeF.down,h2]|refine An ?_ ?_<;>intro hb|refine fd ?_|fail))
   all_goals simp[Qo,hr]
end Go.Proofs.Ytfkokgjfpojeoaa
