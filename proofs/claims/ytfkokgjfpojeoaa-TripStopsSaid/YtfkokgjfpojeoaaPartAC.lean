/- The functions of the layer, walked. -/
import Derived.Test.YtfkokgjfpojeoaaPartAB
open List renaming length_map→aaA,mem_of_getElem?→aa0,all_cons→adV,all_nil→af5,all_eq_not_any_not→af6,contains_cons→af7,contains_nil→af8,length_set→agB,getElem?_eq_some_iff→aiO,take_add_one→ai2,getElem?_eq_getElem→ajM,all_eq_true→aj8,getElem?_set_self→alV
open Int renaming lt_irrefl→aaK,le_refl→agA
open Bool renaming true_and→aa3,not_true→aa9,false_and→abO,not_false→acI,eq_false_iff→acM,and_eq_true→acY,and_true→ae2,and_false→ae4,not_eq_eq_eq_not→ae7,and_self→afR,not_not→af4,or_false→af9
set_option linter.unusedSimpArgs false
set_option linter.unusedVariables false
namespace Go.Proofs.Ytfkokgjfpojeoaa
open Go.Ev Go
set_option maxRecDepth 100000
set_option maxHeartbeats 16000000
theorem qR(o w:Aj):Bh.call (.fn 90) [.agg [.int .i64 o.vote,.bool o.is],.ptr 0 0 0] [.live 2 true false [[.int .i64 w.vote,.bool w.is]]]=some (.ret (.bool (o.vote==w.vote)),[.live 2 true false [[.int .i64 w.vote,.bool w.is]]]):=by
 (refine ce Try.func90 ?_;simp only[Try.f90];(have hb:=trivial;with_reducible repeat' (first|simp only[hb,Vc.down,seval,aw9.down]|refine An ?_ ?_<;>intro hb|refine fd ?_|fail)))
theorem cH{l:List Aj}{nn:Bool}{g:Nat}{ww:Aj}{p:Aj→Bool}(hp:∀x∈l,Bh.call (.fn g) (.agg [.int .i64 x.vote,.bool x.is]::[.ptr 0 0 0]) [.live 2 true false [[.int .i64 ww.vote,.bool ww.is]]]=some (.ret (.bool (p x)),[.live 2 true false [[.int .i64 ww.vote,.bool ww.is]]]))(hl:l.length≤maxLen)(hgm:Bh.md g=false:=by exact rfl):
 Bh.call (.fn 98) [Ad 2 true nn (l.map Aj.cells),.func (.func g) [] [.ptr 0 0 0]] [.live 2 true false [[.int .i64 ww.vote,.bool ww.is]]]=some (.ret (.int .i64 (Rx p l 0)),[.live 2 true false [[.int .i64 ww.vote,.bool ww.is]]]):=by
 (refine ce Try.func98 ?_;simp only[Try.f98];(have hb:=trivial;with_reducible repeat' (first|simp only[hb,Vc.down,seval,Su.down,aaA]|refine An ?_ ?_<;>intro hb|refine fd ?_|fail)))
 refine Ci (Lp 19 l (fun i (s:Int) t h=>s=i∧h=[.live 2 true false [[.int .i64 ww.vote,.bool ww.is]]]∧t 0=Ad 2 true nn (l.map Aj.cells)∧t 1=.func (.func g) [] [.ptr 0 0 0]∧t 7=.int .i64 l.length∧t 8=.int .i64 i)
  (fun rest s=>Rx p rest s) (fun r e t h=>h=[.live 2 true false [[.int .i64 ww.vote,.bool ww.is]]]∧((e=.exit 0∧r= -1)∨(e=.ret∧t 4=.int .i64 r))) ?_ ?_ 0 _ _ ?_) (fun e t h hk=>?_)
 ·rintro s t h Q' kQ ⟨rfl,rfl,h0,h1,h7,h8⟩
  (have hb:=trivial;with_reducible repeat' (first|simp only[hb,Vc.down,seval,Su.down,h0,h1,h7,h8,aaK,decide_false]|refine An ?_ ?_<;>intro hb|refine fd ?_|fail))
  exact kQ _ _ _ ⟨rfl,.inl ⟨rfl,rfl⟩⟩
 ·rintro x rest i s t h J Q' kJ kQ hx hi ⟨rfl,rfl,h0,h1,h7,h8⟩
  have hgm2:=hgm
  simp only[Vp,af7,af8,af9]at hgm2
  have hpx:=hp x (aa0 hx)
  have hd:decide ((i:Int)<(l.length:Int))=true:=by simpa using hi
  (have hb:=trivial;with_reducible repeat' (first|simp only[hb,Vc.down,seval,Su.down,h0,h1,h7,h8,hd,hx,Aj.cells,hpx,hgm2,Aq hi hl]|refine An ?_ ?_<;>intro hb|refine fd ?_|fail))
  ·exact kQ _ _ _ ⟨rfl,.inr ⟨rfl,by simp[up,Rx,hb]⟩⟩
  ·exact Av (kJ _ _ (i+1) ⟨by simp,rfl,by simp[up,h0],by simp[up,h1],by simp[up,h7],by simp[up]⟩ (by simp[Rx,hb]))
 ·exact⟨rfl,rfl,by simp[up,Cj],by simp[up,Cj],by simp[up],by simp[up]⟩
 ·obtain⟨rfl,⟨rfl,hi⟩|⟨rfl,hi⟩⟩:=hk
  ·(have hb:=trivial;with_reducible repeat' (first|simp only[hb,Vc.down,seval,Su.down]|refine An ?_ ?_<;>intro hb|refine fd ?_|fail))
   rw[hi]
  ·(have hb:=trivial;with_reducible repeat' (first|simp only[hb,Vc.down,seval,Su.down,hi]|refine An ?_ ?_<;>intro hb|refine fd ?_|fail))
theorem aE{l:List Aj}{nn:Bool}{g:Nat}{ww:Aj}{p:Aj→Bool}(hp:∀x∈l,Bh.call (.fn g) (.agg [.int .i64 x.vote,.bool x.is]::[.ptr 0 0 0]) [.live 2 true false [[.int .i64 ww.vote,.bool ww.is]]]=some (.ret (.bool (p x)),[.live 2 true false [[.int .i64 ww.vote,.bool ww.is]]]))(hl:l.length≤maxLen)(hgm:Bh.md g=false:=by exact rfl):
 Bh.call (.fn 89) [Ad 2 true nn (l.map Aj.cells),.func (.func g) [] [.ptr 0 0 0]] [.live 2 true false [[.int .i64 ww.vote,.bool ww.is]]]=some (.ret (.bool (l.any p)),[.live 2 true false [[.int .i64 ww.vote,.bool ww.is]]]):=by
 (refine ce Try.func89 ?_;simp only[Try.f89];(have hb:=trivial;with_reducible repeat' (first|simp only[hb,Vc.down,seval,cH hp hl hgm,Jl p l 0 (agA 0)]|refine An ?_ ?_<;>intro hb|refine fd ?_|fail)))
def Hn(nv:Int):List Aj→List Aj→Bool
 |_,[]=>true
 |pre,w::l=>Ie w.vote 0 (IntKind.i64.wrap (nv-1))&& !(pre.any fun o=>o.vote==w.vote)&&Hn nv (pre++[w]) l
def Is(m:Ac)(x:Ai):Bool:=Hn m.votes.length [] x.wants&&Ie x.frm 0 (IntKind.i64.wrap (m.states-1))&&Ie x.to 0 (IntKind.i64.wrap (m.states-1))&&decide (x.wants.length≤6)&&Ie x.cmd (-1) (IntKind.i64.wrap (m.cmds-1))&&Ie x.after 0 10
theorem yB(m:Ac)(y:Ai)(hl:y.wants.length≤maxLen):Bh.call (.fn 72) [.agg [Ad 3 true m.nS (m.sens.map Ba.cells),Ad 4 false m.nV (m.votes.map Ag.cells),Ad 5 false m.nM (m.moves.map Ai.cells),.int .i64 m.states,.int .i64 m.cmds,.int .i64 m.bgn,Ad 1 true m.nO (m.opn.map iv)],.agg [.int .i64 y.frm,.int .i64 y.to,Ad 2 true y.nn (y.wants.map Aj.cells),.int .i64 y.cmd,.int .i64 y.after]] []=some (.ret (.bool (Is m y)),[]):=by
 have l6:decide ((y.wants.length:Int)≤6)=decide (y.wants.length≤6):=by rw[decide_eq_decide];omega
 (refine ce Try.func72 ?_;simp only[Try.f72];(have hb:=trivial;with_reducible repeat' (first|simp only[hb,Vc.down,seval,bU.down,aaA]|refine An ?_ ?_<;>intro hb|refine fd ?_|fail)))
 refine Ci (Lp 65 y.wants (fun i (zz:List Aj) t h=>t 2=.ptr 0 0 0∧t 3=.ptr 1 0 0∧t 8=Ad 2 true y.nn (y.wants.map Aj.cells)∧t 9=.int .i64 y.wants.length∧t 10=.int .i64 i∧(h[0]?=some (.live 7 false false [[Ad 3 true m.nS (m.sens.map Ba.cells),Ad 4 false m.nV (m.votes.map Ag.cells),Ad 5 false m.nM (m.moves.map Ai.cells),.int .i64 m.states,.int .i64 m.cmds,.int .i64 m.bgn,Ad 1 true m.nO (m.opn.map iv)]])∧h[1]?=some (.live 5 false false [[.int .i64 y.frm,.int .i64 y.to,Ad 2 true y.nn (y.wants.map Aj.cells),.int .i64 y.cmd,.int .i64 y.after]])∧zz=y.wants.take i)) (fun rest zz=>Hn m.votes.length zz rest) (fun r e t h=>(if r=true then e=.exit 0∧t 2=.ptr 0 0 0∧t 3=.ptr 1 0 0∧h[0]?=some (.live 7 false false [[Ad 3 true m.nS (m.sens.map Ba.cells),Ad 4 false m.nV (m.votes.map Ag.cells),Ad 5 false m.nM (m.moves.map Ai.cells),.int .i64 m.states,.int .i64 m.cmds,.int .i64 m.bgn,Ad 1 true m.nO (m.opn.map iv)]])∧h[1]?=some (.live 5 false false [[.int .i64 y.frm,.int .i64 y.to,Ad 2 true y.nn (y.wants.map Aj.cells),.int .i64 y.cmd,.int .i64 y.after]])else e=.ret∧t 4=.bool false)) ?_ ?_ ([]) _ _ ?_) (fun e t h hk=>?_)
 ·rintro p t h Q' kQ ⟨h2,h3,h8,h9,h10,⟨hA,hB,hp⟩⟩
  (have hb:=trivial;with_reducible repeat' (first|simp only[hb,Vc.down,seval,bU.down,h2,h3,h8,h9,h10,aaK,decide_false]|refine An ?_ ?_<;>intro hb|refine fd ?_|fail))
  exact kQ _ _ _ (by rw[if_pos (by rfl)];exact⟨rfl,by simp[up,h2],by simp[up,h3],hA,hB⟩)
 ·rintro x rest i p t h J Q' kJ kQ hx hi ⟨h2,h3,h8,h9,h10,⟨hA,hB,hp⟩⟩
  have hd:decide ((i:Int)<(y.wants.length:Int))=true:=decide_eq_true (by omega)
  have hw:=Aq hi hl
  have hA1:=Ab hA
  have hB1:=Ab hB
  have hcW:=aE (l:=y.wants.take i) (nn:=true) (ww:=x) (g:=90) (p:=fun o=>o.vote==x.vote) (fun o _=>qR o x) (by simp;omega)
  have hsl:=agR (P:=Try.prog) (ty:=57) (n:=2) ⟨_,Try.underlying57,by kernel_rfl⟩ true y.nn (rows:=y.wants.map Aj.cells) (i:=i) (by simpa using hi)
  rw[Sz,List.map_take]at hcW
  subst hp
  cases c1:Ie x.vote 0 (IntKind.i64.wrap ((m.votes.length:Int)-1))with
  |false=>
   (have hb:=trivial;with_reducible repeat' (first|simp only[hb,Vc.down,seval,bU.down,h2,h3,h8,h9,h10,hd,hx,hw,hA1,hB1,Nj,Aj.cells,aaA,hcW,hsl,c1]|refine An ?_ ?_<;>intro hb|refine fd ?_|fail))
   exact kQ _ _ _ (by rw[if_neg (by simp[Hn,c1])];exact⟨rfl,by simp[up]⟩)
  |true=>
   cases c2:(y.wants.take i).any (fun o=>o.vote==x.vote)with
   |true=>
    rw[c2]at hcW
    (have hb:=trivial;with_reducible repeat' (first|simp only[hb,Vc.down,seval,bU.down,h2,h3,h8,h9,h10,hd,hx,hw,hA1,hB1,Nj,Aj.cells,aaA,hcW,hsl,c1]|refine An ?_ ?_<;>intro hb|refine fd ?_|fail))
    exact kQ _ _ _ (by rw[if_neg (by simp only[Hn,c1,c2,aa9,ae4,abO];simp)];exact⟨rfl,by simp[up]⟩)
   |false=>
    rw[c2]at hcW
    (have hb:=trivial;with_reducible repeat' (first|simp only[hb,Vc.down,seval,bU.down,h2,h3,h8,h9,h10,hd,hx,hw,hA1,hB1,Nj,Aj.cells,aaA,hcW,hsl,c1]|refine An ?_ ?_<;>intro hb|refine fd ?_|fail))
    (refine Av (kJ _ _ (y.wants.take i++[x]) ⟨?_,?_,?_,?_,?_,⟨hA1 _,hB1 _,by rw[ai2,hx];rfl⟩⟩ ?_);(simp[up,h2]);(simp[up,h3]);(simp[up,h8]);(simp[up,h9]);(simp[up]);(simp only[Hn,c1,c2,acI,ae2,aa3]))
 ·exact⟨by simp[up,Cj],by simp[up,Cj],by simp[up,Cj],by simp[up,Cj],by simp[up],⟨rfl,rfl,rfl⟩⟩
 ·split at hk
  ·obtain⟨rfl,h2,h3,hA,hB⟩:=hk
   rename_i hr
   have hA1:=Ab hA
   have hB1:=Ab hB
   (have hb:=trivial;with_reducible repeat' (first|simp only[hb,Vc.down,seval,bU.down,h2,h3,hA,hB,hA1,hB1,Nj,aaA,l6]|refine An ?_ ?_<;>intro hb|refine fd ?_|fail))
   all_goals (refine congrArg (fun b=>(Dk.ret (AV.bool b),([]:Aa))) ?_;symm;((try simp only[ae7,aa9,acI]at *);simp only[Is, *,ae4,abO,ae2,aa3,afR,af4,aa9,acI,adV,af5]))
  ·obtain⟨rfl,h4⟩:=hk
   rename_i hr
   (have hb:=trivial;with_reducible repeat' (first|simp only[hb,Vc.down,seval,bU.down,h4]|refine An ?_ ?_<;>intro hb|refine fd ?_|fail))
   all_goals simp_all[Is]
def ad2(w:Aj):List Aj→Bool
 | []=>true
 |o::l=> !(o.vote==w.vote)&&ad2 w l
theorem qH(w:Aj):∀l,ad2 w l= !(l.any fun o=>o.vote==w.vote)
 | []=>rfl
 |o::l=>by simp[ad2,qH w l]
theorem avM(m:Ac)(y:Ai)(hl:y.wants.length≤maxLen):Bh.call (.fn 49) [.agg [Ad 3 true m.nS (m.sens.map Ba.cells),Ad 4 false m.nV (m.votes.map Ag.cells),Ad 5 false m.nM (m.moves.map Ai.cells),.int .i64 m.states,.int .i64 m.cmds,.int .i64 m.bgn,Ad 1 true m.nO (m.opn.map iv)],.agg [.int .i64 y.frm,.int .i64 y.to,Ad 2 true y.nn (y.wants.map Aj.cells),.int .i64 y.cmd,.int .i64 y.after]] []=some (.ret (.bool (Is m y)),[]):=by
 have l6:decide ((y.wants.length:Int)≤6)=decide (y.wants.length≤6):=by rw[decide_eq_decide];omega
 (refine ce Try.func49 ?_;simp only[Try.f49];(have hb:=trivial;with_reducible repeat' (first|simp only[hb,Vc.down,seval,lJ.down,aaA]|refine An ?_ ?_<;>intro hb|refine fd ?_|fail)))
 refine Ci (Lp 77 y.wants (fun i (zz:List Aj) t h=>t 2=.ptr 0 0 0∧t 3=.ptr 1 0 0∧t 5=.int .i64 i∧(h=[.live 7 false false [[Ad 3 true m.nS (m.sens.map Ba.cells),Ad 4 false m.nV (m.votes.map Ag.cells),Ad 5 false m.nM (m.moves.map Ai.cells),.int .i64 m.states,.int .i64 m.cmds,.int .i64 m.bgn,Ad 1 true m.nO (m.opn.map iv)]],.live 5 false false [[.int .i64 y.frm,.int .i64 y.to,Ad 2 true y.nn (y.wants.map Aj.cells),.int .i64 y.cmd,.int .i64 y.after]]]∧zz=y.wants.take i)) (fun rest zz=>Hn m.votes.length zz rest) (fun r e t h=>(if r=true then e=.exit 0∧t 2=.ptr 0 0 0∧t 3=.ptr 1 0 0∧h=[.live 7 false false [[Ad 3 true m.nS (m.sens.map Ba.cells),Ad 4 false m.nV (m.votes.map Ag.cells),Ad 5 false m.nM (m.moves.map Ai.cells),.int .i64 m.states,.int .i64 m.cmds,.int .i64 m.bgn,Ad 1 true m.nO (m.opn.map iv)]],.live 5 false false [[.int .i64 y.frm,.int .i64 y.to,Ad 2 true y.nn (y.wants.map Aj.cells),.int .i64 y.cmd,.int .i64 y.after]]]else e=.ret∧t 4=.bool false)) ?_ ?_ ([]) _ _ ?_) (fun e t h hk=>?_)
 ·rintro p t h Q' kQ ⟨h2,h3,h5,⟨rfl,hp⟩⟩
  (have hb:=trivial;with_reducible repeat' (first|simp only[hb,Vc.down,seval,lJ.down,h2,h3,h5,aaK,decide_false,aaA]|refine An ?_ ?_<;>intro hb|refine fd ?_|fail))
  exact kQ _ _ _ (by rw[if_pos (by rfl)];exact⟨rfl,by simp[up,h2],by simp[up,h3],rfl⟩)
 ·rintro x rest i p t h J Q' kJ kQ hx hi ⟨h2,h3,h5,⟨rfl,hp⟩⟩
  have hd:decide ((i:Int)<(y.wants.length:Int))=true:=decide_eq_true (by omega)
  have hw:=Aq hi hl
  subst hp
  cases c1:Ie x.vote 0 (IntKind.i64.wrap ((m.votes.length:Int)-1))with
  |false=>
   (have hb:=trivial;with_reducible repeat' (first|simp only[hb,Vc.down,seval,lJ.down,h2,h3,h5,hd,hx,hw,dX,c1,Aj.cells,aaA]|refine An ?_ ?_<;>intro hb|refine fd ?_|fail))
   exact kQ _ _ _ (by rw[if_neg (by simp[Hn,c1])];exact⟨rfl,by simp[up]⟩)
  |true=>
   obtain⟨w,rfl⟩:∃w,w=x:=⟨_,rfl⟩
   obtain⟨k,rfl⟩:∃k,k=i:=⟨_,rfl⟩
   have hlen:(y.wants.take k).length=k:=by simp;omega
   have hxk:=hx
   (have hb:=trivial;with_reducible repeat' (first|simp only[hb,Vc.down,seval,lJ.down,h2,h3,h5,hd,hx,hw,dX,c1,Aj.cells,aaA]|refine An ?_ ?_<;>intro hb|refine fd ?_|fail))
   refine Ci (Lp 77 (y.wants.take k) (fun i (zz:Unit) t h=>t 2=.ptr 0 0 0∧t 3=.ptr 1 0 0∧t 5=.int .i64 (k:Int)∧t 6=.int .i64 i∧h=[.live 7 false false [[Ad 3 true m.nS (m.sens.map Ba.cells),Ad 4 false m.nV (m.votes.map Ag.cells),Ad 5 false m.nM (m.moves.map Ai.cells),.int .i64 m.states,.int .i64 m.cmds,.int .i64 m.bgn,Ad 1 true m.nO (m.opn.map iv)]],.live 5 false false [[.int .i64 y.frm,.int .i64 y.to,Ad 2 true y.nn (y.wants.map Aj.cells),.int .i64 y.cmd,.int .i64 y.after]]]) (fun rest zz=>ad2 w rest) (fun r e t h=>(if r=true then e=.exit 2∧t 2=.ptr 0 0 0∧t 3=.ptr 1 0 0∧t 5=.int .i64 (k:Int)∧h=[.live 7 false false [[Ad 3 true m.nS (m.sens.map Ba.cells),Ad 4 false m.nV (m.votes.map Ag.cells),Ad 5 false m.nM (m.moves.map Ai.cells),.int .i64 m.states,.int .i64 m.cmds,.int .i64 m.bgn,Ad 1 true m.nO (m.opn.map iv)]],.live 5 false false [[.int .i64 y.frm,.int .i64 y.to,Ad 2 true y.nn (y.wants.map Aj.cells),.int .i64 y.cmd,.int .i64 y.after]]]else e=.ret∧t 4=.bool false)) ?_ ?_ () _ _ ?_) (fun e tC hC hk=>?_)
   ·rintro _ t h Q' kQ ⟨h2,h3,h5,h6,rfl⟩
    (have hb:=trivial;with_reducible repeat' (first|simp only[hb,Vc.down,seval,lJ.down,h2,h3,h5,h6,aaK,decide_false,hlen]|refine An ?_ ?_<;>intro hb|refine fd ?_|fail))
    exact kQ _ _ _ (by rw[if_pos (by rfl)];exact⟨rfl,by simp[up,h2],by simp[up,h3],by simp[up,h5],rfl⟩)
   ·rintro x rest i _ t h J Q' kJ kQ hx hi ⟨h2,h3,h5,h6,rfl⟩
    have hd:decide ((i:Int)<((y.wants.take k).length:Int))=true:=decide_eq_true (by omega)
    have hw:=Aq hi (by simp;omega)
    rw[hlen]at hd
    have hxi:y.wants[i]?=some x:=by rw[List.getElem?_take]at hx;split at hx;exact hx;cases hx
    cases c3:(x.vote==w.vote)with
    |true=>
     (have hb:=trivial;with_reducible repeat' (first|simp only[hb,Vc.down,seval,lJ.down,h2,h3,h5,h6,hd,hxi,hxk,hw,c3,Aj.cells]|refine An ?_ ?_<;>intro hb|refine fd ?_|fail))
     exact kQ _ _ _ (by rw[if_neg (by simp[ad2,c3])];exact⟨rfl,by simp[up]⟩)
    |false=>
     (have hb:=trivial;with_reducible repeat' (first|simp only[hb,Vc.down,seval,lJ.down,h2,h3,h5,h6,hd,hxi,hxk,hw,c3,Aj.cells]|refine An ?_ ?_<;>intro hb|refine fd ?_|fail))
     (refine Av (kJ _ _ () ⟨?_,?_,?_,?_,rfl⟩ ?_);(simp[up,h2]);(simp[up,h3]);(simp[up,h5]);(simp[up]);(simp[ad2,c3]))
   ·exact⟨by simp[up,Cj,h2,h3,h5],by simp[up,Cj,h2,h3,h5],by simp[up,Cj,h2,h3,h5],by simp[up],rfl⟩
   ·split at hk
    ·rename_i hdup
     obtain⟨rfl,h2,h3,h5,rfl⟩:=hk
     (have hb:=trivial;with_reducible repeat' (first|simp only[hb,Vc.down,seval,lJ.down,h2,h3,h5,hw]|refine An ?_ ?_<;>intro hb|refine fd ?_|fail))
     rw[qH]at hdup
     (refine Av (kJ _ _ (y.wants.take k++[w]) ⟨?_,?_,?_,⟨rfl,by rw[ai2,hxk];rfl⟩⟩ ?_);(simp[up,h2]);(simp[up,h3]);(simp[up]);(simp only[Hn,c1,hdup,aa3]))
    ·rename_i hdup
     obtain⟨rfl,h4⟩:=hk
     (have hb:=trivial;with_reducible repeat' (first|simp only[hb,Vc.down,seval,lJ.down,h4]|refine An ?_ ?_<;>intro hb|refine fd ?_|fail))
     rw[qH]at hdup
     exact kQ _ _ _ (by rw[if_neg (by simp only[Hn,c1,aa3,acM.2 hdup,abO];simp)];exact⟨rfl,by simp[up,h4]⟩)
 ·exact⟨by simp[up,Cj],by simp[up,Cj],by simp[up],⟨rfl,rfl⟩⟩
 ·split at hk
  ·obtain⟨rfl,h2,h3,rfl⟩:=hk
   rename_i hr
   (have hb:=trivial;with_reducible repeat' (first|simp only[hb,Vc.down,seval,lJ.down,h2,h3,dX,aaA,l6]|refine An ?_ ?_<;>intro hb|refine fd ?_|fail))
   all_goals (refine congrArg (fun b=>(Dk.ret (AV.bool b),([]:Aa))) ?_;symm;((try simp only[ae7,aa9,acI]at *);simp only[Is, *,ae4,abO,ae2,aa3,afR,af4,aa9,acI,adV,af5]))
  ·obtain⟨rfl,h4⟩:=hk
   rename_i hr
   (have hb:=trivial;with_reducible repeat' (first|simp only[hb,Vc.down,seval,lJ.down,h4]|refine An ?_ ?_<;>intro hb|refine fd ?_|fail))
   all_goals simp_all[Is]
def dA(s:Ba):Bool:=Kw s.lo&&Kw s.hi&& !decide (s.hi<s.lo)
def Lj(m:Ac):Bool:=decide (m.sens.length≤6)&&decide (m.votes.length≤6)&&decide (m.moves.length≤20)&&Ie m.states 1 8&&Ie m.cmds 0 4&&Ie m.bgn 0 (IntKind.i64.wrap (m.states-1))&&((m.opn.length:Int)==m.states)
def Be(m:Ac):Bool:=Lj m&&m.sens.all dA&&m.votes.all (Qo m.sens.length)&&m.moves.all (Is m)&&m.opn.all (fun n=>Ie n 0 255)
theorem kC(m:Ac)(x:Ai)(hl:x.wants.length≤maxLen):Bh.call (.fn 71) [.agg [.int .i64 x.frm,.int .i64 x.to,Ad 2 true x.nn (x.wants.map Aj.cells),.int .i64 x.cmd,.int .i64 x.after],.ptr 0 0 0] [.live 7 false false [[Ad 3 true m.nS (m.sens.map Ba.cells),Ad 4 false m.nV (m.votes.map Ag.cells),Ad 5 false m.nM (m.moves.map Ai.cells),.int .i64 m.states,.int .i64 m.cmds,.int .i64 m.bgn,Ad 1 true m.nO (m.opn.map iv)]]]=some (.ret (.bool (!Is m x)),[.live 7 false false [[Ad 3 true m.nS (m.sens.map Ba.cells),Ad 4 false m.nV (m.votes.map Ag.cells),Ad 5 false m.nM (m.moves.map Ai.cells),.int .i64 m.states,.int .i64 m.cmds,.int .i64 m.bgn,Ad 1 true m.nO (m.opn.map iv)]]]):=by
 have hm:=yB m x hl
 (refine ce Try.func71 ?_;simp only[Try.f71];(have hb:=trivial;with_reducible repeat' (first|simp only[hb,Vc.down,seval,axP.down,hm]|refine An ?_ ?_<;>intro hb|refine fd ?_|fail)))
theorem eB{l:List Ai}{nn:Bool}{g:Nat}{mm:Ac}{p:Ai→Bool}(hp:∀x∈l,Bh.call (.fn g) (.agg [.int .i64 x.frm,.int .i64 x.to,Ad 2 true x.nn (x.wants.map Aj.cells),.int .i64 x.cmd,.int .i64 x.after]::[.ptr 0 0 0]) [.live 7 false false [[Ad 3 true mm.nS (mm.sens.map Ba.cells),Ad 4 false mm.nV (mm.votes.map Ag.cells),Ad 5 false mm.nM (mm.moves.map Ai.cells),.int .i64 mm.states,.int .i64 mm.cmds,.int .i64 mm.bgn,Ad 1 true mm.nO (mm.opn.map iv)]]]=some (.ret (.bool (p x)),[.live 7 false false [[Ad 3 true mm.nS (mm.sens.map Ba.cells),Ad 4 false mm.nV (mm.votes.map Ag.cells),Ad 5 false mm.nM (mm.moves.map Ai.cells),.int .i64 mm.states,.int .i64 mm.cmds,.int .i64 mm.bgn,Ad 1 true mm.nO (mm.opn.map iv)]]]))(hl:l.length≤maxLen)(hgm:Bh.md g=false:=by exact rfl):
 Bh.call (.fn 88) [Ad 5 false nn (l.map Ai.cells),.func (.func g) [] [.ptr 0 0 0]] [.live 7 false false [[Ad 3 true mm.nS (mm.sens.map Ba.cells),Ad 4 false mm.nV (mm.votes.map Ag.cells),Ad 5 false mm.nM (mm.moves.map Ai.cells),.int .i64 mm.states,.int .i64 mm.cmds,.int .i64 mm.bgn,Ad 1 true mm.nO (mm.opn.map iv)]]]=some (.ret (.int .i64 (Rx p l 0)),[.live 7 false false [[Ad 3 true mm.nS (mm.sens.map Ba.cells),Ad 4 false mm.nV (mm.votes.map Ag.cells),Ad 5 false mm.nM (mm.moves.map Ai.cells),.int .i64 mm.states,.int .i64 mm.cmds,.int .i64 mm.bgn,Ad 1 true mm.nO (mm.opn.map iv)]]]):=by
 (refine ce Try.func88 ?_;simp only[Try.f88];(have hb:=trivial;with_reducible repeat' (first|simp only[hb,Vc.down,seval,lX.down,aaA]|refine An ?_ ?_<;>intro hb|refine fd ?_|fail)))
 refine Ci (Lp 19 l (fun i (s:Int) t h=>s=i∧h=[.live 7 false false [[Ad 3 true mm.nS (mm.sens.map Ba.cells),Ad 4 false mm.nV (mm.votes.map Ag.cells),Ad 5 false mm.nM (mm.moves.map Ai.cells),.int .i64 mm.states,.int .i64 mm.cmds,.int .i64 mm.bgn,Ad 1 true mm.nO (mm.opn.map iv)]]]∧t 0=Ad 5 false nn (l.map Ai.cells)∧t 1=.func (.func g) [] [.ptr 0 0 0]∧t 7=.int .i64 l.length∧t 8=.int .i64 i)
  (fun rest s=>Rx p rest s) (fun r e t h=>h=[.live 7 false false [[Ad 3 true mm.nS (mm.sens.map Ba.cells),Ad 4 false mm.nV (mm.votes.map Ag.cells),Ad 5 false mm.nM (mm.moves.map Ai.cells),.int .i64 mm.states,.int .i64 mm.cmds,.int .i64 mm.bgn,Ad 1 true mm.nO (mm.opn.map iv)]]]∧((e=.exit 0∧r= -1)∨(e=.ret∧t 4=.int .i64 r))) ?_ ?_ 0 _ _ ?_) (fun e t h hk=>?_)
 ·rintro s t h Q' kQ ⟨rfl,rfl,h0,h1,h7,h8⟩
  (have hb:=trivial;with_reducible repeat' (first|simp only[hb,Vc.down,seval,lX.down,h0,h1,h7,h8,aaK,decide_false]|refine An ?_ ?_<;>intro hb|refine fd ?_|fail))
  exact kQ _ _ _ ⟨rfl,.inl ⟨rfl,rfl⟩⟩
 ·rintro x rest i s t h J Q' kJ kQ hx hi ⟨rfl,rfl,h0,h1,h7,h8⟩
  have hgm2:=hgm
  simp only[Vp,af7,af8,af9]at hgm2
  have hpx:=hp x (aa0 hx)
  have hd:decide ((i:Int)<(l.length:Int))=true:=by simpa using hi
  (have hb:=trivial;with_reducible repeat' (first|simp only[hb,Vc.down,seval,lX.down,h0,h1,h7,h8,hd,hx,Ai.cells,hpx,hgm2,Aq hi hl]|refine An ?_ ?_<;>intro hb|refine fd ?_|fail))
  ·exact kQ _ _ _ ⟨rfl,.inr ⟨rfl,by simp[up,Rx,hb]⟩⟩
  ·exact Av (kJ _ _ (i+1) ⟨by simp,rfl,by simp[up,h0],by simp[up,h1],by simp[up,h7],by simp[up]⟩ (by simp[Rx,hb]))
 ·exact⟨rfl,rfl,by simp[up,Cj],by simp[up,Cj],by simp[up],by simp[up]⟩
 ·obtain⟨rfl,⟨rfl,hi⟩|⟨rfl,hi⟩⟩:=hk
  ·(have hb:=trivial;with_reducible repeat' (first|simp only[hb,Vc.down,seval,lX.down]|refine An ?_ ?_<;>intro hb|refine fd ?_|fail))
   rw[hi]
  ·(have hb:=trivial;with_reducible repeat' (first|simp only[hb,Vc.down,seval,lX.down,hi]|refine An ?_ ?_<;>intro hb|refine fd ?_|fail))
theorem aA{l:List Ai}{nn:Bool}{g:Nat}{mm:Ac}{p:Ai→Bool}(hp:∀x∈l,Bh.call (.fn g) (.agg [.int .i64 x.frm,.int .i64 x.to,Ad 2 true x.nn (x.wants.map Aj.cells),.int .i64 x.cmd,.int .i64 x.after]::[.ptr 0 0 0]) [.live 7 false false [[Ad 3 true mm.nS (mm.sens.map Ba.cells),Ad 4 false mm.nV (mm.votes.map Ag.cells),Ad 5 false mm.nM (mm.moves.map Ai.cells),.int .i64 mm.states,.int .i64 mm.cmds,.int .i64 mm.bgn,Ad 1 true mm.nO (mm.opn.map iv)]]]=some (.ret (.bool (p x)),[.live 7 false false [[Ad 3 true mm.nS (mm.sens.map Ba.cells),Ad 4 false mm.nV (mm.votes.map Ag.cells),Ad 5 false mm.nM (mm.moves.map Ai.cells),.int .i64 mm.states,.int .i64 mm.cmds,.int .i64 mm.bgn,Ad 1 true mm.nO (mm.opn.map iv)]]]))(hl:l.length≤maxLen)(hgm:Bh.md g=false:=by exact rfl):
 Bh.call (.fn 70) [Ad 5 false nn (l.map Ai.cells),.func (.func g) [] [.ptr 0 0 0]] [.live 7 false false [[Ad 3 true mm.nS (mm.sens.map Ba.cells),Ad 4 false mm.nV (mm.votes.map Ag.cells),Ad 5 false mm.nM (mm.moves.map Ai.cells),.int .i64 mm.states,.int .i64 mm.cmds,.int .i64 mm.bgn,Ad 1 true mm.nO (mm.opn.map iv)]]]=some (.ret (.bool (l.any p)),[.live 7 false false [[Ad 3 true mm.nS (mm.sens.map Ba.cells),Ad 4 false mm.nV (mm.votes.map Ag.cells),Ad 5 false mm.nM (mm.moves.map Ai.cells),.int .i64 mm.states,.int .i64 mm.cmds,.int .i64 mm.bgn,Ad 1 true mm.nO (mm.opn.map iv)]]]):=by
 (refine ce Try.func70 ?_;simp only[Try.f70];(have hb:=trivial;with_reducible repeat' (first|simp only[hb,Vc.down,seval,eB hp hl hgm,Jl p l 0 (agA 0)]|refine An ?_ ?_<;>intro hb|refine fd ?_|fail)))
theorem bL(m:Ac)(hs:m.small):Bh.call (.fn 42) [.agg [Ad 3 true m.nS (m.sens.map Ba.cells),Ad 4 false m.nV (m.votes.map Ag.cells),Ad 5 false m.nM (m.moves.map Ai.cells),.int .i64 m.states,.int .i64 m.cmds,.int .i64 m.bgn,Ad 1 true m.nO (m.opn.map iv)]] []=some (.ret (.bool (Be m)),[]):=by
 have l1:decide ((6:Int)<(m.sens.length:Int))= !decide (m.sens.length≤6):=by rw[←decide_not,decide_eq_decide];omega
 have l2:decide ((6:Int)<(m.votes.length:Int))= !decide (m.votes.length≤6):=by rw[←decide_not,decide_eq_decide];omega
 have l3:decide ((20:Int)<(m.moves.length:Int))= !decide (m.moves.length≤20):=by rw[←decide_not,decide_eq_decide];omega
 cases hp:Lj m with
 |false=>
  have hp':Be m=false:=by simp[Be,hp]
  rw[hp']
  (refine ce Try.func42 ?_;simp only[Try.f42];(have hb:=trivial;with_reducible repeat' (first|simp only[hb,Vc.down,seval,Ta.down,aaA,Nj,l1,l2,l3]|refine An ?_ ?_<;>intro hb|refine fd ?_|fail)))
  all_goals first
   |rfl
   |(exfalso;simp_all[Lj];done)
 |true=>
  have hp':=hp
  simp only[Lj,acY]at hp'
  obtain⟨⟨⟨⟨⟨⟨p1,p2⟩,p3⟩,p4⟩,p5⟩,p6⟩,p7⟩:=hp'
  (refine ce Try.func42 ?_;simp only[Try.f42];(have hb:=trivial;with_reducible repeat' (first|simp only[hb,Vc.down,seval,Ta.down,aaA,Nj,l1,l2,l3,p1,p2,p3,p4,p5,p6,p7]|refine An ?_ ?_<;>intro hb|refine fd ?_|fail)))
  refine Ci (Lp 118 m.sens (fun i (zz:Unit) t h=>t 1=.ptr 0 0 0∧t 53=Ad 3 true m.nS (m.sens.map Ba.cells)∧t 54=.int .i64 m.sens.length∧t 55=.int .i64 i∧(h[0]?=some (.live 7 false false [[Ad 3 true m.nS (m.sens.map Ba.cells),Ad 4 false m.nV (m.votes.map Ag.cells),Ad 5 false m.nM (m.moves.map Ai.cells),.int .i64 m.states,.int .i64 m.cmds,.int .i64 m.bgn,Ad 1 true m.nO (m.opn.map iv)]]))) (fun rest zz=>rest.all dA) (fun r e t h=>(if r=true then e=.exit 0∧t 1=.ptr 0 0 0∧h[0]?=some (.live 7 false false [[Ad 3 true m.nS (m.sens.map Ba.cells),Ad 4 false m.nV (m.votes.map Ag.cells),Ad 5 false m.nM (m.moves.map Ai.cells),.int .i64 m.states,.int .i64 m.cmds,.int .i64 m.bgn,Ad 1 true m.nO (m.opn.map iv)]])else e=.ret∧t 2=.bool false)) ?_ ?_ () _ _ ?_) (fun e t h hk=>?_)
  ·rintro _ t h Q' kQ ⟨h1,h53,h54,h55,hA⟩
   (have hb:=trivial;with_reducible repeat' (first|simp only[hb,Vc.down,seval,Ta.down,h1,h53,h54,h55,aaK,decide_false]|refine An ?_ ?_<;>intro hb|refine fd ?_|fail))
   exact kQ _ _ _ (by rw[if_pos (by rfl)];exact⟨rfl,by simp[up,h1],hA⟩)
  ·rintro x rest i _ t h J Q' kJ kQ hx hi ⟨h1,h53,h54,h55,hA⟩
   have hd:decide ((i:Int)<(m.sens.length:Int))=true:=decide_eq_true (by omega)
   have hw:=Aq hi hs.sens
   have hA1:=Ab hA
   (have hb:=trivial;with_reducible repeat' (first|simp only[hb,Vc.down,seval,Ta.down,h1,h53,h54,h55,hd,hx,hw,Vj,Ba.cells,aaA]|refine An ?_ ?_<;>intro hb|refine fd ?_|fail))
   all_goals first
    |exact kQ _ _ _ (by rw[if_neg (by simp_all[dA])];exact⟨rfl,by simp[up]⟩)
    |(refine Av (kJ _ _ () ⟨?_,?_,?_,?_,hA1 _⟩ ?_);(simp[up,h1]);(simp[up,h53]);(simp[up,h54]);(simp[up]);(simp_all[dA]))
  ·exact⟨by simp[up,Cj],by simp[up,Cj],by simp[up,Cj],by simp[up],rfl⟩
  ·split at hk
   ·obtain⟨rfl,h1,hA⟩:=hk
    rename_i hr1
    have hA1:=Ab hA
    (have hb:=trivial;with_reducible repeat' (first|simp only[hb,Vc.down,seval,Ta.down,h1,hA,hA1,aaA]|refine An ?_ ?_<;>intro hb|refine fd ?_|fail))
    refine Ci (Lp 118 m.votes (fun i (zz:Unit) t h=>t 1=.ptr 0 0 0∧t 78=Ad 4 false m.nV (m.votes.map Ag.cells)∧t 79=.int .i64 m.votes.length∧t 80=.int .i64 i∧(h[0]?=some (.live 7 false false [[Ad 3 true m.nS (m.sens.map Ba.cells),Ad 4 false m.nV (m.votes.map Ag.cells),Ad 5 false m.nM (m.moves.map Ai.cells),.int .i64 m.states,.int .i64 m.cmds,.int .i64 m.bgn,Ad 1 true m.nO (m.opn.map iv)]]))) (fun rest zz=>rest.all (Qo m.sens.length)) (fun r e t h=>(if r=true then e=.exit 2∧t 1=.ptr 0 0 0∧h[0]?=some (.live 7 false false [[Ad 3 true m.nS (m.sens.map Ba.cells),Ad 4 false m.nV (m.votes.map Ag.cells),Ad 5 false m.nM (m.moves.map Ai.cells),.int .i64 m.states,.int .i64 m.cmds,.int .i64 m.bgn,Ad 1 true m.nO (m.opn.map iv)]])else e=.ret∧t 2=.bool false)) ?_ ?_ () _ _ ?_) (fun e t h hk=>?_)
    ·rintro _ t h Q' kQ ⟨h1,h78,h79,h80,hA⟩
     (have hb:=trivial;with_reducible repeat' (first|simp only[hb,Vc.down,seval,Ta.down,h1,h78,h79,h80,aaK,decide_false]|refine An ?_ ?_<;>intro hb|refine fd ?_|fail))
     exact kQ _ _ _ (by rw[if_pos (by rfl)];exact⟨rfl,by simp[up,h1],hA⟩)
    ·rintro x rest i _ t h J Q' kJ kQ hx hi ⟨h1,h78,h79,h80,hA⟩
     have hd:decide ((i:Int)<(m.votes.length:Int))=true:=decide_eq_true (by omega)
     have hw:=Aq hi hs.votes
     have hA1:=Ab hA
     have hin:=Pj (nn:=x.nn) m.sens.length (hs.vs x (aa0 hx))
     (have hb:=trivial;with_reducible repeat' (first|simp only[hb,Vc.down,seval,Ta.down,h1,h78,h79,h80,hd,hx,hw,hA1,Vj,Nj,hin,Ag.cells,aaA]|refine An ?_ ?_<;>intro hb|refine fd ?_|fail))
     all_goals first
      |exact kQ _ _ _ (by rw[if_neg (by simp_all[Qo])];exact⟨rfl,by simp[up]⟩)
      |(refine Av (kJ _ _ () ⟨?_,?_,?_,?_,hA1 _⟩ ?_);(simp[up,h1]);(simp[up,h78]);(simp[up,h79]);(simp[up]);(simp_all[Qo]))
    ·exact⟨by simp[up,Cj,h1],by simp[up,Cj,h1],by simp[up,Cj,h1],by simp[up],hA⟩
    ·split at hk
     ·obtain⟨rfl,h1,hA⟩:=hk
      rename_i hr2
      have hA1:=Ab hA
      have hcM:=aA (mm:=m) (l:=m.moves) (nn:=m.nM) (g:=71) (p:=fun x=> !Is m x) (fun x hx=>kC m x (hs.ws x hx)) hs.moves
      have hcI:=Yc (l:=m.opn) (nn:=m.nO) (g:=74) (cap:=[]) (p:=fun x=> !Ie x 0 255) rfl rfl (fun x _=>lP x) hs.opn
      (have hb:=trivial;with_reducible repeat' (first|simp only[hb,Vc.down,seval,Ta.down,h1,hA,hA1,aaA,hcM,hcI]|refine An ?_ ?_<;>intro hb|refine fd ?_|fail))
      all_goals
       have q1:m.moves.all (Is m)= !(m.moves.any fun x=> !Is m x):=af6
       have q2:m.opn.all (fun n=>Ie n 0 255)= !(m.opn.any fun x=> !Ie x 0 255):=af6
       simp only[Be,hp,hr1,hr2,q1,q2,hb,aa9,acI,aa3,abO,ae2]
       try rfl
     ·obtain⟨rfl,h2⟩:=hk
      rename_i hr2
      (have hb:=trivial;with_reducible repeat' (first|simp only[hb,Vc.down,seval,Ta.down,h2]|refine An ?_ ?_<;>intro hb|refine fd ?_|fail))
      all_goals simp[Be,hp,acM.2 hr2]
   ·obtain⟨rfl,h2⟩:=hk
    rename_i hr1
    (have hb:=trivial;with_reducible repeat' (first|simp only[hb,Vc.down,seval,Ta.down,h2]|refine An ?_ ?_<;>intro hb|refine fd ?_|fail))
    all_goals simp[Be,hp,acM.2 hr1]
theorem cZ(m:Ac)(hs:m.small):Bh.call (.fn 15) [.agg [Ad 3 true m.nS (m.sens.map Ba.cells),Ad 4 false m.nV (m.votes.map Ag.cells),Ad 5 false m.nM (m.moves.map Ai.cells),.int .i64 m.states,.int .i64 m.cmds,.int .i64 m.bgn,Ad 1 true m.nO (m.opn.map iv)]] []=some (.ret (.bool (Be m)),[]):=by
 have l1:decide ((6:Int)<(m.sens.length:Int))= !decide (m.sens.length≤6):=by rw[←decide_not,decide_eq_decide];omega
 have l2:decide ((6:Int)<(m.votes.length:Int))= !decide (m.votes.length≤6):=by rw[←decide_not,decide_eq_decide];omega
 have l3:decide ((20:Int)<(m.moves.length:Int))= !decide (m.moves.length≤20):=by rw[←decide_not,decide_eq_decide];omega
 have sen:∀x:Ba,dA x=(!decide (x.lo < -10000)&& !decide (x.hi<x.lo)&& !decide (10000<x.hi)):=fun x=>by
  rw[Bool.eq_iff_iff];simp[dA,Kw,Ie];omega
 (refine ce Try.func15 ?_;simp only[Try.f15];(have hb:=trivial;with_reducible repeat' (first|simp only[hb,Vc.down,seval,Vw.down,aaA]|refine An ?_ ?_<;>intro hb|refine fd ?_|fail)))
 refine Ci (Lp 126 m.sens (fun i (zz:Unit) t h=>t 1=.ptr 0 0 0∧t 3=.int .i64 i∧(h[0]?=some (.live 7 false false [[Ad 3 true m.nS (m.sens.map Ba.cells),Ad 4 false m.nV (m.votes.map Ag.cells),Ad 5 false m.nM (m.moves.map Ai.cells),.int .i64 m.states,.int .i64 m.cmds,.int .i64 m.bgn,Ad 1 true m.nO (m.opn.map iv)]]))) (fun rest zz=>rest.all dA) (fun r e t h=>(if r=true then e=.exit 0∧t 1=.ptr 0 0 0∧h[0]?=some (.live 7 false false [[Ad 3 true m.nS (m.sens.map Ba.cells),Ad 4 false m.nV (m.votes.map Ag.cells),Ad 5 false m.nM (m.moves.map Ai.cells),.int .i64 m.states,.int .i64 m.cmds,.int .i64 m.bgn,Ad 1 true m.nO (m.opn.map iv)]])else e=.ret∧t 2=.bool false)) ?_ ?_ () _ _ ?_) (fun e t h hk=>?_)
 ·rintro _ t h Q' kQ ⟨h1,h3,hA⟩
  (have hb:=trivial;with_reducible repeat' (first|simp only[hb,Vc.down,seval,Vw.down,h1,h3,aaK,decide_false,hA,aaA]|refine An ?_ ?_<;>intro hb|refine fd ?_|fail))
  exact kQ _ _ _ (by rw[if_pos (by rfl)];exact⟨rfl,by simp[up,h1],hA⟩)
 ·rintro x rest i _ t h J Q' kJ kQ hx hi ⟨h1,h3,hA⟩
  have hd:decide ((i:Int)<(m.sens.length:Int))=true:=decide_eq_true (by omega)
  have hw:=Aq hi hs.sens
  have hA1:=Ab hA
  (have hb:=trivial;with_reducible repeat' (first|simp only[hb,Vc.down,seval,Vw.down,h1,h3,hd,hx,hw,hA,hA1,Ba.cells,aaA]|refine An ?_ ?_<;>intro hb|refine fd ?_|fail))
  all_goals first
   |exact kQ _ _ _ (by rw[if_neg (by simp_all)];exact⟨rfl,by simp[up]⟩)
   |(refine Av (kJ _ _ () ⟨?_,?_,hA1 _⟩ ?_);(simp[up,h1]);(simp[up]);(simp_all))
 ·exact⟨by simp[up,Cj],by simp[up],rfl⟩
 split at hk
 rotate_left
 ·obtain⟨rfl,h2⟩:=hk
  rename_i hr1
  (have hb:=trivial;with_reducible repeat' (first|simp only[hb,Vc.down,seval,Vw.down,h2]|refine An ?_ ?_<;>intro hb|refine fd ?_|fail))
  all_goals simp[Be,acM.2 hr1]
 obtain⟨rfl,h1,hA⟩:=hk
 rename_i hr1
 have hA1:=Ab hA
 (have hb:=trivial;with_reducible repeat' (first|simp only[hb,Vc.down,seval,Vw.down,h1,hA,hA1,aaA]|refine An ?_ ?_<;>intro hb|refine fd ?_|fail))
 refine Ci (Lp 126 m.votes (fun i (zz:Unit) t h=>t 1=.ptr 0 0 0∧t 5=.int .i64 i∧(h[0]?=some (.live 7 false false [[Ad 3 true m.nS (m.sens.map Ba.cells),Ad 4 false m.nV (m.votes.map Ag.cells),Ad 5 false m.nM (m.moves.map Ai.cells),.int .i64 m.states,.int .i64 m.cmds,.int .i64 m.bgn,Ad 1 true m.nO (m.opn.map iv)]]))) (fun rest zz=>rest.all (Qo m.sens.length)) (fun r e t h=>(if r=true then e=.exit 2∧t 1=.ptr 0 0 0∧h[0]?=some (.live 7 false false [[Ad 3 true m.nS (m.sens.map Ba.cells),Ad 4 false m.nV (m.votes.map Ag.cells),Ad 5 false m.nM (m.moves.map Ai.cells),.int .i64 m.states,.int .i64 m.cmds,.int .i64 m.bgn,Ad 1 true m.nO (m.opn.map iv)]])else e=.ret∧t 2=.bool false)) ?_ ?_ () _ _ ?_) (fun e t h hk=>?_)
 ·rintro _ t h Q' kQ ⟨h1,h5,hA⟩
  (have hb:=trivial;with_reducible repeat' (first|simp only[hb,Vc.down,seval,Vw.down,h1,h5,aaK,decide_false,hA,aaA]|refine An ?_ ?_<;>intro hb|refine fd ?_|fail))
  exact kQ _ _ _ (by rw[if_pos (by rfl)];exact⟨rfl,by simp[up,h1],hA⟩)
 ·rintro x rest i _ t h J Q' kJ kQ hx hi ⟨h1,h5,hA⟩
  have hd:decide ((i:Int)<(m.votes.length:Int))=true:=decide_eq_true (by omega)
  have hw:=Aq hi hs.votes
  have hA1:=Ab hA
  have hV:=at0 x m.sens.length (hs.vs x (aa0 hx))
  (have hb:=trivial;with_reducible repeat' (first|simp only[hb,Vc.down,seval,Vw.down,h1,h5,hd,hx,hw,hA,hA1,hV,Ag.cells,aaA]|refine An ?_ ?_<;>intro hb|refine fd ?_|fail))
  all_goals first
   |exact kQ _ _ _ (by rw[if_neg (by simp_all)];exact⟨rfl,by simp[up]⟩)
   |(refine Av (kJ _ _ () ⟨?_,?_,hA⟩ ?_);(simp[up,h1]);(simp[up]);(simp_all))
 ·exact⟨by simp[up,Cj,h1],by simp[up],hA⟩
 split at hk
 rotate_left
 ·obtain⟨rfl,h2⟩:=hk
  rename_i hr2
  (have hb:=trivial;with_reducible repeat' (first|simp only[hb,Vc.down,seval,Vw.down,h2]|refine An ?_ ?_<;>intro hb|refine fd ?_|fail))
  all_goals simp[Be,acM.2 hr2]
 obtain⟨rfl,h1,hA⟩:=hk
 rename_i hr2
 have hA1:=Ab hA
 cases hp:Lj m with
 |false=>
  have hp':Be m=false:=by simp[Be,hp]
  rw[hp']
  (have hb:=trivial;with_reducible repeat' (first|simp only[hb,Vc.down,seval,Vw.down,h1,hA,hA1,aaA,dX,l1,l2,l3]|refine An ?_ ?_<;>intro hb|refine fd ?_|fail))
  all_goals first
   |rfl
   |(exfalso;simp_all[Lj];done)
 |true=>
  have hp':=hp
  simp only[Lj,acY]at hp'
  obtain⟨⟨⟨⟨⟨⟨p1,p2⟩,p3⟩,p4⟩,p5⟩,p6⟩,p7⟩:=hp'
  (have hb:=trivial;with_reducible repeat' (first|simp only[hb,Vc.down,seval,Vw.down,h1,hA,hA1,aaA,dX,l1,l2,l3,p1,p2,p3,p4,p5,p6,p7]|refine An ?_ ?_<;>intro hb|refine fd ?_|fail))
  refine Ci (Lp 126 m.opn (fun i (zz:Unit) t h=>t 1=.ptr 0 0 0∧t 6=.int .i64 i∧(h[0]?=some (.live 7 false false [[Ad 3 true m.nS (m.sens.map Ba.cells),Ad 4 false m.nV (m.votes.map Ag.cells),Ad 5 false m.nM (m.moves.map Ai.cells),.int .i64 m.states,.int .i64 m.cmds,.int .i64 m.bgn,Ad 1 true m.nO (m.opn.map iv)]]))) (fun rest zz=>rest.all (fun n=>Ie n 0 255)) (fun r e t h=>(if r=true then e=.exit 4∧t 1=.ptr 0 0 0∧h[0]?=some (.live 7 false false [[Ad 3 true m.nS (m.sens.map Ba.cells),Ad 4 false m.nV (m.votes.map Ag.cells),Ad 5 false m.nM (m.moves.map Ai.cells),.int .i64 m.states,.int .i64 m.cmds,.int .i64 m.bgn,Ad 1 true m.nO (m.opn.map iv)]])else e=.ret∧t 2=.bool false)) ?_ ?_ () _ _ ?_) (fun e t h hk=>?_)
  ·rintro _ t h Q' kQ ⟨h1,h6,hA⟩
   (have hb:=trivial;with_reducible repeat' (first|simp only[hb,Vc.down,seval,Vw.down,h1,h6,aaK,decide_false,hA,aaA]|refine An ?_ ?_<;>intro hb|refine fd ?_|fail))
   exact kQ _ _ _ (by rw[if_pos (by rfl)];exact⟨rfl,by simp[up,h1],hA⟩)
  ·rintro x rest i _ t h J Q' kJ kQ hx hi ⟨h1,h6,hA⟩
   have hd:decide ((i:Int)<(m.opn.length:Int))=true:=decide_eq_true (by omega)
   have hw:=Aq hi hs.opn
   have hA1:=Ab hA
   (have hb:=trivial;with_reducible repeat' (first|simp only[hb,Vc.down,seval,Vw.down,h1,h6,hd,hx,hw,hA,hA1,dX,iv,aaA]|refine An ?_ ?_<;>intro hb|refine fd ?_|fail))
   all_goals first
    |exact kQ _ _ _ (by rw[if_neg (by simp_all)];exact⟨rfl,by simp[up]⟩)
    |(refine Av (kJ _ _ () ⟨?_,?_,hA⟩ ?_);(simp[up,h1]);(simp[up]);(simp_all))
  ·exact⟨by simp[up,Cj,h1],by simp[up],hA⟩
  split at hk
  rotate_left
  ·obtain⟨rfl,h2⟩:=hk
   rename_i hr3
   (have hb:=trivial;with_reducible repeat' (first|simp only[hb,Vc.down,seval,Vw.down,h2]|refine An ?_ ?_<;>intro hb|refine fd ?_|fail))
   all_goals simp[Be,acM.2 hr3]
  obtain⟨rfl,h1,hA⟩:=hk
  rename_i hr3
  have hA1:=Ab hA
  (have hb:=trivial;with_reducible repeat' (first|simp only[hb,Vc.down,seval,Vw.down,h1,hA,hA1,aaA]|refine An ?_ ?_<;>intro hb|refine fd ?_|fail))
  refine Ci (Lp 126 m.moves (fun i (zz:Unit) t h=>t 1=.ptr 0 0 0∧t 7=.int .i64 i∧(h[0]?=some (.live 7 false false [[Ad 3 true m.nS (m.sens.map Ba.cells),Ad 4 false m.nV (m.votes.map Ag.cells),Ad 5 false m.nM (m.moves.map Ai.cells),.int .i64 m.states,.int .i64 m.cmds,.int .i64 m.bgn,Ad 1 true m.nO (m.opn.map iv)]]))) (fun rest zz=>rest.all (Is m)) (fun r e t h=>(if r=true then e=.exit 6 else e=.ret∧t 2=.bool false)) ?_ ?_ () _ _ ?_) (fun e t h hk=>?_)
  ·rintro _ t h Q' kQ ⟨h1,h7,hA⟩
   (have hb:=trivial;with_reducible repeat' (first|simp only[hb,Vc.down,seval,Vw.down,h1,h7,aaK,decide_false,hA,aaA]|refine An ?_ ?_<;>intro hb|refine fd ?_|fail))
   exact kQ _ _ _ (by rw[if_pos (by rfl)])
  ·rintro x rest i _ t h J Q' kJ kQ hx hi ⟨h1,h7,hA⟩
   have hd:decide ((i:Int)<(m.moves.length:Int))=true:=decide_eq_true (by omega)
   have hw:=Aq hi hs.moves
   have hA1:=Ab hA
   have hM:=avM m x (hs.ws x (aa0 hx))
   (have hb:=trivial;with_reducible repeat' (first|simp only[hb,Vc.down,seval,Vw.down,h1,h7,hd,hx,hw,hA,hA1,hM,Ai.cells,aaA]|refine An ?_ ?_<;>intro hb|refine fd ?_|fail))
   all_goals first
    |exact kQ _ _ _ (by rw[if_neg (by simp_all)];exact⟨rfl,by simp[up]⟩)
    |(refine Av (kJ _ _ () ⟨?_,?_,hA⟩ ?_);(simp[up,h1]);(simp[up]);(simp_all))
  ·exact⟨by simp[up,Cj,h1],by simp[up],hA⟩
  split at hk
  ·subst hk
   rename_i hr4
   (have hb:=trivial;with_reducible repeat' (first|simp only[hb,Vc.down,seval,Vw.down]|refine An ?_ ?_<;>intro hb|refine fd ?_|fail))
   all_goals simp[Be,hp,hr1,hr2,hr3,hr4]
  ·obtain⟨rfl,h2⟩:=hk
   rename_i hr4
   (have hb:=trivial;with_reducible repeat' (first|simp only[hb,Vc.down,seval,Vw.down,h2]|refine An ?_ ?_<;>intro hb|refine fd ?_|fail))
   all_goals simp[Be,acM.2 hr4]
def Vy(m:Ac)(l:List Int):Bool:=((l.length:Int)==(m.sens.length:Int))&&l.all Kw
def Lt(m:Ac)(s:Bw):Bool:=Vy m s.reads&&Ie s.cmd (-1) (IntKind.i64.wrap (m.cmds-1))
theorem akF(m:Ac){l:List Int}{nn:Bool}(hl:l.length≤maxLen):Bh.call (.fn 62) [.agg [Ad 3 true m.nS (m.sens.map Ba.cells),Ad 4 false m.nV (m.votes.map Ag.cells),Ad 5 false m.nM (m.moves.map Ai.cells),.int .i64 m.states,.int .i64 m.cmds,.int .i64 m.bgn,Ad 1 true m.nO (m.opn.map iv)],Ad 1 true nn (l.map iv)] []=some (.ret (.bool (Vy m l)),[]):=by
 have hc:=Yc (l:=l) (nn:=nn) (g:=82) (cap:=[]) (p:=fun x=> !Kw x) rfl rfl (fun x _=>amF x) hl
 have q2:l.all Kw= !(l.any fun x=> !Kw x):=af6
 (refine ce Try.func62 ?_;simp only[Try.f62];(have hb:=trivial;with_reducible repeat' (first|simp only[hb,Vc.down,seval,az1.down,aaA,hc]|refine An ?_ ?_<;>intro hb|refine fd ?_|fail)))
 all_goals simp only[Vy,q2,hb,aa3,abO]
theorem yA(m:Ac){l:List Int}{nn:Bool}(hl:l.length≤maxLen):Bh.call (.fn 24) [.agg [Ad 3 true m.nS (m.sens.map Ba.cells),Ad 4 false m.nV (m.votes.map Ag.cells),Ad 5 false m.nM (m.moves.map Ai.cells),.int .i64 m.states,.int .i64 m.cmds,.int .i64 m.bgn,Ad 1 true m.nO (m.opn.map iv)],Ad 1 true nn (l.map iv)] []=some (.ret (.bool (Vy m l)),[]):=by
 (refine ce Try.func24 ?_;simp only[Try.f24];(have hb:=trivial;with_reducible repeat' (first|simp only[hb,Vc.down,seval,ahS.down,aaA]|refine An ?_ ?_<;>intro hb|refine fd ?_|fail)))
 refine Ci (Lp 24 l (fun i (zz:Unit) t h=>t 1=Ad 1 true nn (l.map iv)∧t 2=.ptr 0 0 0∧t 5=.int .i64 i∧(h[0]?=some (.live 7 false false [[Ad 3 true m.nS (m.sens.map Ba.cells),Ad 4 false m.nV (m.votes.map Ag.cells),Ad 5 false m.nM (m.moves.map Ai.cells),.int .i64 m.states,.int .i64 m.cmds,.int .i64 m.bgn,Ad 1 true m.nO (m.opn.map iv)]]))) (fun rest zz=>rest.all Kw) (fun r e t h=>(if r=true then e=.exit 0∧t 1=Ad 1 true nn (l.map iv)∧t 2=.ptr 0 0 0∧h[0]?=some (.live 7 false false [[Ad 3 true m.nS (m.sens.map Ba.cells),Ad 4 false m.nV (m.votes.map Ag.cells),Ad 5 false m.nM (m.moves.map Ai.cells),.int .i64 m.states,.int .i64 m.cmds,.int .i64 m.bgn,Ad 1 true m.nO (m.opn.map iv)]])else e=.ret∧t 4=.bool false)) ?_ ?_ () _ _ ?_) (fun e t h hk=>?_)
 ·rintro _ t h Q' kQ ⟨h1,h2,h5,hA⟩
  (have hb:=trivial;with_reducible repeat' (first|simp only[hb,Vc.down,seval,ahS.down,h1,h2,h5,aaK,decide_false,aaA]|refine An ?_ ?_<;>intro hb|refine fd ?_|fail))
  exact kQ _ _ _ (by rw[if_pos (by rfl)];exact⟨rfl,by simp[up,h1],by simp[up,h2],hA⟩)
 ·rintro x rest i _ t h J Q' kJ kQ hx hi ⟨h1,h2,h5,hA⟩
  have hd:decide ((i:Int)<(l.length:Int))=true:=decide_eq_true (by omega)
  have hw:=Aq hi hl
  have hv:Ie x (-10000) 10000=Kw x:=rfl
  (have hb:=trivial;with_reducible repeat' (first|simp only[hb,Vc.down,seval,ahS.down,h1,h2,h5,hd,hx,hw,dX,hv,iv,aaA]|refine An ?_ ?_<;>intro hb|refine fd ?_|fail))
  all_goals first
   |exact kQ _ _ _ (by rw[if_neg (by simp_all)];exact⟨rfl,by simp[up]⟩)
   |(refine Av (kJ _ _ () ⟨?_,?_,?_,hA⟩ ?_);(simp[up,h1]);(simp[up,h2]);(simp[up]);(simp_all))
 ·exact⟨by simp[up,Cj],by simp[up,Cj],by simp[up],rfl⟩
 split at hk
 ·obtain⟨rfl,h1,h2,hA⟩:=hk
  rename_i hr1
  have hA1:=Ab hA
  (have hb:=trivial;with_reducible repeat' (first|simp only[hb,Vc.down,seval,ahS.down,h1,h2,hA,hA1,aaA]|refine An ?_ ?_<;>intro hb|refine fd ?_|fail))
  all_goals simp[Vy,hr1]
 ·obtain⟨rfl,h2⟩:=hk
  rename_i hr1
  (have hb:=trivial;with_reducible repeat' (first|simp only[hb,Vc.down,seval,ahS.down,h2]|refine An ?_ ?_<;>intro hb|refine fd ?_|fail))
  all_goals simp[Vy,acM.2 hr1]
theorem afA(m:Ac)(s:Bw)(hl:s.reads.length≤maxLen):Bh.call (.fn 44) [.agg [Ad 3 true m.nS (m.sens.map Ba.cells),Ad 4 false m.nV (m.votes.map Ag.cells),Ad 5 false m.nM (m.moves.map Ai.cells),.int .i64 m.states,.int .i64 m.cmds,.int .i64 m.bgn,Ad 1 true m.nO (m.opn.map iv)],.agg [Ad 1 true s.nn (s.reads.map iv),.int .i64 s.cmd]] []=some (.ret (.bool (Lt m s)),[]):=by
 have hr:=akF m (nn:=s.nn) hl
 (refine ce Try.func44 ?_;simp only[Try.f44];(have hb:=trivial;with_reducible repeat' (first|simp only[hb,Vc.down,seval,aAE.down,hr,Nj]|refine An ?_ ?_<;>intro hb|refine fd ?_|fail)))
 all_goals simp_all[Lt]
theorem atF(m:Ac)(s:Bw)(hl:s.reads.length≤maxLen):Bh.call (.fn 16) [.agg [Ad 3 true m.nS (m.sens.map Ba.cells),Ad 4 false m.nV (m.votes.map Ag.cells),Ad 5 false m.nM (m.moves.map Ai.cells),.int .i64 m.states,.int .i64 m.cmds,.int .i64 m.bgn,Ad 1 true m.nO (m.opn.map iv)],.agg [Ad 1 true s.nn (s.reads.map iv),.int .i64 s.cmd]] []=some (.ret (.bool (Lt m s)),[]):=by
 have hr:=yA m (nn:=s.nn) hl
 (refine ce Try.func16 ?_;simp only[Try.f16];(have hb:=trivial;with_reducible repeat' (first|simp only[hb,Vc.down,seval,az2.down,hr,dX]|refine An ?_ ?_<;>intro hb|refine fd ?_|fail)))
 all_goals simp_all[Lt]
def Jm(m:Ac)(k:Int):Ba:=m.sens.getD k.toNat ⟨0,0,false⟩
def rAt(l:List Int)(k:Int):Int:=l.getD k.toNat 0
theorem Up{m:Ac}{k:Int}(h:k.toNat<m.sens.length):m.sens[k.toNat]?=some (Jm m k):=by
 simp[Jm,List.getD,ajM h]
theorem rB{l:List Int}{k:Int}(h:k.toNat<l.length):l[k.toNat]?=some (rAt l k):=by
 simp[rAt,List.getD,ajM h]
def Yp(m:Ac)(v:Ag)(l:List Int):List Int→Int→Int
 | [],c=>c
 |k::ks,c=>Yp m v l ks (if Lm (Jm m k) v (rAt l k)=true then IntKind.i64.wrap (c+1)else c)
def Yq(m:Ac)(l:List Int)(v:Ag):Bool:=decide (v.need≤Yp m v l v.sens 0)
def Idx(m:Ac)(l:List Int):Prop:=∀k∈l,0≤k∧k.toNat<m.sens.length
theorem aa1{n:Nat}(hn:n≤6):∀{l:List Int} {p:Option Int},Hf n l p=true→∀k∈l,0≤k∧k.toNat<n
 | [],_,_,k,h=>by cases h
 |x::l,p,h,k,hk=>by
  simp only[Hf,acY]at h
  rcases List.mem_cons.1 hk with rfl|hk
  ·have:=h.1.1
   rw[Du (by omega) (by omega)]at this
   simp[Ie]at this
   omega
  ·exact aa1 hn h.2 k hk
theorem Wa{m:Ac}(h:Be m=true):∀v∈m.votes,Idx m v.sens:=fun v hv=>by
 simp only[Be,Lj,acY,decide_eq_true_eq,aj8]at h
 have h2:=h.1.1.2 v hv
 simp only[Qo,acY]at h2
 exact aa1 h.1.1.1.1.1.1.1.1.1.1 h2.1.1
def orN(a b:Int):Int:=IntKind.i64.wrap ((BitVec.ofInt 64 a|||BitVec.ofInt 64 b).toNat:Int)
theorem pH(ty:TypeId)(a b:Int):Fz Try.prog .or ty (.int .i64 a) (.int .i64 b)=some (.int .i64 (orN a b)):=by
 show(if IntKind.i64=IntKind.i64 then Ho .or .i64 a b else none)=_
 rw[if_pos rfl];rfl
def Ir(m:Ac)(l:List Int):List Ag→Nat→Int→Int
 | [],_,b=>b
 |v::vs,i,b=>Ir m l vs (i+1) (if Yq m l v=true then orN b (uF i)else b)
theorem Xx(m:Ac){l:List Int}{nn:Bool}(hl:l.length=m.sens.length)(hs:m.small)(hi:∀v∈m.votes,Idx m v.sens):Bh.call (.fn 46) [.agg [Ad 3 true m.nS (m.sens.map Ba.cells),Ad 4 false m.nV (m.votes.map Ag.cells),Ad 5 false m.nM (m.moves.map Ai.cells),.int .i64 m.states,.int .i64 m.cmds,.int .i64 m.bgn,Ad 1 true m.nO (m.opn.map iv)],Ad 1 true nn (l.map iv)] []=some (.ret (.int .i64 (Ir m l m.votes 0 0)),[]):=by
 have hI:=hi
 clear hi
 (refine ce Try.func46 ?_;simp only[Try.f46];(have hb:=trivial;with_reducible repeat' (first|simp only[hb,Vc.down,seval,bC.down,aaA]|refine An ?_ ?_<;>intro hb|refine fd ?_|fail)))
 refine Ci (Lp 50 m.votes (fun i (zz:Nat × Int) t h=>t 1=Ad 1 true nn (l.map iv)∧t 2=.ptr 0 0 0∧t 12=Ad 4 false m.nV (m.votes.map Ag.cells)∧t 13=.int .i64 m.votes.length∧t 14=.int .i64 i∧t 5=.int .i64 zz.2∧(h[0]?=some (.live 7 false false [[Ad 3 true m.nS (m.sens.map Ba.cells),Ad 4 false m.nV (m.votes.map Ag.cells),Ad 5 false m.nM (m.moves.map Ai.cells),.int .i64 m.states,.int .i64 m.cmds,.int .i64 m.bgn,Ad 1 true m.nO (m.opn.map iv)]])∧i=zz.1)) (fun rest zz=>Ir m l rest zz.1 zz.2) (fun r e t h=>e=.exit 0∧t 5=.int .i64 r) ?_ ?_ (0,0) _ _ ?_) (fun e t h hk=>?_)
 ·rintro⟨k,b⟩ t h Q' kQ ⟨h1,h2,h12,h13,h14,h5,⟨hA,rfl⟩⟩
  try dsimp only at *
  (have hb:=trivial;with_reducible repeat' (first|simp only[hb,Vc.down,seval,bC.down,h1,h2,h12,h13,h14,h5,aaK,decide_false]|refine An ?_ ?_<;>intro hb|refine fd ?_|fail))
  exact kQ _ _ _ ⟨rfl,by simp[up,h5,Ir]⟩
 ·rintro x rest i ⟨k,b⟩ t h J Q' kJ kQ hx hi ⟨h1,h2,h12,h13,h14,h5,⟨hA,rfl⟩⟩
  have hd:decide ((i:Int)<(m.votes.length:Int))=true:=decide_eq_true (by omega)
  have hw:=Aq hi hs.votes
  try dsimp only at *
  have hA1:=Ab hA
  have hvs:=hs.vs x (aa0 hx)
  have hIx:=hI x (aa0 hx)
  obtain⟨w,rfl⟩:∃w,w=x:=⟨_,rfl⟩
  obtain⟨k,rfl⟩:∃k,k=i:=⟨_,rfl⟩
  obtain⟨hL,hLe⟩:∃hL,hL=h.length:=⟨_,rfl⟩
  (have hb:=trivial;with_reducible repeat' (first|simp only[hb,Vc.down,seval,bC.down,h1,h2,h12,h13,h14,h5,hd,hx,hw,hA1,Ag.cells,aaA]|refine An ?_ ?_<;>intro hb|refine fd ?_|fail))
  refine Ci (Lp 50 w.sens (fun i (zz:Int) t h=>t 1=Ad 1 true nn (l.map iv)∧t 2=.ptr 0 0 0∧t 12=Ad 4 false m.nV (m.votes.map Ag.cells)∧t 13=.int .i64 m.votes.length∧t 14=.int .i64 (k:Int)∧t 5=.int .i64 b∧t 6=.int .i64 (k:Int)∧t 7=.ptr hL 0 0∧t 20=Ad 1 true w.nn (w.sens.map iv)∧t 21=.int .i64 w.sens.length∧t 22=.int .i64 i∧t 8=.int .i64 zz∧(h[0]?=some (.live 7 false false [[Ad 3 true m.nS (m.sens.map Ba.cells),Ad 4 false m.nV (m.votes.map Ag.cells),Ad 5 false m.nM (m.moves.map Ai.cells),.int .i64 m.states,.int .i64 m.cmds,.int .i64 m.bgn,Ad 1 true m.nO (m.opn.map iv)]])∧∃wf,h[hL]?=some (.live 4 false wf [[Ad 1 true w.nn (w.sens.map iv),.int .i64 w.need,.int .i64 w.level,.bool w.above]]))) (fun rest zz=>Yp m w l rest zz) (fun r e t h=>e=.exit 2∧t 1=Ad 1 true nn (l.map iv)∧t 2=.ptr 0 0 0∧t 12=Ad 4 false m.nV (m.votes.map Ag.cells)∧t 13=.int .i64 m.votes.length∧t 14=.int .i64 (k:Int)∧t 5=.int .i64 b∧t 6=.int .i64 (k:Int)∧t 7=.ptr hL 0 0∧t 8=.int .i64 r∧h[0]?=some (.live 7 false false [[Ad 3 true m.nS (m.sens.map Ba.cells),Ad 4 false m.nV (m.votes.map Ag.cells),Ad 5 false m.nM (m.moves.map Ai.cells),.int .i64 m.states,.int .i64 m.cmds,.int .i64 m.bgn,Ad 1 true m.nO (m.opn.map iv)]])∧∃wf,h[hL]?=some (.live 4 false wf [[Ad 1 true w.nn (w.sens.map iv),.int .i64 w.need,.int .i64 w.level,.bool w.above]])) ?_ ?_ (0) _ _ ?_) (fun e tC hC hk=>?_)
  ·rintro c t h Q' kQ ⟨h1,h2,h12,h13,h14,h5,h6,h7,h20,h21,h22,h8,⟨hA,wf,hB⟩⟩
   (have hb:=trivial;with_reducible repeat' (first|simp only[hb,Vc.down,seval,bC.down,h1,h2,h12,h13,h14,h5,h6,h7,h20,h21,h22,h8,aaK,decide_false]|refine An ?_ ?_<;>intro hb|refine fd ?_|fail))
   exact kQ _ _ _ ⟨rfl,by simp[up,h1],by simp[up,h2],by simp[up,h12],by simp[up,h13],by simp[up,h14],by simp[up,h5],by simp[up,h6],by simp[up,h7],by simp[up,h8,Yp],hA,wf,hB⟩
  ·rintro x rest i c t h J Q' kJ kQ hx hi ⟨h1,h2,h12,h13,h14,h5,h6,h7,h20,h21,h22,h8,⟨hA,wf,hB⟩⟩
   have hd:decide ((i:Int)<(w.sens.length:Int))=true:=decide_eq_true (by omega)
   have hw:=Aq hi hvs
   obtain⟨k0,k1⟩:=hIx x (aa0 hx)
   have hrr:=rB (l:=l) (k:=x) (by omega)
   have hss:=Up k1
   have h0':(0≤x)=True:=eq_true k0
   have hS:=qC (Jm m x) w (rAt l x)
   generalize hq:Lm (Jm m x) w (rAt l x)=q at hS
   generalize Jm m x=s at hss hS
   (have hb:=trivial;with_reducible repeat' (first|simp only[hb,Vc.down,seval,bC.down,h1,h2,h7,h8,h20,h21,h22,hd,hx,hw,hrr,hss,h0',hA,hB,hS,iv,Ba.cells,aaA]|refine An ?_ ?_<;>intro hb|refine fd ?_|fail))
   all_goals (refine Av (kJ _ _ (if q=true then IntKind.i64.wrap (c+1)else c) ⟨?_,?_,?_,?_,?_,?_,?_,?_,?_,?_,?_,?_,⟨hA,wf,hB⟩⟩ ?_);(simp[up,h1]);(simp[up,h2]);(simp[up,h12]);(simp[up,h13]);(simp[up,h14]);(simp[up,h5]);(simp[up,h6]);(simp[up,h7]);(simp[up,h20]);(simp[up,h21]);(simp[up]);(simp[up,h8,hb]);(simp[Yp,hq]))
  ·exact⟨by simp[up,Cj,h1,h2,h12,h13,h14,h5,hLe],by simp[up,Cj,h1,h2,h12,h13,h14,h5,hLe],by simp[up,Cj,h1,h2,h12,h13,h14,h5,hLe],by simp[up,Cj,h1,h2,h12,h13,h14,h5,hLe],by simp[up,Cj,h1,h2,h12,h13,h14,h5,hLe],by simp[up,Cj,h1,h2,h12,h13,h14,h5,hLe],by simp[up,Cj,h1,h2,h12,h13,h14,h5,hLe],by simp[up,Cj,h1,h2,h12,h13,h14,h5,hLe],by simp[up,Cj,h1,h2,h12,h13,h14,h5,hLe],by simp[up,Cj,h1,h2,h12,h13,h14,h5,hLe],by simp[up],by simp[up,Cj,h1,h2,h12,h13,h14,h5,hLe],⟨hA1 _,true,by rw[hLe];simp⟩⟩
  ·obtain⟨rfl,h1,h2,h12,h13,h14,h5,h6,h7,h8,hA,wf,hB⟩:=hk
   have hy:decide (w.need≤Yp m w l w.sens 0)=Yq m l w:=rfl
   (have hb:=trivial;with_reducible repeat' (first|simp only[hb,Vc.down,seval,bC.down,h1,h2,h12,h13,h14,h5,h6,h7,h8,hA,hB,hw,hy,pH]|refine An ?_ ?_<;>intro hb|refine fd ?_|fail))
   all_goals (refine Av (kJ _ _ (k+1,(if Yq m l w=true then orN b (uF k)else b)) ⟨?_,?_,?_,?_,?_,?_,⟨hA,rfl⟩⟩ ?_);(simp[up,h1]);(simp[up,h2]);(simp[up,h12]);(simp[up,h13]);(simp[up]);(simp[up,h5,hb]);(simp[Ir]))
 ·exact⟨by simp[up,Cj],by simp[up,Cj],by simp[up,Cj],by simp[up,Cj],by simp[up],by simp[up,Cj],⟨rfl,rfl⟩⟩
 obtain⟨rfl,h5⟩:=hk
 (have hb:=trivial;with_reducible repeat' (first|simp only[hb,Vc.down,seval,bC.down,h5]|refine An ?_ ?_<;>intro hb|refine fd ?_|fail))
def bv(b:Bool):List AV:=[.bool b]
theorem Gj{h:Aa}{b:Nat}(hb:b<h.length)(l:Aa)(c:CB):(h++l).set b c=h.set b c++l:=List.set_append_left _ _ hb
theorem Gp{h:Aa}{b:Nat}(c:CB)(l:Aa):(h.set b c++l)[h.length]?=l[0]?:=by
 have:=abA (h.set b c) l
 rwa[agB]at this
theorem Ei{h:Aa}{b:Nat}(c:CB)(l:Aa)(k:Nat):(h.set b c++l)[h.length+k]?=l[k]?:=by
 have:=pR (h.set b c) l k
 rwa[agB]at this
theorem Ja{h:Aa}{b b':Nat}{x:CB}(c:CB)(hne:b≠b')(hb:h[b']?=some x)(l:Aa):(h.set b c++l)[b']?=some x:=by
 rw[List.getElem?_append_left (by rw[agB];exact(aiO.1 hb).1),List.getElem?_set_ne hne];exact hb
def aqI(v:AV)(i:Nat)(rows:List (List AV))(h:Aa):Prop:=(i=0∧v=.nils)∨(0<i∧∃b,0<b∧v=.slr 1 b 0 i∧h[b]?=some (.live 1 true false rows))
def Oi:List Bool→Nat→Int→Int
 | [],_,b=>b
 |v::vs,i,b=>Oi vs (i+1) (if v=true then orN b (uF i)else b)
theorem Xz(m:Ac)(l:List Int):∀(vs:List Ag) (i:Nat) (b:Int),Ir m l vs i b=Oi (vs.map (Yq m l)) i b
 | [],_,_=>rfl
 |v::vs,i,b=>by simp only[Ir,List.map_cons,Oi];exact Xz m l vs _ _
def Gs(b v:Int):Bool:=adM (vL b v.toNat)==1
theorem qW:∀(l:List Bool),l.length≤6→∀i:Nat,i<l.length→l[i]?=some (Gs (Oi l 0 0) i)
 | [],_,i,h=>by simp at h
 | [a],_,i,h=>by
   have:∀a:Bool,∀i:Fin 1,[a][i.val]?=some (Gs (Oi [a] 0 0) (i.val:Nat)):=by decide+kernel
   exact this a ⟨i,h⟩
 | [a,b],_,i,h=>by
   have:∀a b:Bool,∀i:Fin 2,[a,b][i.val]?=some (Gs (Oi [a,b] 0 0) (i.val:Nat)):=by decide+kernel
   exact this a b ⟨i,h⟩
 | [a,b,c],_,i,h=>by
   have:∀a b c:Bool,∀i:Fin 3,[a,b,c][i.val]?=some (Gs (Oi [a,b,c] 0 0) (i.val:Nat)):=by decide+kernel
   exact this a b c ⟨i,h⟩
 | [a,b,c,d],_,i,h=>by
   have:∀a b c d:Bool,∀i:Fin 4,[a,b,c,d][i.val]?=some (Gs (Oi [a,b,c,d] 0 0) (i.val:Nat)):=by decide+kernel
   exact this a b c d ⟨i,h⟩
 | [a,b,c,d,e],_,i,h=>by
   have:∀a b c d e:Bool,∀i:Fin 5,[a,b,c,d,e][i.val]?=some (Gs (Oi [a,b,c,d,e] 0 0) (i.val:Nat)):=by decide+kernel
   exact this a b c d e ⟨i,h⟩
 | [a,b,c,d,e,f],_,i,h=>by
   have:∀a b c d e f:Bool,∀i:Fin 6,[a,b,c,d,e,f][i.val]?=some (Gs (Oi [a,b,c,d,e,f] 0 0) (i.val:Nat)):=by decide+kernel
   exact this a b c d e f ⟨i,h⟩
 |_::_::_::_::_::_::_::_,h,_,_=>by simp only[List.length_cons]at h;omega
theorem yH(a b:Bool):Fz Try.prog .neq 4 (.bool a) (.bool b)=some (.bool (!(a==b))):=by cases a<;>cases b<;>kernel_rfl
structure Ji where
 frm:Int
 to:Int
 nn:Bool
 wants:List Aj
 cmd:Int
 after:Int
 st:Int
 ag:Int
 bits:Int
 com:Int
theorem zS(n:Ji):Bh.call (.fn 92) [.agg [.int .i64 n.frm,.int .i64 n.to,Ad 2 true n.nn (n.wants.map Aj.cells),.int .i64 n.cmd,.int .i64 n.after,.int .i64 n.st,.int .i64 n.ag,.int .i64 n.bits,.int .i64 n.com]] []=some (.ret (.bool (n.frm==n.st)),[]):=by
 (refine ce Try.func92 ?_;simp only[Try.f92];(have hb:=trivial;with_reducible repeat' (first|simp only[hb,Vc.down,seval,awF.down]|refine An ?_ ?_<;>intro hb|refine fd ?_|fail)))
theorem ajD(n:Ji):Bh.call (.fn 93) [.agg [.int .i64 n.frm,.int .i64 n.to,Ad 2 true n.nn (n.wants.map Aj.cells),.int .i64 n.cmd,.int .i64 n.after,.int .i64 n.st,.int .i64 n.ag,.int .i64 n.bits,.int .i64 n.com]] []=some (.ret (.bool (decide (n.after≤n.ag))),[]):=by
 (refine ce Try.func93 ?_;simp only[Try.f93];(have hb:=trivial;with_reducible repeat' (first|simp only[hb,Vc.down,seval,ayE.down]|refine An ?_ ?_<;>intro hb|refine fd ?_|fail)))
theorem zQ(n:Ji):Bh.call (.fn 95) [.agg [.int .i64 n.frm,.int .i64 n.to,Ad 2 true n.nn (n.wants.map Aj.cells),.int .i64 n.cmd,.int .i64 n.after,.int .i64 n.st,.int .i64 n.ag,.int .i64 n.bits,.int .i64 n.com]] []=some (.ret (.bool (n.cmd== -1||n.cmd==n.com)),[]):=by
 (refine ce Try.func95 ?_;simp only[Try.f95];(have hb:=trivial;with_reducible repeat' (first|simp only[hb,Vc.down,seval,ax7.down]|refine An ?_ ?_<;>intro hb|refine fd ?_|fail)))
 all_goals simp_all
theorem dP(n:Ji)(w:Aj)(h0:0≤w.vote):Bh.call (.fn 99) [.agg [.int .i64 w.vote,.bool w.is],.ptr 0 0 0] [.live 9 false false [[.int .i64 n.frm,.int .i64 n.to,Ad 2 true n.nn (n.wants.map Aj.cells),.int .i64 n.cmd,.int .i64 n.after,.int .i64 n.st,.int .i64 n.ag,.int .i64 n.bits,.int .i64 n.com]]]=some (.ret (.bool (!(Gs n.bits w.vote==w.is))),[.live 9 false false [[.int .i64 n.frm,.int .i64 n.to,Ad 2 true n.nn (n.wants.map Aj.cells),.int .i64 n.cmd,.int .i64 n.after,.int .i64 n.st,.int .i64 n.ag,.int .i64 n.bits,.int .i64 n.com]]]):=by
 obtain⟨v,is⟩:=w
 obtain⟨k,hk⟩:∃k:Nat,v=k:=⟨v.toNat,by simp at h0;omega⟩
 subst hk
 (refine ce Try.func99 ?_;simp only[Try.f99];(have hb:=trivial;with_reducible repeat' (first|simp only[hb,Vc.down,seval,axZ.down,yH]|refine An ?_ ?_<;>intro hb|refine fd ?_|fail)))
 all_goals simp[Gs]
theorem Zo{l:List Aj}{nn:Bool}{g:Nat}{ndq:Ji}{p:Aj→Bool}(hp:∀x∈l,Bh.call (.fn g) (.agg [.int .i64 x.vote,.bool x.is]::[.ptr 0 0 0]) [.live 9 false false [[.int .i64 ndq.frm,.int .i64 ndq.to,Ad 2 true ndq.nn (ndq.wants.map Aj.cells),.int .i64 ndq.cmd,.int .i64 ndq.after,.int .i64 ndq.st,.int .i64 ndq.ag,.int .i64 ndq.bits,.int .i64 ndq.com]]]=some (.ret (.bool (p x)),[.live 9 false false [[.int .i64 ndq.frm,.int .i64 ndq.to,Ad 2 true ndq.nn (ndq.wants.map Aj.cells),.int .i64 ndq.cmd,.int .i64 ndq.after,.int .i64 ndq.st,.int .i64 ndq.ag,.int .i64 ndq.bits,.int .i64 ndq.com]]]))(hl:l.length≤maxLen)(hgm:Bh.md g=false:=by exact rfl):
 Bh.call (.fn 98) [Ad 2 true nn (l.map Aj.cells),.func (.func g) [] [.ptr 0 0 0]] [.live 9 false false [[.int .i64 ndq.frm,.int .i64 ndq.to,Ad 2 true ndq.nn (ndq.wants.map Aj.cells),.int .i64 ndq.cmd,.int .i64 ndq.after,.int .i64 ndq.st,.int .i64 ndq.ag,.int .i64 ndq.bits,.int .i64 ndq.com]]]=some (.ret (.int .i64 (Rx p l 0)),[.live 9 false false [[.int .i64 ndq.frm,.int .i64 ndq.to,Ad 2 true ndq.nn (ndq.wants.map Aj.cells),.int .i64 ndq.cmd,.int .i64 ndq.after,.int .i64 ndq.st,.int .i64 ndq.ag,.int .i64 ndq.bits,.int .i64 ndq.com]]]):=by
 (refine ce Try.func98 ?_;simp only[Try.f98];(have hb:=trivial;with_reducible repeat' (first|simp only[hb,Vc.down,seval,Su.down,aaA]|refine An ?_ ?_<;>intro hb|refine fd ?_|fail)))
 refine Ci (Lp 19 l (fun i (s:Int) t h=>s=i∧h=[.live 9 false false [[.int .i64 ndq.frm,.int .i64 ndq.to,Ad 2 true ndq.nn (ndq.wants.map Aj.cells),.int .i64 ndq.cmd,.int .i64 ndq.after,.int .i64 ndq.st,.int .i64 ndq.ag,.int .i64 ndq.bits,.int .i64 ndq.com]]]∧t 0=Ad 2 true nn (l.map Aj.cells)∧t 1=.func (.func g) [] [.ptr 0 0 0]∧t 7=.int .i64 l.length∧t 8=.int .i64 i)
  (fun rest s=>Rx p rest s) (fun r e t h=>h=[.live 9 false false [[.int .i64 ndq.frm,.int .i64 ndq.to,Ad 2 true ndq.nn (ndq.wants.map Aj.cells),.int .i64 ndq.cmd,.int .i64 ndq.after,.int .i64 ndq.st,.int .i64 ndq.ag,.int .i64 ndq.bits,.int .i64 ndq.com]]]∧((e=.exit 0∧r= -1)∨(e=.ret∧t 4=.int .i64 r))) ?_ ?_ 0 _ _ ?_) (fun e t h hk=>?_)
 ·rintro s t h Q' kQ ⟨rfl,rfl,h0,h1,h7,h8⟩
  (have hb:=trivial;with_reducible repeat' (first|simp only[hb,Vc.down,seval,Su.down,h0,h1,h7,h8,aaK,decide_false]|refine An ?_ ?_<;>intro hb|refine fd ?_|fail))
  exact kQ _ _ _ ⟨rfl,.inl ⟨rfl,rfl⟩⟩
 ·rintro x rest i s t h J Q' kJ kQ hx hi ⟨rfl,rfl,h0,h1,h7,h8⟩
  have hgm2:=hgm
  simp only[Vp,af7,af8,af9]at hgm2
  have hpx:=hp x (aa0 hx)
  have hd:decide ((i:Int)<(l.length:Int))=true:=by simpa using hi
  (have hb:=trivial;with_reducible repeat' (first|simp only[hb,Vc.down,seval,Su.down,h0,h1,h7,h8,hd,hx,Aj.cells,hpx,hgm2,Aq hi hl]|refine An ?_ ?_<;>intro hb|refine fd ?_|fail))
  ·exact kQ _ _ _ ⟨rfl,.inr ⟨rfl,by simp[up,Rx,hb]⟩⟩
  ·exact Av (kJ _ _ (i+1) ⟨by simp,rfl,by simp[up,h0],by simp[up,h1],by simp[up,h7],by simp[up]⟩ (by simp[Rx,hb]))
 ·exact⟨rfl,rfl,by simp[up,Cj],by simp[up,Cj],by simp[up],by simp[up]⟩
 ·obtain⟨rfl,⟨rfl,hi⟩|⟨rfl,hi⟩⟩:=hk
  ·(have hb:=trivial;with_reducible repeat' (first|simp only[hb,Vc.down,seval,Su.down]|refine An ?_ ?_<;>intro hb|refine fd ?_|fail))
   rw[hi]
  ·(have hb:=trivial;with_reducible repeat' (first|simp only[hb,Vc.down,seval,Su.down,hi]|refine An ?_ ?_<;>intro hb|refine fd ?_|fail))
theorem Xh{l:List Aj}{nn:Bool}{g:Nat}{ndq:Ji}{p:Aj→Bool}(hp:∀x∈l,Bh.call (.fn g) (.agg [.int .i64 x.vote,.bool x.is]::[.ptr 0 0 0]) [.live 9 false false [[.int .i64 ndq.frm,.int .i64 ndq.to,Ad 2 true ndq.nn (ndq.wants.map Aj.cells),.int .i64 ndq.cmd,.int .i64 ndq.after,.int .i64 ndq.st,.int .i64 ndq.ag,.int .i64 ndq.bits,.int .i64 ndq.com]]]=some (.ret (.bool (p x)),[.live 9 false false [[.int .i64 ndq.frm,.int .i64 ndq.to,Ad 2 true ndq.nn (ndq.wants.map Aj.cells),.int .i64 ndq.cmd,.int .i64 ndq.after,.int .i64 ndq.st,.int .i64 ndq.ag,.int .i64 ndq.bits,.int .i64 ndq.com]]]))(hl:l.length≤maxLen)(hgm:Bh.md g=false:=by exact rfl):
 Bh.call (.fn 89) [Ad 2 true nn (l.map Aj.cells),.func (.func g) [] [.ptr 0 0 0]] [.live 9 false false [[.int .i64 ndq.frm,.int .i64 ndq.to,Ad 2 true ndq.nn (ndq.wants.map Aj.cells),.int .i64 ndq.cmd,.int .i64 ndq.after,.int .i64 ndq.st,.int .i64 ndq.ag,.int .i64 ndq.bits,.int .i64 ndq.com]]]=some (.ret (.bool (l.any p)),[.live 9 false false [[.int .i64 ndq.frm,.int .i64 ndq.to,Ad 2 true ndq.nn (ndq.wants.map Aj.cells),.int .i64 ndq.cmd,.int .i64 ndq.after,.int .i64 ndq.st,.int .i64 ndq.ag,.int .i64 ndq.bits,.int .i64 ndq.com]]]):=by
 (refine ce Try.func89 ?_;simp only[Try.f89];(have hb:=trivial;with_reducible repeat' (first|simp only[hb,Vc.down,seval,Zo hp hl hgm,Jl p l 0 (agA 0)]|refine An ?_ ?_<;>intro hb|refine fd ?_|fail)))
def Vl(bits:Int)(l:List Aj):Bool:=l.all fun w=>Gs bits w.vote==w.is
theorem lC(n:Ji)(hl:n.wants.length≤maxLen)(h0:∀w∈n.wants,0≤w.vote):Bh.call (.fn 94) [.agg [.int .i64 n.frm,.int .i64 n.to,Ad 2 true n.nn (n.wants.map Aj.cells),.int .i64 n.cmd,.int .i64 n.after,.int .i64 n.st,.int .i64 n.ag,.int .i64 n.bits,.int .i64 n.com]] []=some (.ret (.bool (Vl n.bits n.wants)),[]):=by
 have hc:=Xh (ndq:=n) (l:=n.wants) (nn:=n.nn) (g:=99) (p:=fun w=> !(Gs n.bits w.vote==w.is)) (fun w hw=>dP n w (h0 w hw)) hl
 have q1:Vl n.bits n.wants= !(n.wants.any fun w=> !(Gs n.bits w.vote==w.is)):=af6
 (refine ce Try.func94 ?_;simp only[Try.f94];(have hb:=trivial;with_reducible repeat' (first|simp only[hb,Vc.down,seval,axK.down,hc]|refine An ?_ ?_<;>intro hb|refine fd ?_|fail)))
 all_goals simp[q1]
theorem akR(f0 f1 f2 f3:Fn)(a0 a1 a2 a3 c0 c1 c2 c3:List AV):Ly Try.prog 155 [(0,.func f0 a0 c0),(1,.func f1 a1 c1),(2,.func f2 a2 c2),(3,.func f3 a3 c3)]=some (.agg [.func f0 a0 c0,.func f1 a1 c1,.func f2 a2 c2,.func f3 a3 c3]):=by kernel_rfl
theorem uI(a b c d:AV):Oo Try.prog 155 (.agg [a,b,c,d]) (.int .i64 0)=some a:=by kernel_rfl
theorem sQ(a b c d:AV):Oo Try.prog 155 (.agg [a,b,c,d]) (.int .i64 1)=some b:=by kernel_rfl
theorem wM(a b c d:AV):Oo Try.prog 155 (.agg [a,b,c,d]) (.int .i64 2)=some c:=by kernel_rfl
theorem uH(a b c d:AV):Oo Try.prog 155 (.agg [a,b,c,d]) (.int .i64 3)=some d:=by kernel_rfl
def pX(n:Ji):Bool:=(n.frm==n.st)&&decide (n.after≤n.ag)&&Vl n.bits n.wants&&(n.cmd== -1||n.cmd==n.com)
theorem w2:IntKind.i64.wrap 2=2:=Eq.trans rfl rfl
theorem w3:IntKind.i64.wrap 3=3:=Eq.trans rfl rfl
theorem w4:IntKind.i64.wrap 4=4:=Eq.trans rfl rfl
theorem dK(n:Ji)(hl:n.wants.length≤maxLen)(h0:∀w∈n.wants,0≤w.vote):Bh.call (.fn 75) [.agg [.int .i64 n.frm,.int .i64 n.to,Ad 2 true n.nn (n.wants.map Aj.cells),.int .i64 n.cmd,.int .i64 n.after,.int .i64 n.st,.int .i64 n.ag,.int .i64 n.bits,.int .i64 n.com]] []=some (.ret (.bool (pX n)),[]):=by
 have q1:=zS n
 have q2:=ajD n
 have q3:=lC n hl h0
 have q4:=zQ n
 (refine ce Try.func75 ?_;simp only[Try.f75];(have hb:=trivial;with_reducible repeat' (first|simp only[hb,Vc.down,seval,aqD.down,akR,uI,sQ,wM,uH,q1,q2,q3,q4,w2,w3,w4]|refine An ?_ ?_<;>intro hb|refine fd ?_|fail)))
 (have hb:=trivial;with_reducible repeat' (first|simp only[hb,Vc.down,seval,aqD.down,akR,uI,sQ,wM,uH,q1,q2,q3,q4,w2,w3,w4]|refine An ?_ ?_<;>intro hb|refine fd ?_|refine arL ?_|fail))
 all_goals (refine congrArg (fun b=>(Dk.ret (AV.bool b),([]:Aa))) ?_;symm;((try simp only[ae7,aa9,acI]at *);simp only[pX, *,ae4,abO,ae2,aa3,afR,af4,aa9,acI,adV,af5]))
def nd(x:Ai)(st ag bits com:Int):Ji:=⟨x.frm,x.to,x.nn,x.wants,x.cmd,x.after,st,ag,bits,com⟩
def mQ(a:Int):Int:=if IntKind.i64.wrap (a+1)<10 then IntKind.i64.wrap (a+1)else 10
def Ij(st ag bits com:Int):List Ai→Int × Int
 | []=>(st,mQ ag)
 |x::l=>if pX (nd x st ag bits com)=true then(x.to,0)else Ij st ag bits com l
theorem jB(m:Ac)(st ag bits com:Int)(hs:m.small)(h0:∀x∈m.moves,∀w∈x.wants,0≤w.vote):
 Bh.call (.fn 45) [.agg [Ad 3 true m.nS (m.sens.map Ba.cells),Ad 4 false m.nV (m.votes.map Ag.cells),Ad 5 false m.nM (m.moves.map Ai.cells),.int .i64 m.states,.int .i64 m.cmds,.int .i64 m.bgn,Ad 1 true m.nO (m.opn.map iv)],.agg [.int .i64 st,.int .i64 ag],.agg [.int .i64 bits,.int .i64 com]] []=some (.ret (.agg [.int .i64 (Ij st ag bits com m.moves).1,.int .i64 (Ij st ag bits com m.moves).2]),[]):=by
 (refine ce Try.func45 ?_;simp only[Try.f45];(have hb:=trivial;with_reducible repeat' (first|simp only[hb,Vc.down,seval,mX.down,aaA]|refine An ?_ ?_<;>intro hb|refine fd ?_|fail)))
 refine Ci (Lp 32 m.moves (fun i (zz:Unit) t h=>t 4=.ptr 1 0 0∧t 5=.ptr 2 0 0∧t 6=.ptr 3 0 0∧t 10=Ad 5 false m.nM (m.moves.map Ai.cells)∧t 11=.int .i64 m.moves.length∧t 12=.int .i64 i∧(h[1]?=some (.live 2 true false [[.int .i64 st,.int .i64 ag]])∧h[2]?=some (.live 2 true false [[.int .i64 bits,.int .i64 com]])∧h[3]?=some (.live 2 true false [[.int .i64 0,.int .i64 0]]))) (fun rest zz=>Ij st ag bits com rest) (fun r e t h=>(e=.exit 0∧t 4=.ptr 1 0 0∧t 6=.ptr 3 0 0∧h[1]?=some (.live 2 true false [[.int .i64 st,.int .i64 ag]])∧h[3]?=some (.live 2 true false [[.int .i64 0,.int .i64 0]])∧r=(st,mQ ag))∨(e=.ret∧t 6=.ptr 3 0 0∧h[3]?=some (.live 2 true true [[.int .i64 r.1,.int .i64 r.2]]))) ?_ ?_ () _ _ ?_) (fun e t h hk=>?_)
 ·rintro _ t h Q' kQ ⟨h4,h5,h6,h10,h11,h12,⟨hA,hB,hC⟩⟩
  (have hb:=trivial;with_reducible repeat' (first|simp only[hb,Vc.down,seval,mX.down,h4,h5,h6,h10,h11,h12,aaK,decide_false]|refine An ?_ ?_<;>intro hb|refine fd ?_|fail))
  exact kQ _ _ _ (.inl ⟨rfl,by simp[up,h4],by simp[up,h6],hA,hC,rfl⟩)
 ·rintro x rest i _ t h J Q' kJ kQ hx hi ⟨h4,h5,h6,h10,h11,h12,⟨hA,hB,hC⟩⟩
  have hd:decide ((i:Int)<(m.moves.length:Int))=true:=decide_eq_true (by omega)
  have hw:=Aq hi hs.moves
  have hA1:=Ab hA
  have hB1:=Ab hB
  have hC1:=Ab hC
  have hap:=dK (nd x st ag bits com) (hs.ws x (aa0 hx)) (h0 x (aa0 hx))
  have h3l:3<h.length:=(aiO.1 hC).1
  generalize hq:pX (nd x st ag bits com)=q at hap
  simp only[nd]at hap
  (have hb:=trivial;with_reducible repeat' (first|simp only[hb,Vc.down,seval,mX.down,h4,h5,h6,h10,h11,h12,hd,hx,hw,hA1,hB1,hC1,hap,Ai.cells,aaA]|refine An ?_ ?_<;>intro hb|refine fd ?_|fail))
  ·exact kQ _ _ _ (.inr ⟨rfl,by simp[up,h6],by rw[alV (by simp;omega)];simp[Ij,hq,hb]⟩)
  ·(refine Av (kJ _ _ () ⟨?_,?_,?_,?_,?_,?_,⟨hA1 _,hB1 _,hC1 _⟩⟩ ?_);(simp[up,h4]);(simp[up,h5]);(simp[up,h6]);(simp[up,h10]);(simp[up,h11]);(simp[up]);(simp[Ij,hq,hb]))
 ·exact⟨by simp[up,Cj],by simp[up,Cj],by simp[up,Cj],by simp[up,Cj],by simp[up,Cj],by simp[up],⟨rfl,rfl,rfl⟩⟩
 rcases hk with⟨rfl,h4,h6,hA,hC,hr⟩|⟨rfl,h6,hC⟩
 ·have hA1:=Ab hA
  have hC1:=Ab hC
  have h3l:3<h.length:=(aiO.1 hC).1
  have hset:∀c:CB,(h.set 3 c)[3]?=some c:=fun c=>alV h3l
  have hmt:(if IntKind.i64.wrap (ag+1)<10 then IntKind.i64.wrap (ag+1)else 10)=mQ ag:=rfl
  rw[hr]
  (have hb:=trivial;with_reducible repeat' (first|simp only[hb,Vc.down,seval,mX.down,h4,h6,hA,hC,hA1,hC1,hset,hmt]|refine An ?_ ?_<;>intro hb|refine fd ?_|fail))
 ·(have hb:=trivial;with_reducible repeat' (first|simp only[hb,Vc.down,seval,mX.down,h6,hC]|refine An ?_ ?_<;>intro hb|refine fd ?_|fail))
theorem cI{m:Ac}(h:Be m=true):∀x∈m.moves,∀w∈x.wants,0≤w.vote∧w.vote.toNat<m.votes.length:=fun x hx w hw=>by
 simp only[Be,Lj,acY,decide_eq_true_eq,aj8]at h
 have h2:=h.1.2 x hx
 simp only[Is,acY]at h2
 have h3:=h2.1.1.1.1.1
 have h6:m.votes.length≤6:=h.1.1.1.1.1.1.1.1.1.2
 have key:∀(l p:List Aj),Hn m.votes.length p l=true→w∈l→0≤w.vote∧w.vote.toNat<m.votes.length:=by
  intro l
  induction l with
  |nil=>intro p _ h;cases h
  |cons y l ih=>
   intro p h hm
   simp only[Hn,acY]at h
   rcases List.mem_cons.1 hm with rfl|hm
   ·have:=h.1.1
    rw[Du (by omega) (by omega)]at this
    simp[Ie]at this
    omega
   ·exact ih _ h.2 hm
 exact key x.wants [] h3 hw
def Zb(m:Ac)(st ag:Int)(s:Bw):Int × Int:=Ij st ag (Ir m s.reads m.votes 0 0) s.cmd m.moves
theorem iO{m:Ac}{l:List Int}(h:Vy m l=true):l.length=m.sens.length:=by
 simp only[Vy,acY,beq_iff_eq]at h
 omega
theorem Nq{m:Ac}(h:Be m=true):m.votes.length≤6:=by
 simp only[Be,Lj,acY,decide_eq_true_eq]at h
 exact h.1.1.1.1.1.1.1.1.1.2
def Vh(m:Ac):Bool:=m.votes.all (fun v=>decide (v.sens.length≤10))&&m.moves.all (fun x=>decide (x.wants.length≤10))&&decide (m.sens.length≤10)&&decide (m.votes.length≤10)&&decide (m.moves.length≤30)&&decide (m.opn.length≤20)
theorem ap8(m:Ac)(hs:m.small):Bh.call (.fn 12) [.agg [Ad 3 true m.nS (m.sens.map Ba.cells),Ad 4 false m.nV (m.votes.map Ag.cells),Ad 5 false m.nM (m.moves.map Ai.cells),.int .i64 m.states,.int .i64 m.cmds,.int .i64 m.bgn,Ad 1 true m.nO (m.opn.map iv)]] []=some (.ret (.bool (Vh m)),[]):=by
 have l1:decide ((m.sens.length:Int)≤10)=decide (m.sens.length≤10):=by rw[decide_eq_decide];omega
 have l2:decide ((m.votes.length:Int)≤10)=decide (m.votes.length≤10):=by rw[decide_eq_decide];omega
 have l3:decide ((m.moves.length:Int)≤30)=decide (m.moves.length≤30):=by rw[decide_eq_decide];omega
 have l4:decide ((m.opn.length:Int)≤20)=decide (m.opn.length≤20):=by rw[decide_eq_decide];omega
 (refine ce Try.func12 ?_;simp only[Try.f12];(have hb:=trivial;with_reducible repeat' (first|simp only[hb,Vc.down,seval,kB.down,aaA]|refine An ?_ ?_<;>intro hb|refine fd ?_|fail)))
 refine Ci (Lp 57 m.votes (fun i (zz:Unit) t h=>t 1=.ptr 0 0 0∧t 3=.int .i64 i∧(h=[.live 7 false false [[Ad 3 true m.nS (m.sens.map Ba.cells),Ad 4 false m.nV (m.votes.map Ag.cells),Ad 5 false m.nM (m.moves.map Ai.cells),.int .i64 m.states,.int .i64 m.cmds,.int .i64 m.bgn,Ad 1 true m.nO (m.opn.map iv)]]])) (fun rest zz=>rest.all (fun v=>decide (v.sens.length≤10))) (fun r e t h=>(if r=true then e=.exit 0∧t 1=.ptr 0 0 0∧h=[.live 7 false false [[Ad 3 true m.nS (m.sens.map Ba.cells),Ad 4 false m.nV (m.votes.map Ag.cells),Ad 5 false m.nM (m.moves.map Ai.cells),.int .i64 m.states,.int .i64 m.cmds,.int .i64 m.bgn,Ad 1 true m.nO (m.opn.map iv)]]]else e=.ret∧t 2=.bool false)) ?_ ?_ () _ _ ?_) (fun e t h hk=>?_)
 ·rintro _ t h Q' kQ ⟨h1,h3,rfl⟩
  (have hb:=trivial;with_reducible repeat' (first|simp only[hb,Vc.down,seval,kB.down,h1,h3,aaK,decide_false,aaA]|refine An ?_ ?_<;>intro hb|refine fd ?_|fail))
  exact kQ _ _ _ (by rw[if_pos (by rfl)];exact⟨rfl,by simp[up,h1],rfl⟩)
 ·rintro x rest i _ t h J Q' kJ kQ hx hi ⟨h1,h3,rfl⟩
  have hd:decide ((i:Int)<(m.votes.length:Int))=true:=decide_eq_true (by omega)
  have hw:=Aq hi hs.votes
  have lx:decide ((10:Int)<(x.sens.length:Int))= !decide (x.sens.length≤10):=by rw[←decide_not,decide_eq_decide];omega
  cases c1:decide (x.sens.length≤10)with
  |false=>
   (have hb:=trivial;with_reducible repeat' (first|simp only[hb,Vc.down,seval,kB.down,h1,h3,hd,hx,hw,lx,c1,Ag.cells,aaA]|refine An ?_ ?_<;>intro hb|refine fd ?_|fail))
   exact kQ _ _ _ (by rw[if_neg (by simp only[adV,c1,abO];simp)];exact⟨rfl,by simp[up]⟩)
  |true=>
   (have hb:=trivial;with_reducible repeat' (first|simp only[hb,Vc.down,seval,kB.down,h1,h3,hd,hx,hw,lx,c1,Ag.cells,aaA]|refine An ?_ ?_<;>intro hb|refine fd ?_|fail))
   (refine Av (kJ _ _ () ⟨?_,?_,rfl⟩ ?_);(simp[up,h1]);(simp[up]);(simp only[adV,c1,aa3]))
 ·exact⟨by simp[up,Cj],by simp[up],rfl⟩
 split at hk
 rotate_left
 ·obtain⟨rfl,h2⟩:=hk
  rename_i hr1
  (have hb:=trivial;with_reducible repeat' (first|simp only[hb,Vc.down,seval,kB.down,h2]|refine An ?_ ?_<;>intro hb|refine fd ?_|fail))
  all_goals simp[Vh,acM.2 hr1]
 obtain⟨rfl,h1,rfl⟩:=hk
 rename_i hr1
 (have hb:=trivial;with_reducible repeat' (first|simp only[hb,Vc.down,seval,kB.down,h1,aaA]|refine An ?_ ?_<;>intro hb|refine fd ?_|fail))
 refine Ci (Lp 57 m.moves (fun i (zz:Unit) t h=>t 1=.ptr 0 0 0∧t 4=.int .i64 i∧(h=[.live 7 false false [[Ad 3 true m.nS (m.sens.map Ba.cells),Ad 4 false m.nV (m.votes.map Ag.cells),Ad 5 false m.nM (m.moves.map Ai.cells),.int .i64 m.states,.int .i64 m.cmds,.int .i64 m.bgn,Ad 1 true m.nO (m.opn.map iv)]]])) (fun rest zz=>rest.all (fun x=>decide (x.wants.length≤10))) (fun r e t h=>(if r=true then e=.exit 2∧t 1=.ptr 0 0 0∧h=[.live 7 false false [[Ad 3 true m.nS (m.sens.map Ba.cells),Ad 4 false m.nV (m.votes.map Ag.cells),Ad 5 false m.nM (m.moves.map Ai.cells),.int .i64 m.states,.int .i64 m.cmds,.int .i64 m.bgn,Ad 1 true m.nO (m.opn.map iv)]]]else e=.ret∧t 2=.bool false)) ?_ ?_ () _ _ ?_) (fun e t h hk=>?_)
 ·rintro _ t h Q' kQ ⟨h1,h4,rfl⟩
  (have hb:=trivial;with_reducible repeat' (first|simp only[hb,Vc.down,seval,kB.down,h1,h4,aaK,decide_false,aaA]|refine An ?_ ?_<;>intro hb|refine fd ?_|fail))
  exact kQ _ _ _ (by rw[if_pos (by rfl)];exact⟨rfl,by simp[up,h1],rfl⟩)
 ·rintro x rest i _ t h J Q' kJ kQ hx hi ⟨h1,h4,rfl⟩
  have hd:decide ((i:Int)<(m.moves.length:Int))=true:=decide_eq_true (by omega)
  have hw:=Aq hi hs.moves
  have lx:decide ((10:Int)<(x.wants.length:Int))= !decide (x.wants.length≤10):=by rw[←decide_not,decide_eq_decide];omega
  cases c1:decide (x.wants.length≤10)with
  |false=>
   (have hb:=trivial;with_reducible repeat' (first|simp only[hb,Vc.down,seval,kB.down,h1,h4,hd,hx,hw,lx,c1,Ai.cells,aaA]|refine An ?_ ?_<;>intro hb|refine fd ?_|fail))
   exact kQ _ _ _ (by rw[if_neg (by simp only[adV,c1,abO];simp)];exact⟨rfl,by simp[up]⟩)
  |true=>
   (have hb:=trivial;with_reducible repeat' (first|simp only[hb,Vc.down,seval,kB.down,h1,h4,hd,hx,hw,lx,c1,Ai.cells,aaA]|refine An ?_ ?_<;>intro hb|refine fd ?_|fail))
   (refine Av (kJ _ _ () ⟨?_,?_,rfl⟩ ?_);(simp[up,h1]);(simp[up]);(simp only[adV,c1,aa3]))
 ·exact⟨by simp[up,Cj,h1],by simp[up],rfl⟩
 split at hk
 rotate_left
 ·obtain⟨rfl,h2⟩:=hk
  rename_i hr2
  (have hb:=trivial;with_reducible repeat' (first|simp only[hb,Vc.down,seval,kB.down,h2]|refine An ?_ ?_<;>intro hb|refine fd ?_|fail))
  all_goals simp[Vh,acM.2 hr2]
 obtain⟨rfl,h1,rfl⟩:=hk
 rename_i hr2
 (have hb:=trivial;with_reducible repeat' (first|simp only[hb,Vc.down,seval,kB.down,h1,aaA,l1,l2,l3,l4]|refine An ?_ ?_<;>intro hb|refine fd ?_|fail))
 all_goals (refine congrArg (fun b=>(Dk.ret (AV.bool b),([]:Aa))) ?_;symm;((try simp only[ae7,aa9,acI]at *);simp only[Vh, *,ae4,abO,ae2,aa3,afR,af4,aa9,acI,adV,af5]))
end Go.Proofs.Ytfkokgjfpojeoaa
