/- The functions of the layer, walked. -/
import Derived.Test.YtfkokgjfpojeoaaPartAA
import Derived.Test.YtfkokgjfpojeoaaLibD
import Derived.Test.YtfkokgjfpojeoaaLibE
import Derived.Test.YtfkokgjfpojeoaaLibF
import Derived.Test.YtfkokgjfpojeoaaRows
import Derived.Test.YtfkokgjfpojeoaaShelf
import Derived.ProofKit
import Derived.LaidMore
import Derived.OpenShut
open List renaming length_map→acE,mem_of_getElem?→acK,mem_cons→aiK,not_mem_nil→al2,getElem?_eq_getElem→al3,all_eq_true→al7,contains_cons→al9,contains_nil→amP,all_cons→ao3,all_nil→apC,getElem?_eq_some_iff→apH,getElem?_set_self→ap9,take_add_one→asS
open Int renaming lt_irrefl→acG,le_refl→ah3,natCast_zero→asB
open Bool renaming not_true→acZ,not_false→adD,true_and→ahZ,false_and→aiC,and_false→al5,and_true→al6,or_false→anC,not_eq_eq_eq_not→anF,and_self→an5,not_not→aoC,and_eq_true→apN
open Option renaming bind_eq_some_iff→aiH,map_eq_some_iff→aiI
open Eq renaming trans→al4
open Nat renaming add_sub_cancel→asI
set_option linter.unusedSimpArgs false
set_option linter.unusedVariables false
namespace Go.Proofs.Ytfkokgjfpojeoaa.Ko
open Go.Ev Go
set_option maxRecDepth 100000
set_option maxHeartbeats 16000000
def Qb(m:Ad)(k:Int):Bz:=m.sens.getD k.toNat ⟨0,0,false⟩
def rAt(l:List Int)(k:Int):Int:=l.getD k.toNat 0
theorem cR{m:Ad}{k:Int}(h:k.toNat<m.sens.length):m.sens[k.toNat]?=some (Qb m k):=by
 simp[Qb,List.getD,al3 h]
theorem yG{l:List Int}{k:Int}(h:k.toNat<l.length):l[k.toNat]?=some (rAt l k):=by
 simp[rAt,List.getD,al3 h]
def gV(m:Ad)(v:Aj)(l:List Int):List Int→Int→Int
 | [],c=>c
 |k::ks,c=>gV m v l ks (if Qk (Qb m k) v (rAt l k)=true then IntKind.i64.wrap (c+1)else c)
def fY(m:Ad)(l:List Int)(v:Aj):Bool:=decide (v.need≤gV m v l v.sens 0)
def Idx(m:Ad)(l:List Int):Prop:=∀k∈l,0≤k∧k.toNat<m.sens.length
def orN(a b:Int):Int:=IntKind.i64.wrap ((BitVec.ofInt 64 a|||BitVec.ofInt 64 b).toNat:Int)
theorem ad3(ty:TypeId)(a b:Int):Pn Try.prog .or ty (.int .i64 a) (.int .i64 b)=some (.int .i64 (orN a b)):=by
 show(if IntKind.i64=IntKind.i64 then Lq .or .i64 a b else none)=_
 rw[if_pos rfl];rfl
def Vq(m:Ad)(l:List Int):List Aj→Nat→Int→Int
 | [],_,b=>b
 |v::vs,i,b=>Vq m l vs (i+1) (if fY m l v=true then orN b (alF i)else b)
theorem yU(m:Ad){l:List Int}{nn:Bool}(hl:l.length=m.sens.length)(hs:m.small)(hi:∀v∈m.votes,Idx m v.sens):Dc.call (.fn 46) [.agg [Af 3 true m.nS (m.sens.map Bz.cells),Af 4 false m.nV (m.votes.map Aj.cells),Af 5 false m.nM (m.moves.map Ap.cells),.int .i64 m.states,.int .i64 m.cmds,.int .i64 m.bgn,Af 1 true m.nO (m.opn.map iv)],Af 1 true nn (l.map iv)] []=some (.ret (.int .i64 (Vq m l m.votes 0 0)),[]):=by
 have hI:=hi
 clear hi
 (refine ce Try.func46 ?_;simp only[Try.f46];(have hb:=trivial;with_reducible repeat' (first|simp only[hb,Vc.down,seval,sE.down,acE]|refine Aq ?_ ?_<;>intro hb|refine fd ?_|fail)))
 refine Dl (Ss 50 m.votes (fun i (zz:Nat × Int) t h=>t 1=Af 1 true nn (l.map iv)∧t 2=.ptr 0 0 0∧t 12=Af 4 false m.nV (m.votes.map Aj.cells)∧t 13=.int .i64 m.votes.length∧t 14=.int .i64 i∧t 5=.int .i64 zz.2∧(h[0]?=some (.live 7 false false [[Af 3 true m.nS (m.sens.map Bz.cells),Af 4 false m.nV (m.votes.map Aj.cells),Af 5 false m.nM (m.moves.map Ap.cells),.int .i64 m.states,.int .i64 m.cmds,.int .i64 m.bgn,Af 1 true m.nO (m.opn.map iv)]])∧i=zz.1)) (fun rest zz=>Vq m l rest zz.1 zz.2) (fun r e t h=>e=.exit 0∧t 5=.int .i64 r) ?_ ?_ (0,0) _ _ ?_) (fun e t h hk=>?_)
 ·rintro⟨k,b⟩ t h Q' kQ ⟨h1,h2,h12,h13,h14,h5,⟨hA,rfl⟩⟩
  try dsimp only at *
  (have hb:=trivial;with_reducible repeat' (first|simp only[hb,Vc.down,seval,sE.down,h1,h2,h12,h13,h14,h5,acG,decide_false]|refine Aq ?_ ?_<;>intro hb|refine fd ?_|fail))
  exact kQ _ _ _ ⟨rfl,by simp[up,h5,Vq]⟩
 ·rintro x rest i ⟨k,b⟩ t h J Q' kJ kQ hx hi ⟨h1,h2,h12,h13,h14,h5,⟨hA,rfl⟩⟩
  have hd:decide ((i:Int)<(m.votes.length:Int))=true:=decide_eq_true (by omega)
  have hw:=Av hi hs.votes
  try dsimp only at *
  have hA1:=Ac hA
  have hvs:=hs.vs x (acK hx)
  have hIx:=hI x (acK hx)
  obtain⟨w,rfl⟩:∃w,w=x:=⟨_,rfl⟩
  obtain⟨k,rfl⟩:∃k,k=i:=⟨_,rfl⟩
  obtain⟨hL,hLe⟩:∃hL,hL=h.length:=⟨_,rfl⟩
  (have hb:=trivial;with_reducible repeat' (first|simp only[hb,Vc.down,seval,sE.down,h1,h2,h12,h13,h14,h5,hd,hx,hw,hA1,Aj.cells,acE]|refine Aq ?_ ?_<;>intro hb|refine fd ?_|fail))
  refine Dl (Ss 50 w.sens (fun i (zz:Int) t h=>t 1=Af 1 true nn (l.map iv)∧t 2=.ptr 0 0 0∧t 12=Af 4 false m.nV (m.votes.map Aj.cells)∧t 13=.int .i64 m.votes.length∧t 14=.int .i64 (k:Int)∧t 5=.int .i64 b∧t 6=.int .i64 (k:Int)∧t 7=.ptr hL 0 0∧t 20=Af 1 true w.nn (w.sens.map iv)∧t 21=.int .i64 w.sens.length∧t 22=.int .i64 i∧t 8=.int .i64 zz∧(h[0]?=some (.live 7 false false [[Af 3 true m.nS (m.sens.map Bz.cells),Af 4 false m.nV (m.votes.map Aj.cells),Af 5 false m.nM (m.moves.map Ap.cells),.int .i64 m.states,.int .i64 m.cmds,.int .i64 m.bgn,Af 1 true m.nO (m.opn.map iv)]])∧∃wf,h[hL]?=some (.live 4 false wf [[Af 1 true w.nn (w.sens.map iv),.int .i64 w.need,.int .i64 w.level,.bool w.above]]))) (fun rest zz=>gV m w l rest zz) (fun r e t h=>e=.exit 2∧t 1=Af 1 true nn (l.map iv)∧t 2=.ptr 0 0 0∧t 12=Af 4 false m.nV (m.votes.map Aj.cells)∧t 13=.int .i64 m.votes.length∧t 14=.int .i64 (k:Int)∧t 5=.int .i64 b∧t 6=.int .i64 (k:Int)∧t 7=.ptr hL 0 0∧t 8=.int .i64 r∧h[0]?=some (.live 7 false false [[Af 3 true m.nS (m.sens.map Bz.cells),Af 4 false m.nV (m.votes.map Aj.cells),Af 5 false m.nM (m.moves.map Ap.cells),.int .i64 m.states,.int .i64 m.cmds,.int .i64 m.bgn,Af 1 true m.nO (m.opn.map iv)]])∧∃wf,h[hL]?=some (.live 4 false wf [[Af 1 true w.nn (w.sens.map iv),.int .i64 w.need,.int .i64 w.level,.bool w.above]])) ?_ ?_ (0) _ _ ?_) (fun e tC hC hk=>?_)
  ·rintro c t h Q' kQ ⟨h1,h2,h12,h13,h14,h5,h6,h7,h20,h21,h22,h8,⟨hA,wf,hB⟩⟩
   (have hb:=trivial;with_reducible repeat' (first|simp only[hb,Vc.down,seval,sE.down,h1,h2,h12,h13,h14,h5,h6,h7,h20,h21,h22,h8,acG,decide_false]|refine Aq ?_ ?_<;>intro hb|refine fd ?_|fail))
   exact kQ _ _ _ ⟨rfl,by simp[up,h1],by simp[up,h2],by simp[up,h12],by simp[up,h13],by simp[up,h14],by simp[up,h5],by simp[up,h6],by simp[up,h7],by simp[up,h8,gV],hA,wf,hB⟩
  ·rintro x rest i c t h J Q' kJ kQ hx hi ⟨h1,h2,h12,h13,h14,h5,h6,h7,h20,h21,h22,h8,⟨hA,wf,hB⟩⟩
   have hd:decide ((i:Int)<(w.sens.length:Int))=true:=decide_eq_true (by omega)
   have hw:=Av hi hvs
   obtain⟨k0,k1⟩:=hIx x (acK hx)
   have hrr:=yG (l:=l) (k:=x) (by omega)
   have hss:=cR k1
   have h0':(0≤x)=True:=eq_true k0
   have hS:=ahK (Qb m x) w (rAt l x)
   generalize hq:Qk (Qb m x) w (rAt l x)=q at hS
   generalize Qb m x=s at hss hS
   (have hb:=trivial;with_reducible repeat' (first|simp only[hb,Vc.down,seval,sE.down,h1,h2,h7,h8,h20,h21,h22,hd,hx,hw,hrr,hss,h0',hA,hB,hS,iv,Bz.cells,acE]|refine Aq ?_ ?_<;>intro hb|refine fd ?_|fail))
   all_goals (refine Ax (kJ _ _ (if q=true then IntKind.i64.wrap (c+1)else c) ⟨?_,?_,?_,?_,?_,?_,?_,?_,?_,?_,?_,?_,⟨hA,wf,hB⟩⟩ ?_);(simp[up,h1]);(simp[up,h2]);(simp[up,h12]);(simp[up,h13]);(simp[up,h14]);(simp[up,h5]);(simp[up,h6]);(simp[up,h7]);(simp[up,h20]);(simp[up,h21]);(simp[up]);(simp[up,h8,hb]);(simp[gV,hq]))
  ·exact⟨by simp[up,Eg,h1,h2,h12,h13,h14,h5,hLe],by simp[up,Eg,h1,h2,h12,h13,h14,h5,hLe],by simp[up,Eg,h1,h2,h12,h13,h14,h5,hLe],by simp[up,Eg,h1,h2,h12,h13,h14,h5,hLe],by simp[up,Eg,h1,h2,h12,h13,h14,h5,hLe],by simp[up,Eg,h1,h2,h12,h13,h14,h5,hLe],by simp[up,Eg,h1,h2,h12,h13,h14,h5,hLe],by simp[up,Eg,h1,h2,h12,h13,h14,h5,hLe],by simp[up,Eg,h1,h2,h12,h13,h14,h5,hLe],by simp[up,Eg,h1,h2,h12,h13,h14,h5,hLe],by simp[up],by simp[up,Eg,h1,h2,h12,h13,h14,h5,hLe],⟨hA1 _,true,by rw[hLe];simp⟩⟩
  ·obtain⟨rfl,h1,h2,h12,h13,h14,h5,h6,h7,h8,hA,wf,hB⟩:=hk
   have hy:decide (w.need≤gV m w l w.sens 0)=fY m l w:=rfl
   (have hb:=trivial;with_reducible repeat' (first|simp only[hb,Vc.down,seval,sE.down,h1,h2,h12,h13,h14,h5,h6,h7,h8,hA,hB,hw,hy,ad3]|refine Aq ?_ ?_<;>intro hb|refine fd ?_|fail))
   all_goals (refine Ax (kJ _ _ (k+1,(if fY m l w=true then orN b (alF k)else b)) ⟨?_,?_,?_,?_,?_,?_,⟨hA,rfl⟩⟩ ?_);(simp[up,h1]);(simp[up,h2]);(simp[up,h12]);(simp[up,h13]);(simp[up]);(simp[up,h5,hb]);(simp[Vq]))
 ·exact⟨by simp[up,Eg],by simp[up,Eg],by simp[up,Eg],by simp[up,Eg],by simp[up],by simp[up,Eg],⟨rfl,rfl⟩⟩
 obtain⟨rfl,h5⟩:=hk
 (have hb:=trivial;with_reducible repeat' (first|simp only[hb,Vc.down,seval,sE.down,h5]|refine Aq ?_ ?_<;>intro hb|refine fd ?_|fail))
def Vv(b v:Int):Bool:=bhV (aAX b v.toNat)==1
theorem ahI(a b:Bool):Pn Try.prog .neq 4 (.bool a) (.bool b)=some (.bool (!(a==b))):=by cases a<;>cases b<;>kernel_rfl
structure Ui where
 frm:Int
 to:Int
 nn:Bool
 wants:List Ao
 cmd:Int
 after:Int
 st:Int
 ag:Int
 bits:Int
 com:Int
theorem anU(n:Ui):Dc.call (.fn 92) [.agg [.int .i64 n.frm,.int .i64 n.to,Af 2 true n.nn (n.wants.map Ao.cells),.int .i64 n.cmd,.int .i64 n.after,.int .i64 n.st,.int .i64 n.ag,.int .i64 n.bits,.int .i64 n.com]] []=some (.ret (.bool (n.frm==n.st)),[]):=by
 (refine ce Try.func92 ?_;simp only[Try.f92];(have hb:=trivial;with_reducible repeat' (first|simp only[hb,Vc.down,seval,bi6.down]|refine Aq ?_ ?_<;>intro hb|refine fd ?_|fail)))
theorem axX(n:Ui):Dc.call (.fn 93) [.agg [.int .i64 n.frm,.int .i64 n.to,Af 2 true n.nn (n.wants.map Ao.cells),.int .i64 n.cmd,.int .i64 n.after,.int .i64 n.st,.int .i64 n.ag,.int .i64 n.bits,.int .i64 n.com]] []=some (.ret (.bool (decide (n.after≤n.ag))),[]):=by
 (refine ce Try.func93 ?_;simp only[Try.f93];(have hb:=trivial;with_reducible repeat' (first|simp only[hb,Vc.down,seval,blI.down]|refine Aq ?_ ?_<;>intro hb|refine fd ?_|fail)))
theorem an8(n:Ui):Dc.call (.fn 95) [.agg [.int .i64 n.frm,.int .i64 n.to,Af 2 true n.nn (n.wants.map Ao.cells),.int .i64 n.cmd,.int .i64 n.after,.int .i64 n.st,.int .i64 n.ag,.int .i64 n.bits,.int .i64 n.com]] []=some (.ret (.bool (n.cmd== -1||n.cmd==n.com)),[]):=by
 (refine ce Try.func95 ?_;simp only[Try.f95];(have hb:=trivial;with_reducible repeat' (first|simp only[hb,Vc.down,seval,bi7.down]|refine Aq ?_ ?_<;>intro hb|refine fd ?_|fail)))
 all_goals simp_all
theorem uX(n:Ui)(w:Ao)(h0:0≤w.vote):Dc.call (.fn 99) [.agg [.int .i64 w.vote,.bool w.is],.ptr 0 0 0] [.live 9 false false [[.int .i64 n.frm,.int .i64 n.to,Af 2 true n.nn (n.wants.map Ao.cells),.int .i64 n.cmd,.int .i64 n.after,.int .i64 n.st,.int .i64 n.ag,.int .i64 n.bits,.int .i64 n.com]]]=some (.ret (.bool (!(Vv n.bits w.vote==w.is))),[.live 9 false false [[.int .i64 n.frm,.int .i64 n.to,Af 2 true n.nn (n.wants.map Ao.cells),.int .i64 n.cmd,.int .i64 n.after,.int .i64 n.st,.int .i64 n.ag,.int .i64 n.bits,.int .i64 n.com]]]):=by
 obtain⟨v,is⟩:=w
 obtain⟨k,hk⟩:∃k:Nat,v=k:=⟨v.toNat,by simp at h0;omega⟩
 subst hk
 (refine ce Try.func99 ?_;simp only[Try.f99];(have hb:=trivial;with_reducible repeat' (first|simp only[hb,Vc.down,seval,bjQ.down,ahI]|refine Aq ?_ ?_<;>intro hb|refine fd ?_|fail)))
 all_goals simp[Vv]
theorem oR{l:List Ao}{nn:Bool}{g:Nat}{ndq:Ui}{p:Ao→Bool}(hp:∀x∈l,Dc.call (.fn g) (.agg [.int .i64 x.vote,.bool x.is]::[.ptr 0 0 0]) [.live 9 false false [[.int .i64 ndq.frm,.int .i64 ndq.to,Af 2 true ndq.nn (ndq.wants.map Ao.cells),.int .i64 ndq.cmd,.int .i64 ndq.after,.int .i64 ndq.st,.int .i64 ndq.ag,.int .i64 ndq.bits,.int .i64 ndq.com]]]=some (.ret (.bool (p x)),[.live 9 false false [[.int .i64 ndq.frm,.int .i64 ndq.to,Af 2 true ndq.nn (ndq.wants.map Ao.cells),.int .i64 ndq.cmd,.int .i64 ndq.after,.int .i64 ndq.st,.int .i64 ndq.ag,.int .i64 ndq.bits,.int .i64 ndq.com]]]))(hl:l.length≤maxLen)(hgm:Dc.md g=false:=by exact rfl):
 Dc.call (.fn 98) [Af 2 true nn (l.map Ao.cells),.func (.func g) [] [.ptr 0 0 0]] [.live 9 false false [[.int .i64 ndq.frm,.int .i64 ndq.to,Af 2 true ndq.nn (ndq.wants.map Ao.cells),.int .i64 ndq.cmd,.int .i64 ndq.after,.int .i64 ndq.st,.int .i64 ndq.ag,.int .i64 ndq.bits,.int .i64 ndq.com]]]=some (.ret (.int .i64 (dT p l 0)),[.live 9 false false [[.int .i64 ndq.frm,.int .i64 ndq.to,Af 2 true ndq.nn (ndq.wants.map Ao.cells),.int .i64 ndq.cmd,.int .i64 ndq.after,.int .i64 ndq.st,.int .i64 ndq.ag,.int .i64 ndq.bits,.int .i64 ndq.com]]]):=by
 (refine ce Try.func98 ?_;simp only[Try.f98];(have hb:=trivial;with_reducible repeat' (first|simp only[hb,Vc.down,seval,eL.down,acE]|refine Aq ?_ ?_<;>intro hb|refine fd ?_|fail)))
 refine Dl (Ss 19 l (fun i (s:Int) t h=>s=i∧h=[.live 9 false false [[.int .i64 ndq.frm,.int .i64 ndq.to,Af 2 true ndq.nn (ndq.wants.map Ao.cells),.int .i64 ndq.cmd,.int .i64 ndq.after,.int .i64 ndq.st,.int .i64 ndq.ag,.int .i64 ndq.bits,.int .i64 ndq.com]]]∧t 0=Af 2 true nn (l.map Ao.cells)∧t 1=.func (.func g) [] [.ptr 0 0 0]∧t 7=.int .i64 l.length∧t 8=.int .i64 i)
  (fun rest s=>dT p rest s) (fun r e t h=>h=[.live 9 false false [[.int .i64 ndq.frm,.int .i64 ndq.to,Af 2 true ndq.nn (ndq.wants.map Ao.cells),.int .i64 ndq.cmd,.int .i64 ndq.after,.int .i64 ndq.st,.int .i64 ndq.ag,.int .i64 ndq.bits,.int .i64 ndq.com]]]∧((e=.exit 0∧r= -1)∨(e=.ret∧t 4=.int .i64 r))) ?_ ?_ 0 _ _ ?_) (fun e t h hk=>?_)
 ·rintro s t h Q' kQ ⟨rfl,rfl,h0,h1,h7,h8⟩
  (have hb:=trivial;with_reducible repeat' (first|simp only[hb,Vc.down,seval,eL.down,h0,h1,h7,h8,acG,decide_false]|refine Aq ?_ ?_<;>intro hb|refine fd ?_|fail))
  exact kQ _ _ _ ⟨rfl,.inl ⟨rfl,rfl⟩⟩
 ·rintro x rest i s t h J Q' kJ kQ hx hi ⟨rfl,rfl,h0,h1,h7,h8⟩
  have hgm2:=hgm
  simp only[lI,al9,amP,anC]at hgm2
  have hpx:=hp x (acK hx)
  have hd:decide ((i:Int)<(l.length:Int))=true:=by simpa using hi
  (have hb:=trivial;with_reducible repeat' (first|simp only[hb,Vc.down,seval,eL.down,h0,h1,h7,h8,hd,hx,Ao.cells,hpx,hgm2,Av hi hl]|refine Aq ?_ ?_<;>intro hb|refine fd ?_|fail))
  ·exact kQ _ _ _ ⟨rfl,.inr ⟨rfl,by simp[up,dT,hb]⟩⟩
  ·exact Ax (kJ _ _ (i+1) ⟨by simp,rfl,by simp[up,h0],by simp[up,h1],by simp[up,h7],by simp[up]⟩ (by simp[dT,hb]))
 ·exact⟨rfl,rfl,by simp[up,Eg],by simp[up,Eg],by simp[up],by simp[up]⟩
 ·obtain⟨rfl,⟨rfl,hi⟩|⟨rfl,hi⟩⟩:=hk
  ·(have hb:=trivial;with_reducible repeat' (first|simp only[hb,Vc.down,seval,eL.down]|refine Aq ?_ ?_<;>intro hb|refine fd ?_|fail))
   rw[hi]
  ·(have hb:=trivial;with_reducible repeat' (first|simp only[hb,Vc.down,seval,eL.down,hi]|refine Aq ?_ ?_<;>intro hb|refine fd ?_|fail))
theorem jS{l:List Ao}{nn:Bool}{g:Nat}{ndq:Ui}{p:Ao→Bool}(hp:∀x∈l,Dc.call (.fn g) (.agg [.int .i64 x.vote,.bool x.is]::[.ptr 0 0 0]) [.live 9 false false [[.int .i64 ndq.frm,.int .i64 ndq.to,Af 2 true ndq.nn (ndq.wants.map Ao.cells),.int .i64 ndq.cmd,.int .i64 ndq.after,.int .i64 ndq.st,.int .i64 ndq.ag,.int .i64 ndq.bits,.int .i64 ndq.com]]]=some (.ret (.bool (p x)),[.live 9 false false [[.int .i64 ndq.frm,.int .i64 ndq.to,Af 2 true ndq.nn (ndq.wants.map Ao.cells),.int .i64 ndq.cmd,.int .i64 ndq.after,.int .i64 ndq.st,.int .i64 ndq.ag,.int .i64 ndq.bits,.int .i64 ndq.com]]]))(hl:l.length≤maxLen)(hgm:Dc.md g=false:=by exact rfl):
 Dc.call (.fn 89) [Af 2 true nn (l.map Ao.cells),.func (.func g) [] [.ptr 0 0 0]] [.live 9 false false [[.int .i64 ndq.frm,.int .i64 ndq.to,Af 2 true ndq.nn (ndq.wants.map Ao.cells),.int .i64 ndq.cmd,.int .i64 ndq.after,.int .i64 ndq.st,.int .i64 ndq.ag,.int .i64 ndq.bits,.int .i64 ndq.com]]]=some (.ret (.bool (l.any p)),[.live 9 false false [[.int .i64 ndq.frm,.int .i64 ndq.to,Af 2 true ndq.nn (ndq.wants.map Ao.cells),.int .i64 ndq.cmd,.int .i64 ndq.after,.int .i64 ndq.st,.int .i64 ndq.ag,.int .i64 ndq.bits,.int .i64 ndq.com]]]):=by
 (refine ce Try.func89 ?_;simp only[Try.f89];(have hb:=trivial;with_reducible repeat' (first|simp only[hb,Vc.down,seval,oR hp hl hgm,Ur p l 0 (ah3 0)]|refine Aq ?_ ?_<;>intro hb|refine fd ?_|fail)))
def Yi(bits:Int)(l:List Ao):Bool:=l.all fun w=>Vv bits w.vote==w.is
theorem zV(n:Ui)(hl:n.wants.length≤maxLen)(h0:∀w∈n.wants,0≤w.vote):Dc.call (.fn 94) [.agg [.int .i64 n.frm,.int .i64 n.to,Af 2 true n.nn (n.wants.map Ao.cells),.int .i64 n.cmd,.int .i64 n.after,.int .i64 n.st,.int .i64 n.ag,.int .i64 n.bits,.int .i64 n.com]] []=some (.ret (.bool (Yi n.bits n.wants)),[]):=by
 have hc:=jS (ndq:=n) (l:=n.wants) (nn:=n.nn) (g:=99) (p:=fun w=> !(Vv n.bits w.vote==w.is)) (fun w hw=>uX n w (h0 w hw)) hl
 have q1:Yi n.bits n.wants= !(n.wants.any fun w=> !(Vv n.bits w.vote==w.is)):=List.all_eq_not_any_not
 (refine ce Try.func94 ?_;simp only[Try.f94];(have hb:=trivial;with_reducible repeat' (first|simp only[hb,Vc.down,seval,bkP.down,hc]|refine Aq ?_ ?_<;>intro hb|refine fd ?_|fail)))
 all_goals simp[q1]
theorem au8(f0 f1 f2 f3:Fn)(a0 a1 a2 a3 c0 c1 c2 c3:List AV):Zr Try.prog 155 [(0,.func f0 a0 c0),(1,.func f1 a1 c1),(2,.func f2 a2 c2),(3,.func f3 a3 c3)]=some (.agg [.func f0 a0 c0,.func f1 a1 c1,.func f2 a2 c2,.func f3 a3 c3]):=by kernel_rfl
theorem ak5(a b c d:AV):Zm Try.prog 155 (.agg [a,b,c,d]) (.int .i64 0)=some a:=by kernel_rfl
theorem ak6(a b c d:AV):Zm Try.prog 155 (.agg [a,b,c,d]) (.int .i64 1)=some b:=by kernel_rfl
theorem aiL(a b c d:AV):Zm Try.prog 155 (.agg [a,b,c,d]) (.int .i64 2)=some c:=by kernel_rfl
theorem akQ(a b c d:AV):Zm Try.prog 155 (.agg [a,b,c,d]) (.int .i64 3)=some d:=by kernel_rfl
def qZ(n:Ui):Bool:=(n.frm==n.st)&&decide (n.after≤n.ag)&&Yi n.bits n.wants&&(n.cmd== -1||n.cmd==n.com)
theorem w2:IntKind.i64.wrap 2=2:=al4 rfl rfl
theorem w3:IntKind.i64.wrap 3=3:=al4 rfl rfl
theorem w4:IntKind.i64.wrap 4=4:=al4 rfl rfl
theorem uF(n:Ui)(hl:n.wants.length≤maxLen)(h0:∀w∈n.wants,0≤w.vote):Dc.call (.fn 75) [.agg [.int .i64 n.frm,.int .i64 n.to,Af 2 true n.nn (n.wants.map Ao.cells),.int .i64 n.cmd,.int .i64 n.after,.int .i64 n.st,.int .i64 n.ag,.int .i64 n.bits,.int .i64 n.com]] []=some (.ret (.bool (qZ n)),[]):=by
 have q1:=anU n
 have q2:=axX n
 have q3:=zV n hl h0
 have q4:=an8 n
 (refine ce Try.func75 ?_;simp only[Try.f75];(have hb:=trivial;with_reducible repeat' (first|simp only[hb,Vc.down,seval,aBJ.down,au8,ak5,ak6,aiL,akQ,q1,q2,q3,q4,w2,w3,w4]|refine Aq ?_ ?_<;>intro hb|refine fd ?_|fail)))
 (have hb:=trivial;with_reducible repeat' (first|simp only[hb,Vc.down,seval,aBJ.down,au8,ak5,ak6,aiL,akQ,q1,q2,q3,q4,w2,w3,w4]|refine Aq ?_ ?_<;>intro hb|refine fd ?_|refine bh9 ?_|fail))
 all_goals (refine congrArg (fun b=>(Gp.ret (AV.bool b),([]:Ab))) ?_;symm;((try simp only[anF,acZ,adD]at *);simp only[qZ, *,al5,aiC,al6,ahZ,an5,aoC,acZ,adD,ao3,apC]))
def nd(x:Ap)(st ag bits com:Int):Ui:=⟨x.frm,x.to,x.nn,x.wants,x.cmd,x.after,st,ag,bits,com⟩
def tW(a:Int):Int:=if IntKind.i64.wrap (a+1)<10 then IntKind.i64.wrap (a+1)else 10
def Ox(st ag bits com:Int):List Ap→Int × Int
 | []=>(st,tW ag)
 |x::l=>if qZ (nd x st ag bits com)=true then(x.to,0)else Ox st ag bits com l
theorem amC(m:Ad)(st ag bits com:Int)(hs:m.small)(h0:∀x∈m.moves,∀w∈x.wants,0≤w.vote):
 Dc.call (.fn 45) [.agg [Af 3 true m.nS (m.sens.map Bz.cells),Af 4 false m.nV (m.votes.map Aj.cells),Af 5 false m.nM (m.moves.map Ap.cells),.int .i64 m.states,.int .i64 m.cmds,.int .i64 m.bgn,Af 1 true m.nO (m.opn.map iv)],.agg [.int .i64 st,.int .i64 ag],.agg [.int .i64 bits,.int .i64 com]] []=some (.ret (.agg [.int .i64 (Ox st ag bits com m.moves).1,.int .i64 (Ox st ag bits com m.moves).2]),[]):=by
 (refine ce Try.func45 ?_;simp only[Try.f45];(have hb:=trivial;with_reducible repeat' (first|simp only[hb,Vc.down,seval,acU.down,acE]|refine Aq ?_ ?_<;>intro hb|refine fd ?_|fail)))
 refine Dl (Ss 32 m.moves (fun i (zz:Unit) t h=>t 4=.ptr 1 0 0∧t 5=.ptr 2 0 0∧t 6=.ptr 3 0 0∧t 10=Af 5 false m.nM (m.moves.map Ap.cells)∧t 11=.int .i64 m.moves.length∧t 12=.int .i64 i∧(h[1]?=some (.live 2 true false [[.int .i64 st,.int .i64 ag]])∧h[2]?=some (.live 2 true false [[.int .i64 bits,.int .i64 com]])∧h[3]?=some (.live 2 true false [[.int .i64 0,.int .i64 0]]))) (fun rest zz=>Ox st ag bits com rest) (fun r e t h=>(e=.exit 0∧t 4=.ptr 1 0 0∧t 6=.ptr 3 0 0∧h[1]?=some (.live 2 true false [[.int .i64 st,.int .i64 ag]])∧h[3]?=some (.live 2 true false [[.int .i64 0,.int .i64 0]])∧r=(st,tW ag))∨(e=.ret∧t 6=.ptr 3 0 0∧h[3]?=some (.live 2 true true [[.int .i64 r.1,.int .i64 r.2]]))) ?_ ?_ () _ _ ?_) (fun e t h hk=>?_)
 ·rintro _ t h Q' kQ ⟨h4,h5,h6,h10,h11,h12,⟨hA,hB,hC⟩⟩
  (have hb:=trivial;with_reducible repeat' (first|simp only[hb,Vc.down,seval,acU.down,h4,h5,h6,h10,h11,h12,acG,decide_false]|refine Aq ?_ ?_<;>intro hb|refine fd ?_|fail))
  exact kQ _ _ _ (.inl ⟨rfl,by simp[up,h4],by simp[up,h6],hA,hC,rfl⟩)
 ·rintro x rest i _ t h J Q' kJ kQ hx hi ⟨h4,h5,h6,h10,h11,h12,⟨hA,hB,hC⟩⟩
  have hd:decide ((i:Int)<(m.moves.length:Int))=true:=decide_eq_true (by omega)
  have hw:=Av hi hs.moves
  have hA1:=Ac hA
  have hB1:=Ac hB
  have hC1:=Ac hC
  have hap:=uF (nd x st ag bits com) (hs.ws x (acK hx)) (h0 x (acK hx))
  have h3l:3<h.length:=(apH.1 hC).1
  generalize hq:qZ (nd x st ag bits com)=q at hap
  simp only[nd]at hap
  (have hb:=trivial;with_reducible repeat' (first|simp only[hb,Vc.down,seval,acU.down,h4,h5,h6,h10,h11,h12,hd,hx,hw,hA1,hB1,hC1,hap,Ap.cells,acE]|refine Aq ?_ ?_<;>intro hb|refine fd ?_|fail))
  ·exact kQ _ _ _ (.inr ⟨rfl,by simp[up,h6],by rw[ap9 (by simp;omega)];simp[Ox,hq,hb]⟩)
  ·(refine Ax (kJ _ _ () ⟨?_,?_,?_,?_,?_,?_,⟨hA1 _,hB1 _,hC1 _⟩⟩ ?_);(simp[up,h4]);(simp[up,h5]);(simp[up,h6]);(simp[up,h10]);(simp[up,h11]);(simp[up]);(simp[Ox,hq,hb]))
 ·exact⟨by simp[up,Eg],by simp[up,Eg],by simp[up,Eg],by simp[up,Eg],by simp[up,Eg],by simp[up],⟨rfl,rfl,rfl⟩⟩
 rcases hk with⟨rfl,h4,h6,hA,hC,hr⟩|⟨rfl,h6,hC⟩
 ·have hA1:=Ac hA
  have hC1:=Ac hC
  have h3l:3<h.length:=(apH.1 hC).1
  have hset:∀c:CB,(h.set 3 c)[3]?=some c:=fun c=>ap9 h3l
  have hmt:(if IntKind.i64.wrap (ag+1)<10 then IntKind.i64.wrap (ag+1)else 10)=tW ag:=rfl
  rw[hr]
  (have hb:=trivial;with_reducible repeat' (first|simp only[hb,Vc.down,seval,acU.down,h4,h6,hA,hC,hA1,hC1,hset,hmt]|refine Aq ?_ ?_<;>intro hb|refine fd ?_|fail))
 ·(have hb:=trivial;with_reducible repeat' (first|simp only[hb,Vc.down,seval,acU.down,h6,hC]|refine Aq ?_ ?_<;>intro hb|refine fd ?_|fail))
theorem ajP{α:Type}{d:List AV→Option α}{f:α→List AV}(hd:∀cs x,d cs=some x→cs=f x):∀{rows:List (List AV)} {l:List α},Cb d rows=some l→rows=l.map f
 | [],l,h=>by simp[Cb]at h;subst h;rfl
 |r::rows,l,h=>by
  simp only[Cb,aiH,aiI]at h
  obtain⟨x,h1,l',h2,rfl⟩:=h
  rw[hd r x h1,ajP hd h2];rfl
def dSl{α:Type}(n:Nat)(fl:Bool)(d:List AV→Option α):AV→Option (Bool × List α)
 | .nils=>some (false,[])
 | .imm n' fl' rows=>if n'=n∧fl'=fl then(Cb d rows).map fun l=>(true,l)else none
 |_=>none
theorem pD{α:Type}{n:Nat}{fl:Bool}{d:List AV→Option α}{f:α→List AV}(hd:∀cs x,d cs=some x→cs=f x){v:AV}{x:Bool × List α}(h:dSl n fl d v=some x):v=Af n fl x.1 (x.2.map f):=by
 unfold dSl at h
 split at h
 ·cases h;rfl
 ·split at h
  ·rename_i hq
   obtain⟨rfl,rfl⟩:=hq
   obtain⟨l,h1,rfl⟩:=aiI.1 h
   rw[ajP hd h1]
   cases l<;>rfl
  ·cases h
 ·cases h
def atQ:List AV→Option Int
 | [.int .i64 a]=>some a
 |_=>none
theorem agV(cs:List AV)(x:Int)(h:atQ cs=some x):cs=iv x:=by
 unfold atQ at h
 split at h
 ·cases h;rfl
 ·cases h
def bh8:List AV→Option Bz
 | [.int .i64 a,.int .i64 b,.bool c]=>some ⟨a,b,c⟩
 |_=>none
theorem aAA(cs:List AV)(x:Bz)(h:bh8 cs=some x):cs=x.cells:=by
 unfold bh8 at h
 split at h
 ·cases h;rfl
 ·cases h
def atF:List AV→Option Aj
 | [l,.int .i64 a,.int .i64 b,.bool c]=>(dSl 1 true atQ l).map fun x=>⟨x.1,x.2,a,b,c⟩
 |_=>none
theorem axS(cs:List AV)(x:Aj)(h:atF cs=some x):cs=x.cells:=by
 unfold atF at h
 split at h
 ·obtain⟨y,h1,rfl⟩:=aiI.1 h
  rw[pD agV h1];rfl
 ·cases h
def axI:List AV→Option Ao
 | [.int .i64 a,.bool c]=>some ⟨a,c⟩
 |_=>none
theorem axC(cs:List AV)(x:Ao)(h:axI cs=some x):cs=x.cells:=by
 unfold axI at h
 split at h
 ·cases h;rfl
 ·cases h
def av7:List AV→Option Ap
 | [.int .i64 a,.int .i64 b,l,.int .i64 c,.int .i64 d]=>(dSl 2 true axI l).map fun x=>⟨a,b,x.1,x.2,c,d⟩
 |_=>none
theorem ax6(cs:List AV)(x:Ap)(h:av7 cs=some x):cs=x.cells:=by
 unfold av7 at h
 split at h
 ·obtain⟨y,h1,rfl⟩:=aiI.1 h
  rw[pD axC h1];rfl
 ·cases h
def ajQ:List AV→Option Ad
 | [s,v,x,.int .i64 a,.int .i64 b,.int .i64 c,o]=>(dSl 3 true bh8 s).bind fun s=>(dSl 4 false atF v).bind fun v=>(dSl 5 false av7 x).bind fun x=>(dSl 1 true atQ o).map fun o=>⟨s.1,s.2,v.1,v.2,x.1,x.2,a,b,c,o.1,o.2⟩
 |_=>none
theorem aaU(cs:List AV)(x:Ad)(h:ajQ cs=some x):cs=x.cells:=by
 unfold ajQ at h
 split at h
 ·simp only[aiH,aiI]at h
  obtain⟨s,h1,v,h2,y,h3,o,h4,rfl⟩:=h
  rw[pD aAA h1,pD axS h2,pD ax6 h3,pD agV h4]
 ·cases h
def zI(m:Ad):Bool:=decide (m.sens.length≤1000)&&decide (m.votes.length≤1000)&&decide (m.moves.length≤1000)&&decide (m.opn.length≤1000)&&m.votes.all (fun v=>decide (v.sens.length≤1000))&&m.moves.all (fun x=>decide (x.wants.length≤1000))
theorem uO{m:Ad}(h:zI m=true):m.small:=by
 simp only[zI,apN,decide_eq_true_eq,al7]at h
 obtain⟨⟨⟨⟨⟨a,b⟩,c⟩,d⟩,e⟩,f⟩:=h
 exact⟨by unfold maxLen;omega,by unfold maxLen;omega,by unfold maxLen;omega,by unfold maxLen;omega,fun v hv=>by have:=e v hv;unfold maxLen;omega,fun v hv=>by have:=f v hv;unfold maxLen;omega⟩
def ayX:List AV→Ab→Option (Gp × Ab)
 | [.agg cs],[]=>(ajQ cs).bind fun m=>if zI m=true then some (.ret (.bool (Bh m)),[])else none
 |_,_=>none
def a9I:List AV→Ab→Option (Gp × Ab)
 | [.agg cs,.agg [.int .i64 st,.int .i64 ag],.agg [.int .i64 bits,.int .i64 com]],[]=>(ajQ cs).bind fun m=>if(zI m&&m.moves.all fun x=>x.wants.all fun w=>decide (0≤w.vote))=true then
     (match Ox st ag bits com m.moves with
       |(a,b)=>some (.ret (.agg [.int .i64 a,.int .i64 b]),[]))else none
 |_,_=>none
def axR:List AV→Ab→Option (Gp × Ab)
 | [.agg cs,l],[]=>(ajQ cs).bind fun m=>(dSl 1 true atQ l).bind fun l=>if(zI m&&decide (l.2.length=m.sens.length)&&m.votes.all fun v=>v.sens.all fun k=>decide (0≤k)&&decide (k.toNat<m.sens.length))=true then
     some (.ret (.int .i64 (Vq m l.2 m.votes 0 0)),[])else none
 |_,_=>none
def pr2:Oz:={ pr with at_:=fun f=>if f=42 then some ayX else if f=45 then some a9I else if f=46 then some axR else pr f }
theorem ba9(f:Nat)(h:pr2 f=none):pr f=none:=by
 simp only[pr2]at h
 split at h
 ·cases h
 ·split at h
  ·cases h
  ·split at h
   ·cases h
   ·exact h
theorem aiQ{tab:List Ent}(f:Nat)(h:rK pr2 tab f=none):pr f=none:=by
 simp only[rK]at h
 split at h
 ·cases h
 ·exact ba9 f h
theorem uU:∀f p,pr2 f=some p→∀a h r,p a h=some r→Dc.call (.fn f) a h=some r:=by
 intro f p hp a h r hr
 simp only[pr2]at hp
 split at hp
 ·rename_i hf
  subst hf
  cases hp
  unfold ayX at hr
  split at hr
  ·rename_i cs
   obtain⟨s,h1,h2⟩:=aiH.1 hr
   split at h2
   ·rename_i hs
    cases h2
    rw[aaU _ _ h1]
    exact mO s (uO hs)
   ·cases h2
  ·cases hr
 ·split at hp
  ·rename_i hf
   subst hf
   cases hp
   unfold a9I at hr
   split at hr
   ·rename_i cs st ag bits com
    obtain⟨s,h1,h2⟩:=aiH.1 hr
    split at h2
    ·rename_i hs
     simp only[apN,al7,decide_eq_true_eq]at hs
     cases h2
     rw[aaU _ _ h1]
     exact amC s st ag bits com (uO hs.1) hs.2
    ·cases h2
   ·cases hr
  ·split at hp
   ·rename_i hf
    subst hf
    cases hp
    unfold axR at hr
    split at hr
    ·rename_i cs l
     simp only[aiH]at hr
     obtain⟨s,h1,y,h2,h3⟩:=hr
     split at h3
     ·rename_i hs
      simp only[apN,al7,decide_eq_true_eq]at hs
      cases h3
      rw[aaU _ _ h1,pD agV h2]
      exact yU s hs.1.2 (uO hs.1.1) (fun v hv k hk=>hs.2 v hv k hk)
     ·cases h3
    ·cases hr
   ·exact aoO hp hr
def exA:AV:=.agg [.imm 3 true [[.int .i64 0,.int .i64 100,.bool false],[.int .i64 0,.int .i64 100,.bool false],[.int .i64 0,.int .i64 100,.bool false]],.imm 4 false [[.imm 1 true [[.int .i64 0],[.int .i64 1],[.int .i64 2]],.int .i64 2,.int .i64 80,.bool true]],.imm 5 false [[.int .i64 0,.int .i64 1,.imm 2 true [[.int .i64 0,.bool true]],.int .i64 (-1),.int .i64 0],[.int .i64 1,.int .i64 2,.nils,.int .i64 (-1),.int .i64 1],[.int .i64 2,.int .i64 0,.imm 2 true [[.int .i64 0,.bool false]],.int .i64 0,.int .i64 2]],.int .i64 3,.int .i64 1,.int .i64 0,.imm 1 true [[.int .i64 3],[.int .i64 1],[.int .i64 0]]]
def exS:AV:=.imm 2 true [[.int .i64 1,.int .i64 (-1)],[.int .i64 1,.int .i64 0],[.int .i64 0,.int .i64 (-1)],[.int .i64 0,.int .i64 0]]
def E0:Ent:=⟨54,[exA],(.ret (.tup [.slr 2 0 0 4,.slr 2 1 0 4]),[.live 2 false false [[.slr 1 2 0 3,.int .i64 (-1)],[.slr 1 3 0 3,.int .i64 0],[.slr 1 4 0 3,.int .i64 (-1)],[.slr 1 5 0 3,.int .i64 0]],.live 2 true false [[.int .i64 1,.int .i64 (-1)],[.int .i64 1,.int .i64 0],[.int .i64 0,.int .i64 (-1)],[.int .i64 0,.int .i64 0]],.live 1 true false [[.int .i64 (-10000)],[.int .i64 (-10000)],[.int .i64 (-10000)]],.live 1 true false [[.int .i64 (-10000)],[.int .i64 (-10000)],[.int .i64 (-10000)]],.live 1 true false [[.int .i64 (-10000)],[.int .i64 0],[.int .i64 0]],.live 1 true false [[.int .i64 (-10000)],[.int .i64 0],[.int .i64 0]]])⟩
def E1:Ent:=⟨55,[exA,exS],(.ret (.tup [.slr 2 0 0 24,.mapr 1]),[.live 2 true false [[.int .i64 0,.int .i64 0],[.int .i64 1,.int .i64 0],[.int .i64 0,.int .i64 1],[.int .i64 1,.int .i64 1],[.int .i64 0,.int .i64 2],[.int .i64 2,.int .i64 0],[.int .i64 0,.int .i64 3],[.int .i64 2,.int .i64 1],[.int .i64 0,.int .i64 4],[.int .i64 2,.int .i64 2],[.int .i64 0,.int .i64 5],[.int .i64 2,.int .i64 3],[.int .i64 0,.int .i64 6],[.int .i64 2,.int .i64 4],[.int .i64 0,.int .i64 7],[.int .i64 2,.int .i64 5],[.int .i64 0,.int .i64 8],[.int .i64 2,.int .i64 6],[.int .i64 0,.int .i64 9],[.int .i64 2,.int .i64 7],[.int .i64 0,.int .i64 10],[.int .i64 2,.int .i64 8],[.int .i64 2,.int .i64 9],[.int .i64 2,.int .i64 10]],.lp [] .skip .skip [.agg [.int .i64 0,.int .i64 0],.agg [.int .i64 0,.int .i64 0,.int .i64 (-1)],.agg [.int .i64 1,.int .i64 0],.agg [.int .i64 0,.int .i64 0,.int .i64 0],.agg [.int .i64 0,.int .i64 1],.agg [.int .i64 0,.int .i64 0,.int .i64 2],.agg [.int .i64 1,.int .i64 1],.agg [.int .i64 1,.int .i64 0,.int .i64 0],.agg [.int .i64 0,.int .i64 2],.agg [.int .i64 0,.int .i64 1,.int .i64 2],.agg [.int .i64 2,.int .i64 0],.agg [.int .i64 1,.int .i64 1,.int .i64 0],.agg [.int .i64 0,.int .i64 3],.agg [.int .i64 0,.int .i64 2,.int .i64 2],.agg [.int .i64 2,.int .i64 1],.agg [.int .i64 2,.int .i64 0,.int .i64 0],.agg [.int .i64 0,.int .i64 4],.agg [.int .i64 0,.int .i64 3,.int .i64 2],.agg [.int .i64 2,.int .i64 2],.agg [.int .i64 2,.int .i64 1,.int .i64 0],.agg [.int .i64 0,.int .i64 5],.agg [.int .i64 0,.int .i64 4,.int .i64 2],.agg [.int .i64 2,.int .i64 3],.agg [.int .i64 2,.int .i64 2,.int .i64 0],.agg [.int .i64 0,.int .i64 6],.agg [.int .i64 0,.int .i64 5,.int .i64 2],.agg [.int .i64 2,.int .i64 4],.agg [.int .i64 2,.int .i64 3,.int .i64 0],.agg [.int .i64 0,.int .i64 7],.agg [.int .i64 0,.int .i64 6,.int .i64 2],.agg [.int .i64 2,.int .i64 5],.agg [.int .i64 2,.int .i64 4,.int .i64 0],.agg [.int .i64 0,.int .i64 8],.agg [.int .i64 0,.int .i64 7,.int .i64 2],.agg [.int .i64 2,.int .i64 6],.agg [.int .i64 2,.int .i64 5,.int .i64 0],.agg [.int .i64 0,.int .i64 9],.agg [.int .i64 0,.int .i64 8,.int .i64 2],.agg [.int .i64 2,.int .i64 7],.agg [.int .i64 2,.int .i64 6,.int .i64 0],.agg [.int .i64 0,.int .i64 10],.agg [.int .i64 0,.int .i64 9,.int .i64 2],.agg [.int .i64 2,.int .i64 8],.agg [.int .i64 2,.int .i64 7,.int .i64 0],.agg [.int .i64 2,.int .i64 9],.agg [.int .i64 2,.int .i64 8,.int .i64 0],.agg [.int .i64 2,.int .i64 10],.agg [.int .i64 2,.int .i64 9,.int .i64 0]] .map])⟩
def E2:Ent:=⟨30,[exA,.int .i64 2],(.ret (.tup [.slr 2 0 0 3,.int .i64 0]),[.live 2 false true [[.slr 1 1 0 3,.int .i64 (-1)],[.slr 1 2 0 3,.int .i64 (-1)],[.slr 1 3 0 3,.int .i64 (-1)]],.live 1 true false [[.int .i64 (-10000)],[.int .i64 (-10000)],[.int .i64 (-10000)]],.live 1 true false [[.int .i64 (-10000)],[.int .i64 (-10000)],[.int .i64 (-10000)]],.live 1 true false [[.int .i64 (-10000)],[.int .i64 (-10000)],[.int .i64 (-10000)]]])⟩
def E3:Ent:=⟨21,[exA,.int .i64 0,.imm 1 true [[.int .i64 2]]],(.ret (.tup [.int .i64 3,.int .i64 0]),[])⟩
def E4:Ent:=⟨21,[exA,.int .i64 0,.imm 1 true [[.int .i64 0]]],(.ret (.tup [.int .i64 0,.int .i64 5]),[])⟩
theorem bfO:(aU Try.prog pr2 400).call (.fn E0.f) E0.args []=some E0.res:=by kernel_rfl
theorem ao1:Dc.call (.fn E0.f) E0.args []=some E0.res:=dU (pr:=pr) (pr2:=pr2) rfl ba9 uU bfO
def T1:Oz:=rK pr2 [E0]
theorem bjM:∀f p,T1 f=some p→∀a h r,p a h=some r→Dc.call (.fn f) a h=some r:=kX uU (fun e he=>by
 simp only[aiK,al2,or_false]at he
 rcases he with rfl
 ·exact ao1)
theorem bbM:(aU Try.prog T1 400).call (.fn E1.f) E1.args []=some E1.res:=by kernel_rfl
theorem ay4:Dc.call (.fn E1.f) E1.args []=some E1.res:=dU (pr:=pr) (pr2:=T1) rfl aiQ bjM bbM
def T2:Oz:=rK pr2 [E0,E1]
theorem blT:∀f p,T2 f=some p→∀a h r,p a h=some r→Dc.call (.fn f) a h=some r:=kX uU (fun e he=>by
 simp only[aiK,al2,or_false]at he
 rcases he with rfl|rfl
 ·exact ao1
 ·exact ay4)
theorem bg0:(aU Try.prog T2 400).call (.fn E2.f) E2.args []=some E2.res:=by kernel_rfl
theorem bjR:Dc.call (.fn E2.f) E2.args []=some E2.res:=dU (pr:=pr) (pr2:=T2) rfl aiQ blT bg0
def T3:Oz:=rK pr2 [E0,E1]
theorem bk0:∀f p,T3 f=some p→∀a h r,p a h=some r→Dc.call (.fn f) a h=some r:=kX uU (fun e he=>by
 simp only[aiK,al2,or_false]at he
 rcases he with rfl|rfl
 ·exact ao1
 ·exact ay4)
theorem beX:(aU Try.prog T3 400).call (.fn E3.f) E3.args []=some E3.res:=by kernel_rfl
theorem bkY:Dc.call (.fn E3.f) E3.args []=some E3.res:=dU (pr:=pr) (pr2:=T3) rfl aiQ bk0 beX
def T4:Oz:=rK pr2 [E0,E1]
theorem bi3:∀f p,T4 f=some p→∀a h r,p a h=some r→Dc.call (.fn f) a h=some r:=kX uU (fun e he=>by
 simp only[aiK,al2,or_false]at he
 rcases he with rfl|rfl
 ·exact ao1
 ·exact ay4)
theorem be9:(aU Try.prog T4 400).call (.fn E4.f) E4.args []=some E4.res:=by kernel_rfl
theorem bkZ:Dc.call (.fn E4.f) E4.args []=some E4.res:=dU (pr:=pr) (pr2:=T4) rfl aiQ bi3 be9
def TK:Oz:=rK pr2 [E2,E3,E4]
theorem bi4:∀f p,TK f=some p→∀a h r,p a h=some r→Dc.call (.fn f) a h=some r:=kX uU (fun e he=>by
 simp only[aiK,al2,or_false]at he
 rcases he with rfl|rfl|rfl
 ·exact bjR
 ·exact bkY
 ·exact bkZ)
theorem ap3:(aU Try.prog TK 400).call (.fn 13) [] []=some (.ret (.bool true),[]):=by kernel_rfl
theorem known_ok:Dc.call (.fn 13) [] []=some (.ret (.bool true),[]):=dU (pr:=pr) (pr2:=TK) rfl aiQ bi4 ap3
end Go.Proofs.Ytfkokgjfpojeoaa.Ko
namespace Go.Proofs.Ytfkokgjfpojeoaa
open Go Go.Ev Go.ChangeShapes Go.WideShapes Go.ChangeAt Go.RowKit
set_option maxRecDepth 100000
set_option maxHeartbeats 16000000
def mdL:List Nat:=[96,83,78,56,54,55,79,63,64,135,136,39,67]
def ahM:List AV→Ab→Option (Gp × Ab)
 | [],[]=>some (.ret (.bool true),[])
 |_,_=>none
theorem amL:ag8 Try.prog (fun _=>none) 13 ahM:=fun args h out h' hp=>by
 unfold ahM at hp
 split at hp
 ·cases hp;exact Ko.calls_ok.1 _ _ _ _ _ Ko.known_ok
 ·cases hp
def pr:Oz:={ at_:=fun f=>if f=13 then some ahM else none,md:=(mdL.contains ·),sh:=fun f=>if f=96 then some aeF else none }
noncomputable def Dc:Hv:=om Try.prog pr
theorem lI(f:Nat):Dc.md f=([96,83,78,56,54,55,79,63,64,135,136,39,67]:List Nat).contains f:=al4 rfl rfl
def Vc:=PLift.up (And.intro EG.down (And.intro EVu.down @lI))
theorem bh9{C:R→Prop}[NoN C]{n:Nat}{k:List Be}{c:Code}{s:St}(h:Un Dc Try.prog n k c C (Ej Dc Try.prog 5000 c [] s)):C (lpK Dc Try.prog n k (Dc.loop c s)):=a6W (pr:=pr) h
theorem own:ownKnob Try.prog.godebug=none:=by kernel_rfl
theorem aW3:anV Try.prog:=fun f fn hf=>by
 have h:(Try.prog.funcs.toList.all fun fn=> !(fn.name== "runtime.NumGoroutine"))=true:=by kernel_rfl
 have:=al7.1 h fn (by rw[Array.mem_toList_iff];exact Array.mem_of_getElem? hf)
 simpa using this
theorem mixed:Try.prog.follows .mixedOrders=true:=by kernel_rfl
theorem aRM:laidOutB Try.prog=true:=by kernel_rfl
theorem calls_ok:Ld Try.prog (fun _=>none) Dc:=bbF aW3 ⟨fun f p h=>(by
 simp only[pr]at h
 split at h
 ·rename_i e;subst e;cases h;exact amL
 ·cases h),fun f p h=>(by
 simp only[pr]at h
 split at h
 ·rename_i e;subst e;cases h;exact aBT (amA aW3 Try.func96 rfl) Try.slices_Sort_int
 ·cases h)⟩ mixed
theorem bfU{W:World}{S:Nat→Prop}:cD (fun _=>none) W S:=fun b o h=>by cases h
theorem abD{f:Nat}{fn:Func}{c:Code}{args:List AV}{h:Ab}{Q:Gp→Ab→Prop}(hp:pr f=none)(hf:Try.prog.funcs[f]?=some fn)(hb:fn.body=some c)(hl:Nat.ble args.length fn.ntmps=true)
 (he:FnE Try.prog h.length fn.results.toList Q (Ej Dc Try.prog 5000 c [] ⟨mk fn.ntmps (Eg args),h⟩)):ClQ Dc f args h Q:=ClQ.start (pr:=pr) hp hf hb hl he
theorem mZ{f:Nat}{fn:Func}{c:Code}{args:List AV}{h:Ab}{Q:Gp→Ab→Prop}(hp:pr f=none)(hf:Try.prog.funcs[f]?=some fn)(hb:fn.body=some c)(hl:Nat.ble args.length fn.ntmps=true)
 (he:FnS Try.prog fn.results.toList Q (Ej Dc Try.prog 5000 c [] ⟨mk fn.ntmps (Eg args),h⟩)) (hs:pr.sh f=none:=by exact rfl):ShQ Dc f args h Q:=ShQ.start (pr:=pr) hp hf hb hl he hs
theorem ce{f:Nat}{fn:Func}{c:Code}{args:List AV}{h:Ab}{o:Gp}{h':Ab}(hf:Try.prog.funcs[f]?=some fn)(he:FnE Try.prog h.length fn.results.toList (fun o1 h1=>(o1,h1)=(o,h')) (Ej Dc Try.prog 5000 c [] ⟨mk fn.ntmps (Eg args),h⟩))(hp:pr f=none:=by exact rfl)(hb:fn.body=some c:=by exact rfl)(hl:Nat.ble args.length fn.ntmps=true:=by exact rfl):Dc.call (.fn f) args h=some (o,h'):=(abD hp hf hb hl he).eq
theorem Ss{α σ ρ:Type}{c:Code}(N:Nat)(l:List α)(E:Nat→σ→Tm→Ab→Prop)(F:List α→σ→ρ)(Q:ρ→Ex→Tm→Ab→Prop)
 (stop:∀s t h Q',(∀e t h,Q (F [] s) e t h→Q' e ⟨mk N t,h⟩)→E l.length s t h→Rnd N (fun _ _=>False) Q' (Ej Dc Try.prog 5000 c [] ⟨mk N t,h⟩))
 (go:∀x rest i s t h J Q',(∀t' h' s',E (i+1) s' t' h'→F rest s'=F (x::rest) s→J t' h')→(∀e t h,Q (F (x::rest) s) e t h→Q' e ⟨mk N t,h⟩)→l[i]?=some x→i<l.length→E i s t h→
   Rnd N J Q' (Ej Dc Try.prog 5000 c [] ⟨mk N t,h⟩)):
 ∀s t h,E 0 s t h→LpQ Dc c ⟨mk N t,h⟩ (Ot N (Q (F l s))):=afW (pr:=pr) rfl N l E F Q stop go
theorem cnt{σ ρ:Type}{c:Code}(N:Nat)(E:Nat→σ→Tm→Ab→Prop)(F:Nat→σ→ρ)(Q:ρ→Ex→Tm→Ab→Prop)
 (stop:∀s t h Q',(∀e t h,Q (F 0 s) e t h→Q' e ⟨mk N t,h⟩)→E 0 s t h→Rnd N (fun _ _=>False) Q' (Ej Dc Try.prog 5000 c [] ⟨mk N t,h⟩))
 (go:∀n s t h J Q',(∀t' h' s',E n s' t' h'→F n s'=F (n+1) s→J t' h')→(∀e t h,Q (F (n+1) s) e t h→Q' e ⟨mk N t,h⟩)→E (n+1) s t h→Rnd N J Q' (Ej Dc Try.prog 5000 c [] ⟨mk N t,h⟩)):
 ∀n s t h,E n s t h→LpQ Dc c ⟨mk N t,h⟩ (Ot N (Q (F n s))):=auP (pr:=pr) rfl N E F Q stop go
def iv(x:Int):List AV:=[.int .i64 x]
theorem Ac{h:Ab}{b:Nat}{c:CB}(h0:h[b]?=some c)(l:Ab):(h++l)[b]?=some c:=by
 rw[List.getElem?_append_left (apH.1 h0).1];exact h0
end Go.Proofs.Ytfkokgjfpojeoaa
namespace Go.Proofs.Ytfkokgjfpojeoaa
open Go.Ev Go
set_option maxRecDepth 100000
set_option maxHeartbeats 16000000
structure Bz where
 lo:Int
 hi:Int
 byp:Bool
def Bz.cells(s:Bz):List AV:=[.int .i64 s.lo,.int .i64 s.hi,.bool s.byp]
structure Aj where
 nn:Bool
 sens:List Int
 need:Int
 level:Int
 above:Bool
def Aj.cells(v:Aj):List AV:=[Af 1 true v.nn (v.sens.map iv),.int .i64 v.need,.int .i64 v.level,.bool v.above]
structure Ao where
 vote:Int
 is:Bool
def Ao.cells(w:Ao):List AV:=[.int .i64 w.vote,.bool w.is]
structure Ap where
 frm:Int
 to:Int
 nn:Bool
 wants:List Ao
 cmd:Int
 after:Int
def Ap.cells(x:Ap):List AV:=[.int .i64 x.frm,.int .i64 x.to,Af 2 true x.nn (x.wants.map Ao.cells),.int .i64 x.cmd,.int .i64 x.after]
structure Ad where
 nS:Bool
 sens:List Bz
 nV:Bool
 votes:List Aj
 nM:Bool
 moves:List Ap
 states:Int
 cmds:Int
 bgn:Int
 nO:Bool
 opn:List Int
abbrev Ad.cells(m:Ad):List AV:=[Af 3 true m.nS (m.sens.map Bz.cells),Af 4 false m.nV (m.votes.map Aj.cells),Af 5 false m.nM (m.moves.map Ap.cells),.int .i64 m.states,.int .i64 m.cmds,.int .i64 m.bgn,Af 1 true m.nO (m.opn.map iv)]
structure Ii where
 nn:Bool
 reads:List Int
 cmd:Int
def Ii.cells(s:Ii):List AV:=[Af 1 true s.nn (s.reads.map iv),.int .i64 s.cmd]
structure Ad.small(m:Ad):Prop where
 sens:m.sens.length≤maxLen
 votes:m.votes.length≤maxLen
 moves:m.moves.length≤maxLen
 opn:m.opn.length≤maxLen
 vs:∀v∈m.votes,v.sens.length≤maxLen
 ws:∀x∈m.moves,x.wants.length≤maxLen
def To(x lo hi:Int):Bool:=decide (lo≤x)&&decide (x≤hi)
theorem Xb(x lo hi:Int):Dc.call (.fn 43) [.int .i64 x,.int .i64 lo,.int .i64 hi] []=some (.ret (.bool (To x lo hi)),[]):=by
 (refine ce Try.func43 ?_;simp only[Try.f43];(have hb:=trivial;with_reducible repeat' (first|simp only[hb,Vc.down,seval]|refine Aq ?_ ?_<;>intro hb|refine fd ?_|fail)))
 all_goals simp[To, *]
theorem ah1(x lo hi:Int):Dc.call (.fn 48) [.int .i64 x,.int .i64 lo,.int .i64 hi] []=some (.ret (.bool (To x lo hi)),[]):=by
 (refine ce Try.func48 ?_;simp only[Try.f48];(have hb:=trivial;with_reducible repeat' (first|simp only[hb,Vc.down,seval]|refine Aq ?_ ?_<;>intro hb|refine fd ?_|fail)))
 all_goals simp[To, *]
def aF(x:Int):Bool:=To x (-10000) 10000
theorem lN(x:Int):Dc.call (.fn 69) [.int .i64 x] []=some (.ret (.bool (aF x)),[]):=by
 (refine ce Try.func69 ?_;simp only[Try.f69];(have hb:=trivial;with_reducible repeat' (first|simp only[hb,Vc.down,seval,Xb]|refine Aq ?_ ?_<;>intro hb|refine fd ?_|fail)))
 all_goals rfl
theorem aaZ(x:Int):Dc.call (.fn 74) [.int .i64 x] []=some (.ret (.bool (!To x 0 255)),[]):=by
 (refine ce Try.func74 ?_;simp only[Try.f74];(have hb:=trivial;with_reducible repeat' (first|simp only[hb,Vc.down,seval,Xb]|refine Aq ?_ ?_<;>intro hb|refine fd ?_|fail)))
def Qk(s:Bz)(v:Aj)(r:Int):Bool:= !s.byp&&(!To r s.lo s.hi||(if v.above=true then decide (v.level≤r)else decide (r≤v.level)))
theorem ahK(s:Bz)(v:Aj)(r:Int):Dc.call (.fn 76) [.agg [.int .i64 s.lo,.int .i64 s.hi,.bool s.byp],.agg [Af 1 true v.nn (v.sens.map iv),.int .i64 v.need,.int .i64 v.level,.bool v.above],.int .i64 r] []=some (.ret (.bool (Qk s v r)),[]):=by
 (refine ce Try.func76 ?_;simp only[Try.f76];(have hb:=trivial;with_reducible repeat' (first|simp only[hb,Vc.down,seval,bj8.down,Xb]|refine Aq ?_ ?_<;>intro hb|refine fd ?_|fail)))
 all_goals simp_all[Qk]
def dT{α:Type}(p:α→Bool):List α→Int→Int
 | [],_=> -1
 |x::l,i=>if p x=true then i else dT p l (i+1)
theorem Ur{α:Type}(p:α→Bool):∀(l:List α) (i:Int),0≤i→decide (0≤dT p l i)=l.any p
 | [],i,_=>rfl
 |x::l,i,h=>by
  unfold dT
  split
  ·rename_i hp;simp[h,hp]
  ·rename_i hp;rw[Ur p l (i+1) (by omega)];simp[hp]
theorem abA{l:List Int}{nn:Bool}{g:Nat}{cap:List AV}{p:Int→Bool}(hc:cap.all (Cc 8)=true)(hc7:cap.all (Cc 7)=true)(hp:∀x∈l,Dc.call (.fn g) (.int .i64 x::cap) []=some (.ret (.bool (p x)),[]))(hl:l.length≤maxLen)(hgm:Dc.md g=false:=by exact rfl):
 Dc.call (.fn 91) [Af 1 true nn (l.map iv),.func (.func g) [] cap] []=some (.ret (.int .i64 (dT p l 0)),[]):=by
 (refine ce Try.func91 ?_;simp only[Try.f91];(have hb:=trivial;with_reducible repeat' (first|simp only[hb,Vc.down,seval,ac5.down,acE]|refine Aq ?_ ?_<;>intro hb|refine fd ?_|fail)))
 refine Dl (Ss 19 l (fun i (s:Int) t h=>s=i∧h=[]∧t 0=Af 1 true nn (l.map iv)∧t 1=.func (.func g) [] cap∧t 7=.int .i64 l.length∧t 8=.int .i64 i)
  (fun rest s=>dT p rest s) (fun r e t h=>h=[]∧((e=.exit 0∧r= -1)∨(e=.ret∧t 4=.int .i64 r))) ?_ ?_ 0 _ _ ?_) (fun e t h hk=>?_)
 ·rintro s t h Q' kQ ⟨rfl,rfl,h0,h1,h7,h8⟩
  (have hb:=trivial;with_reducible repeat' (first|simp only[hb,Vc.down,seval,ac5.down,h0,h1,h7,h8,acG,decide_false]|refine Aq ?_ ?_<;>intro hb|refine fd ?_|fail))
  exact kQ _ _ _ ⟨rfl,.inl ⟨rfl,rfl⟩⟩
 ·rintro x rest i s t h J Q' kJ kQ hx hi ⟨rfl,rfl,h0,h1,h7,h8⟩
  have hgm2:=hgm
  simp only[lI,al9,amP,anC]at hgm2
  have hpx:=hp x (acK hx)
  have hd:decide ((i:Int)<(l.length:Int))=true:=by simpa using hi
  (have hb:=trivial;with_reducible repeat' (first|simp only[hb,Vc.down,seval,ac5.down,h0,h1,h7,h8,hd,hx,iv,hc,hc7,hpx,hgm2,Av hi hl]|refine Aq ?_ ?_<;>intro hb|refine fd ?_|fail))
  ·exact kQ _ _ _ ⟨rfl,.inr ⟨rfl,by simp[up,dT,hb]⟩⟩
  ·exact Ax (kJ _ _ (i+1) ⟨by simp,rfl,by simp[up,h0],by simp[up,h1],by simp[up,h7],by simp[up]⟩ (by simp[dT,hb]))
 ·exact⟨rfl,rfl,by simp[up,Eg],by simp[up,Eg],by simp[up],by simp[up]⟩
 ·obtain⟨rfl,⟨rfl,hi⟩|⟨rfl,hi⟩⟩:=hk
  ·(have hb:=trivial;with_reducible repeat' (first|simp only[hb,Vc.down,seval,ac5.down]|refine Aq ?_ ?_<;>intro hb|refine fd ?_|fail))
   rw[hi]
  ·(have hb:=trivial;with_reducible repeat' (first|simp only[hb,Vc.down,seval,ac5.down,hi]|refine Aq ?_ ?_<;>intro hb|refine fd ?_|fail))
theorem tZ{l:List Int}{nn:Bool}{g:Nat}{cap:List AV}{p:Int→Bool}(hc:cap.all (Cc 8)=true)(hc7:cap.all (Cc 7)=true)(hp:∀x∈l,Dc.call (.fn g) (.int .i64 x::cap) []=some (.ret (.bool (p x)),[]))(hl:l.length≤maxLen)(hgm:Dc.md g=false:=by exact rfl):
 Dc.call (.fn 73) [Af 1 true nn (l.map iv),.func (.func g) [] cap] []=some (.ret (.bool (l.any p)),[]):=by
 (refine ce Try.func73 ?_;simp only[Try.f73];(have hb:=trivial;with_reducible repeat' (first|simp only[hb,Vc.down,seval,abA hc hc7 hp hl hgm,hc,hc7,Ur p l 0 (ah3 0)]|refine Aq ?_ ?_<;>intro hb|refine fd ?_|fail)))
def We(b:Int):List Int→Option Int→Bool
 | [],_=>true
 |n::l,p=>To n 0 (IntKind.i64.wrap (b-1))&&(match p with|none=>true|some q=> !decide (n≤q))&&We b l (some n)
theorem iF{l:List Int}{nn:Bool}(b:Int)(hl:l.length≤maxLen):Dc.call (.fn 53) [Af 1 true nn (l.map iv),.int .i64 b] []=some (.ret (.bool (We b l none)),[]):=by
 (refine ce Try.func53 ?_;simp only[Try.f53];(have hb:=trivial;with_reducible repeat' (first|simp only[hb,Vc.down,seval,xP.down,acE]|refine Aq ?_ ?_<;>intro hb|refine fd ?_|fail)))
 refine Dl (Ss 33 l (fun i (s:Option Int) t h=>(i=0∧s=none∨0<i∧s=l[i-1]?)∧t 0=Af 1 true nn (l.map iv)∧t 1=.int .i64 b∧t 7=Af 1 true nn (l.map iv)∧t 8=.int .i64 l.length∧t 9=.int .i64 i)
  (fun rest s=>We b rest s) (fun r e t h=>if r=true then e=.exit 0 else e=.ret∧t 4=.bool false) ?_ ?_ none _ _ ?_) (fun e t h hk=>?_)
 ·rintro s t h Q' kQ ⟨hs,h0,h1,h7,h8,h9⟩
  (have hb:=trivial;with_reducible repeat' (first|simp only[hb,Vc.down,seval,xP.down,h0,h1,h7,h8,h9,acG,decide_false]|refine Aq ?_ ?_<;>intro hb|refine fd ?_|fail))
  exact kQ _ _ _ (by simp[We])
 ·rintro x rest i s t h J Q' kJ kQ hx hi ⟨hs,h0,h1,h7,h8,h9⟩
  have hd:decide ((i:Int)<(l.length:Int))=true:=by simpa using hi
  have kF:∀{p:Option Int},(To x 0 (IntKind.i64.wrap (b-1))&&(match p with|none=>true|some q=> !decide (x≤q)))=false→We b (x::rest) p=false:=fun h=>by simp[We,h]
  have kT:∀{p:Option Int},(To x 0 (IntKind.i64.wrap (b-1))&&(match p with|none=>true|some q=> !decide (x≤q)))=true→We b rest (some x)=We b (x::rest) p:=fun h=>by simp[We,h]
  have hw:=Av hi hl
  rcases hs with⟨rfl,rfl⟩|⟨hpos,rfl⟩
  ·simp only[asB,Int.zero_add]at hd h9 hw
   (have hb:=trivial;with_reducible repeat' (first|simp only[hb,Vc.down,seval,xP.down,h0,h1,h7,h8,h9,hd,hx,iv,Xb,hw,Int.toNat_zero,ah3,acG,decide_false]|refine Aq ?_ ?_<;>intro hb|refine fd ?_|fail))
   all_goals first
    |exact kQ _ _ _ (by rw[if_neg (by rw[kF (by simp_all)];simp)];exact⟨rfl,rfl⟩)
    |exact Ax (kJ _ _ (some x) ⟨.inr ⟨by omega,by simp[hx]⟩,by simp[up,h0],by simp[up,h1],by simp[up,h7],by simp[up,h8],by simp[up]<;>omega⟩ (kT (by simp_all)))
  ·obtain⟨j,rfl⟩:∃j,i=j+1:=⟨i-1,by omega⟩
   obtain⟨q,hq⟩:∃q,l[j]?=some q:=⟨l[j],al3 (by omega)⟩
   have hj:IntKind.i64.wrap (((j+1:Nat):Int)-1)=(j:Int):=by unfold maxLen at hl;rw[Ed (by omega) (by omega)];omega
   have hg:decide (0<((j+1:Nat):Int))=true:=by rw[decide_eq_true_eq];omega
   simp only[asI,hq]at kJ kQ
   (have hb:=trivial;with_reducible repeat' (first|simp only[hb,Vc.down,seval,xP.down,h0,h1,h7,h8,h9,hd,hx,iv,Xb,hw,hj,hg,hq]|refine Aq ?_ ?_<;>intro hb|refine fd ?_|fail))
   all_goals first
    |exact kQ _ _ _ (by rw[if_neg (by rw[kF (by simp_all)];simp)];exact⟨rfl,rfl⟩)
    |exact Ax (kJ _ _ (some x) ⟨.inr ⟨by omega,by simp[hx]⟩,by simp[up,h0],by simp[up,h1],by simp[up,h7],by simp[up,h8],by simp[up]<;>omega⟩ (kT (by simp_all)))
 ·exact⟨.inl ⟨rfl,rfl⟩,by simp[up,Eg],by simp[up,Eg],by simp[up,Eg],by simp[up],by simp[up]⟩
 ·split at hk
  ·subst hk
   rename_i hr
   (have hb:=trivial;with_reducible repeat' (first|simp only[hb,Vc.down,seval,xP.down]|refine Aq ?_ ?_<;>intro hb|refine fd ?_|fail))
   all_goals simp[hr]
  ·obtain⟨rfl,h2⟩:=hk
   rename_i hr
   (have hb:=trivial;with_reducible repeat' (first|simp only[hb,Vc.down,seval,xP.down,h2]|refine Aq ?_ ?_<;>intro hb|refine fd ?_|fail))
   all_goals simp[hr]
def bQ(ns:Int)(v:Aj):Bool:=We ns v.sens none&&To v.need 1 v.sens.length&&aF v.level
theorem bfE(v:Aj)(ns:Int)(hl:v.sens.length≤maxLen):Dc.call (.fn 47) [.agg [Af 1 true v.nn (v.sens.map iv),.int .i64 v.need,.int .i64 v.level,.bool v.above],.int .i64 ns] []=some (.ret (.bool (bQ ns v)),[]):=by
 (refine ce Try.func47 ?_;simp only[Try.f47];(have hb:=trivial;with_reducible repeat' (first|simp only[hb,Vc.down,seval,ap2.down,acE]|refine Aq ?_ ?_<;>intro hb|refine fd ?_|fail)))
 refine Dl (Ss 51 v.sens (fun i (s:Option Int) t h=>(i=0∧s=none∨0<i∧s=v.sens[i-1]?)∧h[0]?=some (.live 4 false false [[Af 1 true v.nn (v.sens.map iv),.int .i64 v.need,.int .i64 v.level,.bool v.above]])∧t 1=.int .i64 ns∧t 2=.ptr 0 0 0∧t 5=.int .i64 i)
  (fun rest s=>We ns rest s) (fun r e t h=>if r=true then e=.exit 0∧h[0]?=some (.live 4 false false [[Af 1 true v.nn (v.sens.map iv),.int .i64 v.need,.int .i64 v.level,.bool v.above]])∧t 2=.ptr 0 0 0 else e=.ret∧t 4=.bool false) ?_ ?_ none _ _ ?_) (fun e t h hk=>?_)
 ·rintro s t h Q' kQ ⟨hs,hh,h1,h2,h5⟩
  (have hb:=trivial;with_reducible repeat' (first|simp only[hb,Vc.down,seval,ap2.down,hh,h1,h2,h5,acE,acG,decide_false]|refine Aq ?_ ?_<;>intro hb|refine fd ?_|fail))
  exact kQ _ _ _ (by simp[We,up,h2,hh])
 ·rintro x rest i s t h J Q' kJ kQ hx hi ⟨hs,hh,h1,h2,h5⟩
  have hd:decide ((i:Int)<(v.sens.length:Int))=true:=by simpa using hi
  have hA:=Ac hh
  have kF:∀{p:Option Int},(To x 0 (IntKind.i64.wrap (ns-1))&&(match p with|none=>true|some q=> !decide (x≤q)))=false→We ns (x::rest) p=false:=fun h=>by simp[We,h]
  have kT:∀{p:Option Int},(To x 0 (IntKind.i64.wrap (ns-1))&&(match p with|none=>true|some q=> !decide (x≤q)))=true→We ns rest (some x)=We ns (x::rest) p:=fun h=>by simp[We,h]
  have hw:=Av hi hl
  rcases hs with⟨rfl,rfl⟩|⟨hpos,rfl⟩
  ·simp only[asB,Int.zero_add]at hd h5 hw
   (have hb:=trivial;with_reducible repeat' (first|simp only[hb,Vc.down,seval,ap2.down,hA,hh,h1,h2,h5,hd,hx,acE,iv,ah1,hw,Int.toNat_zero,ah3,acG,decide_false]|refine Aq ?_ ?_<;>intro hb|refine fd ?_|fail))
   all_goals first
    |exact kQ _ _ _ (by rw[if_neg (by rw[kF (by simp_all)];simp)];exact⟨rfl,rfl⟩)
    |exact Ax (kJ _ _ (some x) ⟨.inr ⟨by omega,by simp[hx]⟩,by simp[hh],by simp[up,h1],by simp[up,h2],by simp[up]<;>omega⟩ (kT (by simp_all)))
  ·obtain⟨j,rfl⟩:∃j,i=j+1:=⟨i-1,by omega⟩
   obtain⟨q,hq⟩:∃q,v.sens[j]?=some q:=⟨v.sens[j],al3 (by omega)⟩
   have hj:IntKind.i64.wrap (((j+1:Nat):Int)-1)=(j:Int):=by unfold maxLen at hl;rw[Ed (by omega) (by omega)];omega
   have hg:decide (0<((j+1:Nat):Int))=true:=by rw[decide_eq_true_eq];omega
   simp only[asI,hq]at kJ kQ
   (have hb:=trivial;with_reducible repeat' (first|simp only[hb,Vc.down,seval,ap2.down,hA,hh,h1,h2,h5,hd,hx,acE,iv,ah1,hw,hj,hg,hq]|refine Aq ?_ ?_<;>intro hb|refine fd ?_|fail))
   all_goals first
    |exact kQ _ _ _ (by rw[if_neg (by rw[kF (by simp_all)];simp)];exact⟨rfl,rfl⟩)
    |exact Ax (kJ _ _ (some x) ⟨.inr ⟨by omega,by simp[hx]⟩,by simp[hh],by simp[up,h1],by simp[up,h2],by simp[up]<;>omega⟩ (kT (by simp_all)))
 ·exact⟨.inl ⟨rfl,rfl⟩,rfl,by simp[up,Eg],by simp[up],by simp[up]⟩
 ·split at hk
  ·obtain⟨rfl,hh,h2⟩:=hk
   have hA:=Ac hh
   rename_i hr
   (have hb:=trivial;with_reducible repeat' (first|simp only[hb,Vc.down,seval,ap2.down,hA,hh,h2,acE,ah1]|refine Aq ?_ ?_<;>intro hb|refine fd ?_|fail))
   all_goals simp_all[bQ,aF]
  ·obtain⟨rfl,h2⟩:=hk
   rename_i hr
   (have hb:=trivial;with_reducible repeat' (first|simp only[hb,Vc.down,seval,ap2.down,h2]|refine Aq ?_ ?_<;>intro hb|refine fd ?_|fail))
   all_goals simp[bQ,hr]
theorem ahN(o w:Ao):Dc.call (.fn 90) [.agg [.int .i64 o.vote,.bool o.is],.ptr 0 0 0] [.live 2 true false [[.int .i64 w.vote,.bool w.is]]]=some (.ret (.bool (o.vote==w.vote)),[.live 2 true false [[.int .i64 w.vote,.bool w.is]]]):=by
 (refine ce Try.func90 ?_;simp only[Try.f90];(have hb:=trivial;with_reducible repeat' (first|simp only[hb,Vc.down,seval,blS.down]|refine Aq ?_ ?_<;>intro hb|refine fd ?_|fail)))
theorem uC{l:List Ao}{nn:Bool}{g:Nat}{ww:Ao}{p:Ao→Bool}(hp:∀x∈l,Dc.call (.fn g) (.agg [.int .i64 x.vote,.bool x.is]::[.ptr 0 0 0]) [.live 2 true false [[.int .i64 ww.vote,.bool ww.is]]]=some (.ret (.bool (p x)),[.live 2 true false [[.int .i64 ww.vote,.bool ww.is]]]))(hl:l.length≤maxLen)(hgm:Dc.md g=false:=by exact rfl):
 Dc.call (.fn 98) [Af 2 true nn (l.map Ao.cells),.func (.func g) [] [.ptr 0 0 0]] [.live 2 true false [[.int .i64 ww.vote,.bool ww.is]]]=some (.ret (.int .i64 (dT p l 0)),[.live 2 true false [[.int .i64 ww.vote,.bool ww.is]]]):=by
 (refine ce Try.func98 ?_;simp only[Try.f98];(have hb:=trivial;with_reducible repeat' (first|simp only[hb,Vc.down,seval,eL.down,acE]|refine Aq ?_ ?_<;>intro hb|refine fd ?_|fail)))
 refine Dl (Ss 19 l (fun i (s:Int) t h=>s=i∧h=[.live 2 true false [[.int .i64 ww.vote,.bool ww.is]]]∧t 0=Af 2 true nn (l.map Ao.cells)∧t 1=.func (.func g) [] [.ptr 0 0 0]∧t 7=.int .i64 l.length∧t 8=.int .i64 i)
  (fun rest s=>dT p rest s) (fun r e t h=>h=[.live 2 true false [[.int .i64 ww.vote,.bool ww.is]]]∧((e=.exit 0∧r= -1)∨(e=.ret∧t 4=.int .i64 r))) ?_ ?_ 0 _ _ ?_) (fun e t h hk=>?_)
 ·rintro s t h Q' kQ ⟨rfl,rfl,h0,h1,h7,h8⟩
  (have hb:=trivial;with_reducible repeat' (first|simp only[hb,Vc.down,seval,eL.down,h0,h1,h7,h8,acG,decide_false]|refine Aq ?_ ?_<;>intro hb|refine fd ?_|fail))
  exact kQ _ _ _ ⟨rfl,.inl ⟨rfl,rfl⟩⟩
 ·rintro x rest i s t h J Q' kJ kQ hx hi ⟨rfl,rfl,h0,h1,h7,h8⟩
  have hgm2:=hgm
  simp only[lI,al9,amP,anC]at hgm2
  have hpx:=hp x (acK hx)
  have hd:decide ((i:Int)<(l.length:Int))=true:=by simpa using hi
  (have hb:=trivial;with_reducible repeat' (first|simp only[hb,Vc.down,seval,eL.down,h0,h1,h7,h8,hd,hx,Ao.cells,hpx,hgm2,Av hi hl]|refine Aq ?_ ?_<;>intro hb|refine fd ?_|fail))
  ·exact kQ _ _ _ ⟨rfl,.inr ⟨rfl,by simp[up,dT,hb]⟩⟩
  ·exact Ax (kJ _ _ (i+1) ⟨by simp,rfl,by simp[up,h0],by simp[up,h1],by simp[up,h7],by simp[up]⟩ (by simp[dT,hb]))
 ·exact⟨rfl,rfl,by simp[up,Eg],by simp[up,Eg],by simp[up],by simp[up]⟩
 ·obtain⟨rfl,⟨rfl,hi⟩|⟨rfl,hi⟩⟩:=hk
  ·(have hb:=trivial;with_reducible repeat' (first|simp only[hb,Vc.down,seval,eL.down]|refine Aq ?_ ?_<;>intro hb|refine fd ?_|fail))
   rw[hi]
  ·(have hb:=trivial;with_reducible repeat' (first|simp only[hb,Vc.down,seval,eL.down,hi]|refine Aq ?_ ?_<;>intro hb|refine fd ?_|fail))
theorem pH{l:List Ao}{nn:Bool}{g:Nat}{ww:Ao}{p:Ao→Bool}(hp:∀x∈l,Dc.call (.fn g) (.agg [.int .i64 x.vote,.bool x.is]::[.ptr 0 0 0]) [.live 2 true false [[.int .i64 ww.vote,.bool ww.is]]]=some (.ret (.bool (p x)),[.live 2 true false [[.int .i64 ww.vote,.bool ww.is]]]))(hl:l.length≤maxLen)(hgm:Dc.md g=false:=by exact rfl):
 Dc.call (.fn 89) [Af 2 true nn (l.map Ao.cells),.func (.func g) [] [.ptr 0 0 0]] [.live 2 true false [[.int .i64 ww.vote,.bool ww.is]]]=some (.ret (.bool (l.any p)),[.live 2 true false [[.int .i64 ww.vote,.bool ww.is]]]):=by
 (refine ce Try.func89 ?_;simp only[Try.f89];(have hb:=trivial;with_reducible repeat' (first|simp only[hb,Vc.down,seval,uC hp hl hgm,Ur p l 0 (ah3 0)]|refine Aq ?_ ?_<;>intro hb|refine fd ?_|fail)))
def Qa(nv:Int):List Ao→List Ao→Bool
 |_,[]=>true
 |pre,w::l=>To w.vote 0 (IntKind.i64.wrap (nv-1))&& !(pre.any fun o=>o.vote==w.vote)&&Qa nv (pre++[w]) l
def Sj(m:Ad)(x:Ap):Bool:=Qa m.votes.length [] x.wants&&To x.frm 0 (IntKind.i64.wrap (m.states-1))&&To x.to 0 (IntKind.i64.wrap (m.states-1))&&decide (x.wants.length≤6)&&To x.cmd (-1) (IntKind.i64.wrap (m.cmds-1))&&To x.after 0 10
theorem am8(m:Ad)(y:Ap)(hl:y.wants.length≤maxLen):Dc.call (.fn 72) [.agg [Af 3 true m.nS (m.sens.map Bz.cells),Af 4 false m.nV (m.votes.map Aj.cells),Af 5 false m.nM (m.moves.map Ap.cells),.int .i64 m.states,.int .i64 m.cmds,.int .i64 m.bgn,Af 1 true m.nO (m.opn.map iv)],.agg [.int .i64 y.frm,.int .i64 y.to,Af 2 true y.nn (y.wants.map Ao.cells),.int .i64 y.cmd,.int .i64 y.after]] []=some (.ret (.bool (Sj m y)),[]):=by
 have l6:decide ((y.wants.length:Int)≤6)=decide (y.wants.length≤6):=by rw[decide_eq_decide];omega
 (refine ce Try.func72 ?_;simp only[Try.f72];(have hb:=trivial;with_reducible repeat' (first|simp only[hb,Vc.down,seval,qM.down,acE]|refine Aq ?_ ?_<;>intro hb|refine fd ?_|fail)))
 refine Dl (Ss 65 y.wants (fun i (zz:List Ao) t h=>t 2=.ptr 0 0 0∧t 3=.ptr 1 0 0∧t 8=Af 2 true y.nn (y.wants.map Ao.cells)∧t 9=.int .i64 y.wants.length∧t 10=.int .i64 i∧(h[0]?=some (.live 7 false false [[Af 3 true m.nS (m.sens.map Bz.cells),Af 4 false m.nV (m.votes.map Aj.cells),Af 5 false m.nM (m.moves.map Ap.cells),.int .i64 m.states,.int .i64 m.cmds,.int .i64 m.bgn,Af 1 true m.nO (m.opn.map iv)]])∧h[1]?=some (.live 5 false false [[.int .i64 y.frm,.int .i64 y.to,Af 2 true y.nn (y.wants.map Ao.cells),.int .i64 y.cmd,.int .i64 y.after]])∧zz=y.wants.take i)) (fun rest zz=>Qa m.votes.length zz rest) (fun r e t h=>(if r=true then e=.exit 0∧t 2=.ptr 0 0 0∧t 3=.ptr 1 0 0∧h[0]?=some (.live 7 false false [[Af 3 true m.nS (m.sens.map Bz.cells),Af 4 false m.nV (m.votes.map Aj.cells),Af 5 false m.nM (m.moves.map Ap.cells),.int .i64 m.states,.int .i64 m.cmds,.int .i64 m.bgn,Af 1 true m.nO (m.opn.map iv)]])∧h[1]?=some (.live 5 false false [[.int .i64 y.frm,.int .i64 y.to,Af 2 true y.nn (y.wants.map Ao.cells),.int .i64 y.cmd,.int .i64 y.after]])else e=.ret∧t 4=.bool false)) ?_ ?_ ([]) _ _ ?_) (fun e t h hk=>?_)
 ·rintro p t h Q' kQ ⟨h2,h3,h8,h9,h10,⟨hA,hB,hp⟩⟩
  (have hb:=trivial;with_reducible repeat' (first|simp only[hb,Vc.down,seval,qM.down,h2,h3,h8,h9,h10,acG,decide_false]|refine Aq ?_ ?_<;>intro hb|refine fd ?_|fail))
  exact kQ _ _ _ (by rw[if_pos (by rfl)];exact⟨rfl,by simp[up,h2],by simp[up,h3],hA,hB⟩)
 ·rintro x rest i p t h J Q' kJ kQ hx hi ⟨h2,h3,h8,h9,h10,⟨hA,hB,hp⟩⟩
  have hd:decide ((i:Int)<(y.wants.length:Int))=true:=decide_eq_true (by omega)
  have hw:=Av hi hl
  have hA1:=Ac hA
  have hB1:=Ac hB
  have hcW:=pH (l:=y.wants.take i) (nn:=true) (ww:=x) (g:=90) (p:=fun o=>o.vote==x.vote) (fun o _=>ahN o x) (by simp;omega)
  have hsl:=ayW (P:=Try.prog) (ty:=57) (n:=2) ⟨_,Try.underlying57,by kernel_rfl⟩ true y.nn (rows:=y.wants.map Ao.cells) (i:=i) (by simpa using hi)
  rw[Wv,List.map_take]at hcW
  subst hp
  cases c1:To x.vote 0 (IntKind.i64.wrap ((m.votes.length:Int)-1))with
  |false=>
   (have hb:=trivial;with_reducible repeat' (first|simp only[hb,Vc.down,seval,qM.down,h2,h3,h8,h9,h10,hd,hx,hw,hA1,hB1,Xb,Ao.cells,acE,hcW,hsl,c1]|refine Aq ?_ ?_<;>intro hb|refine fd ?_|fail))
   exact kQ _ _ _ (by rw[if_neg (by simp[Qa,c1])];exact⟨rfl,by simp[up]⟩)
  |true=>
   cases c2:(y.wants.take i).any (fun o=>o.vote==x.vote)with
   |true=>
    rw[c2]at hcW
    (have hb:=trivial;with_reducible repeat' (first|simp only[hb,Vc.down,seval,qM.down,h2,h3,h8,h9,h10,hd,hx,hw,hA1,hB1,Xb,Ao.cells,acE,hcW,hsl,c1]|refine Aq ?_ ?_<;>intro hb|refine fd ?_|fail))
    exact kQ _ _ _ (by rw[if_neg (by simp only[Qa,c1,c2,acZ,al5,aiC];simp)];exact⟨rfl,by simp[up]⟩)
   |false=>
    rw[c2]at hcW
    (have hb:=trivial;with_reducible repeat' (first|simp only[hb,Vc.down,seval,qM.down,h2,h3,h8,h9,h10,hd,hx,hw,hA1,hB1,Xb,Ao.cells,acE,hcW,hsl,c1]|refine Aq ?_ ?_<;>intro hb|refine fd ?_|fail))
    (refine Ax (kJ _ _ (y.wants.take i++[x]) ⟨?_,?_,?_,?_,?_,⟨hA1 _,hB1 _,by rw[asS,hx];rfl⟩⟩ ?_);(simp[up,h2]);(simp[up,h3]);(simp[up,h8]);(simp[up,h9]);(simp[up]);(simp only[Qa,c1,c2,adD,al6,ahZ]))
 ·exact⟨by simp[up,Eg],by simp[up,Eg],by simp[up,Eg],by simp[up,Eg],by simp[up],⟨rfl,rfl,rfl⟩⟩
 ·split at hk
  ·obtain⟨rfl,h2,h3,hA,hB⟩:=hk
   rename_i hr
   have hA1:=Ac hA
   have hB1:=Ac hB
   (have hb:=trivial;with_reducible repeat' (first|simp only[hb,Vc.down,seval,qM.down,h2,h3,hA,hB,hA1,hB1,Xb,acE,l6]|refine Aq ?_ ?_<;>intro hb|refine fd ?_|fail))
   all_goals (refine congrArg (fun b=>(Gp.ret (AV.bool b),([]:Ab))) ?_;symm;((try simp only[anF,acZ,adD]at *);simp only[Sj, *,al5,aiC,al6,ahZ,an5,aoC,acZ,adD,ao3,apC]))
  ·obtain⟨rfl,h4⟩:=hk
   rename_i hr
   (have hb:=trivial;with_reducible repeat' (first|simp only[hb,Vc.down,seval,qM.down,h4]|refine Aq ?_ ?_<;>intro hb|refine fd ?_|fail))
   all_goals simp_all[Sj]
def as1(w:Ao):List Ao→Bool
 | []=>true
 |o::l=> !(o.vote==w.vote)&&as1 w l
theorem ahV(w:Ao):∀l,as1 w l= !(l.any fun o=>o.vote==w.vote)
 | []=>rfl
 |o::l=>by simp[as1,ahV w l]
theorem be8(m:Ad)(y:Ap)(hl:y.wants.length≤maxLen):Dc.call (.fn 49) [.agg [Af 3 true m.nS (m.sens.map Bz.cells),Af 4 false m.nV (m.votes.map Aj.cells),Af 5 false m.nM (m.moves.map Ap.cells),.int .i64 m.states,.int .i64 m.cmds,.int .i64 m.bgn,Af 1 true m.nO (m.opn.map iv)],.agg [.int .i64 y.frm,.int .i64 y.to,Af 2 true y.nn (y.wants.map Ao.cells),.int .i64 y.cmd,.int .i64 y.after]] []=some (.ret (.bool (Sj m y)),[]):=by
 have l6:decide ((y.wants.length:Int)≤6)=decide (y.wants.length≤6):=by rw[decide_eq_decide];omega
 (refine ce Try.func49 ?_;simp only[Try.f49];(have hb:=trivial;with_reducible repeat' (first|simp only[hb,Vc.down,seval,aaV.down,acE]|refine Aq ?_ ?_<;>intro hb|refine fd ?_|fail)))
 refine Dl (Ss 77 y.wants (fun i (zz:List Ao) t h=>t 2=.ptr 0 0 0∧t 3=.ptr 1 0 0∧t 5=.int .i64 i∧(h=[.live 7 false false [[Af 3 true m.nS (m.sens.map Bz.cells),Af 4 false m.nV (m.votes.map Aj.cells),Af 5 false m.nM (m.moves.map Ap.cells),.int .i64 m.states,.int .i64 m.cmds,.int .i64 m.bgn,Af 1 true m.nO (m.opn.map iv)]],.live 5 false false [[.int .i64 y.frm,.int .i64 y.to,Af 2 true y.nn (y.wants.map Ao.cells),.int .i64 y.cmd,.int .i64 y.after]]]∧zz=y.wants.take i)) (fun rest zz=>Qa m.votes.length zz rest) (fun r e t h=>(if r=true then e=.exit 0∧t 2=.ptr 0 0 0∧t 3=.ptr 1 0 0∧h=[.live 7 false false [[Af 3 true m.nS (m.sens.map Bz.cells),Af 4 false m.nV (m.votes.map Aj.cells),Af 5 false m.nM (m.moves.map Ap.cells),.int .i64 m.states,.int .i64 m.cmds,.int .i64 m.bgn,Af 1 true m.nO (m.opn.map iv)]],.live 5 false false [[.int .i64 y.frm,.int .i64 y.to,Af 2 true y.nn (y.wants.map Ao.cells),.int .i64 y.cmd,.int .i64 y.after]]]else e=.ret∧t 4=.bool false)) ?_ ?_ ([]) _ _ ?_) (fun e t h hk=>?_)
 ·rintro p t h Q' kQ ⟨h2,h3,h5,⟨rfl,hp⟩⟩
  (have hb:=trivial;with_reducible repeat' (first|simp only[hb,Vc.down,seval,aaV.down,h2,h3,h5,acG,decide_false,acE]|refine Aq ?_ ?_<;>intro hb|refine fd ?_|fail))
  exact kQ _ _ _ (by rw[if_pos (by rfl)];exact⟨rfl,by simp[up,h2],by simp[up,h3],rfl⟩)
 ·rintro x rest i p t h J Q' kJ kQ hx hi ⟨h2,h3,h5,⟨rfl,hp⟩⟩
  have hd:decide ((i:Int)<(y.wants.length:Int))=true:=decide_eq_true (by omega)
  have hw:=Av hi hl
  subst hp
  cases c1:To x.vote 0 (IntKind.i64.wrap ((m.votes.length:Int)-1))with
  |false=>
   (have hb:=trivial;with_reducible repeat' (first|simp only[hb,Vc.down,seval,aaV.down,h2,h3,h5,hd,hx,hw,ah1,c1,Ao.cells,acE]|refine Aq ?_ ?_<;>intro hb|refine fd ?_|fail))
   exact kQ _ _ _ (by rw[if_neg (by simp[Qa,c1])];exact⟨rfl,by simp[up]⟩)
  |true=>
   obtain⟨w,rfl⟩:∃w,w=x:=⟨_,rfl⟩
   obtain⟨k,rfl⟩:∃k,k=i:=⟨_,rfl⟩
   have hlen:(y.wants.take k).length=k:=by simp;omega
   have hxk:=hx
   (have hb:=trivial;with_reducible repeat' (first|simp only[hb,Vc.down,seval,aaV.down,h2,h3,h5,hd,hx,hw,ah1,c1,Ao.cells,acE]|refine Aq ?_ ?_<;>intro hb|refine fd ?_|fail))
   refine Dl (Ss 77 (y.wants.take k) (fun i (zz:Unit) t h=>t 2=.ptr 0 0 0∧t 3=.ptr 1 0 0∧t 5=.int .i64 (k:Int)∧t 6=.int .i64 i∧h=[.live 7 false false [[Af 3 true m.nS (m.sens.map Bz.cells),Af 4 false m.nV (m.votes.map Aj.cells),Af 5 false m.nM (m.moves.map Ap.cells),.int .i64 m.states,.int .i64 m.cmds,.int .i64 m.bgn,Af 1 true m.nO (m.opn.map iv)]],.live 5 false false [[.int .i64 y.frm,.int .i64 y.to,Af 2 true y.nn (y.wants.map Ao.cells),.int .i64 y.cmd,.int .i64 y.after]]]) (fun rest zz=>as1 w rest) (fun r e t h=>(if r=true then e=.exit 2∧t 2=.ptr 0 0 0∧t 3=.ptr 1 0 0∧t 5=.int .i64 (k:Int)∧h=[.live 7 false false [[Af 3 true m.nS (m.sens.map Bz.cells),Af 4 false m.nV (m.votes.map Aj.cells),Af 5 false m.nM (m.moves.map Ap.cells),.int .i64 m.states,.int .i64 m.cmds,.int .i64 m.bgn,Af 1 true m.nO (m.opn.map iv)]],.live 5 false false [[.int .i64 y.frm,.int .i64 y.to,Af 2 true y.nn (y.wants.map Ao.cells),.int .i64 y.cmd,.int .i64 y.after]]]else e=.ret∧t 4=.bool false)) ?_ ?_ () _ _ ?_) (fun e tC hC hk=>?_)
   ·rintro _ t h Q' kQ ⟨h2,h3,h5,h6,rfl⟩
    (have hb:=trivial;with_reducible repeat' (first|simp only[hb,Vc.down,seval,aaV.down,h2,h3,h5,h6,acG,decide_false,hlen]|refine Aq ?_ ?_<;>intro hb|refine fd ?_|fail))
    exact kQ _ _ _ (by rw[if_pos (by rfl)];exact⟨rfl,by simp[up,h2],by simp[up,h3],by simp[up,h5],rfl⟩)
   ·rintro x rest i _ t h J Q' kJ kQ hx hi ⟨h2,h3,h5,h6,rfl⟩
    have hd:decide ((i:Int)<((y.wants.take k).length:Int))=true:=decide_eq_true (by omega)
    have hw:=Av hi (by simp;omega)
    rw[hlen]at hd
    have hxi:y.wants[i]?=some x:=by rw[List.getElem?_take]at hx;split at hx;exact hx;cases hx
    cases c3:(x.vote==w.vote)with
    |true=>
     (have hb:=trivial;with_reducible repeat' (first|simp only[hb,Vc.down,seval,aaV.down,h2,h3,h5,h6,hd,hxi,hxk,hw,c3,Ao.cells]|refine Aq ?_ ?_<;>intro hb|refine fd ?_|fail))
     exact kQ _ _ _ (by rw[if_neg (by simp[as1,c3])];exact⟨rfl,by simp[up]⟩)
    |false=>
     (have hb:=trivial;with_reducible repeat' (first|simp only[hb,Vc.down,seval,aaV.down,h2,h3,h5,h6,hd,hxi,hxk,hw,c3,Ao.cells]|refine Aq ?_ ?_<;>intro hb|refine fd ?_|fail))
     (refine Ax (kJ _ _ () ⟨?_,?_,?_,?_,rfl⟩ ?_);(simp[up,h2]);(simp[up,h3]);(simp[up,h5]);(simp[up]);(simp[as1,c3]))
   ·exact⟨by simp[up,Eg,h2,h3,h5],by simp[up,Eg,h2,h3,h5],by simp[up,Eg,h2,h3,h5],by simp[up],rfl⟩
   ·split at hk
    ·rename_i hdup
     obtain⟨rfl,h2,h3,h5,rfl⟩:=hk
     (have hb:=trivial;with_reducible repeat' (first|simp only[hb,Vc.down,seval,aaV.down,h2,h3,h5,hw]|refine Aq ?_ ?_<;>intro hb|refine fd ?_|fail))
     rw[ahV]at hdup
     (refine Ax (kJ _ _ (y.wants.take k++[w]) ⟨?_,?_,?_,⟨rfl,by rw[asS,hxk];rfl⟩⟩ ?_);(simp[up,h2]);(simp[up,h3]);(simp[up]);(simp only[Qa,c1,hdup,ahZ]))
    ·rename_i hdup
     obtain⟨rfl,h4⟩:=hk
     (have hb:=trivial;with_reducible repeat' (first|simp only[hb,Vc.down,seval,aaV.down,h4]|refine Aq ?_ ?_<;>intro hb|refine fd ?_|fail))
     rw[ahV]at hdup
     exact kQ _ _ _ (by rw[if_neg (by simp only[Qa,c1,ahZ,Bool.eq_false_iff.2 hdup,aiC];simp)];exact⟨rfl,by simp[up,h4]⟩)
 ·exact⟨by simp[up,Eg],by simp[up,Eg],by simp[up],⟨rfl,rfl⟩⟩
 ·split at hk
  ·obtain⟨rfl,h2,h3,rfl⟩:=hk
   rename_i hr
   (have hb:=trivial;with_reducible repeat' (first|simp only[hb,Vc.down,seval,aaV.down,h2,h3,ah1,acE,l6]|refine Aq ?_ ?_<;>intro hb|refine fd ?_|fail))
   all_goals (refine congrArg (fun b=>(Gp.ret (AV.bool b),([]:Ab))) ?_;symm;((try simp only[anF,acZ,adD]at *);simp only[Sj, *,al5,aiC,al6,ahZ,an5,aoC,acZ,adD,ao3,apC]))
  ·obtain⟨rfl,h4⟩:=hk
   rename_i hr
   (have hb:=trivial;with_reducible repeat' (first|simp only[hb,Vc.down,seval,aaV.down,h4]|refine Aq ?_ ?_<;>intro hb|refine fd ?_|fail))
   all_goals simp_all[Sj]
end Go.Proofs.Ytfkokgjfpojeoaa
