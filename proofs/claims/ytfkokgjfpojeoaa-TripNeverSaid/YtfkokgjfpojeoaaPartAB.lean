/- The functions of the layer, walked. -/
import Derived.Test.YtfkokgjfpojeoaaPartAA
import Derived.Test.YtfkokgjfpojeoaaLibD
import Derived.Test.YtfkokgjfpojeoaaLibE
import Derived.Test.YtfkokgjfpojeoaaRows
import Derived.Test.YtfkokgjfpojeoaaShelf
import Derived.ProofKit
import Derived.LaidMore
import Derived.OpenShut
open List renaming length_map→aa9,mem_of_getElem?→adJ,mem_cons→anK,not_mem_nil→anU,getElem?_eq_getElem→arO,all_eq_true→auT,contains_cons→au3,contains_nil→awE,all_cons→ayE,all_nil→ayR,getElem?_eq_some_iff→ayS,getElem?_set_self→ayY,take_add_one→azS
open Int renaming lt_irrefl→adE,le_refl→ajS,natCast_zero→azA
open Bool renaming not_true→aeU,not_false→aiZ,true_and→ajP,false_and→akQ,and_false→as6,and_true→at6,or_false→awM,not_eq_eq_eq_not→awY,and_self→ayB,not_not→ayC,and_eq_true→ayU
open Option renaming bind_eq_some_iff→alW,map_eq_some_iff→am1
open Eq renaming trans→arP
open Nat renaming add_sub_cancel→azC
set_option linter.unusedSimpArgs false
set_option linter.unusedVariables false
namespace Go.Proofs.Ytfkokgjfpojeoaa.Ko
open Go.Ev Go
set_option maxRecDepth 100000
set_option maxHeartbeats 16000000
def sAt(m:aaW)(k:Int):ad1:=m.sens.getD k.toNat ⟨0,0,false⟩
def rAt(l:List Int)(k:Int):Int:=l.getD k.toNat 0
theorem aA3{m:aaW}{k:Int}(h:k.toNat<m.sens.length):m.sens[k.toNat]?=some (sAt m k):=by
 simp[sAt,List.getD,arO h]
theorem aPV{l:List Int}{k:Int}(h:k.toNat<l.length):l[k.toNat]?=some (rAt l k):=by
 simp[rAt,List.getD,arO h]
def aDR(m:aaW)(v:abT)(l:List Int):List Int→Int→Int
 | [],c=>c
 |k::ks,c=>aDR m v l ks (if aw5 (sAt m k) v (rAt l k)=true then IntKind.i64.wrap (c+1)else c)
def aON(m:aaW)(l:List Int)(v:abT):Bool:=decide (v.need≤aDR m v l v.sens 0)
def Idx(m:aaW)(l:List Int):Prop:=∀k∈l,0≤k∧k.toNat<m.sens.length
def orN(a b:Int):Int:=IntKind.i64.wrap ((BitVec.ofInt 64 a|||BitVec.ofInt 64 b).toNat:Int)
theorem aNQ(ty:TypeId)(a b:Int):avL Try.prog .or ty (.int .i64 a) (.int .i64 b)=some (.int .i64 (orN a b)):=by
 show(if IntKind.i64=IntKind.i64 then auZ .or .i64 a b else none)=_
 rw[if_pos rfl];rfl
def axF(m:aaW)(l:List Int):List abT→Nat→Int→Int
 | [],_,b=>b
 |v::vs,i,b=>axF m l vs (i+1) (if aON m l v=true then orN b (aSM i)else b)
theorem aFZ(m:aaW){l:List Int}{nn:Bool}(hl:l.length=m.sens.length)(hs:m.small)(hi:∀v∈m.votes,Idx m v.sens):om'.call (.fn 46) [.agg [slv 3 true m.nS (m.sens.map ad1.cells),slv 4 false m.nV (m.votes.map abT.cells),slv 5 false m.nM (m.moves.map ac4.cells),.int .i64 m.states,.int .i64 m.cmds,.int .i64 m.bgn,slv 1 true m.nO (m.opn.map iv)],slv 1 true nn (l.map iv)] []=some (.ret (.int .i64 (axF m l m.votes 0 0)),[]):=by
 have hI:=hi
 clear hi
 (refine ce Try.func46 ?_;simp only[Try.f46];(have hb:=trivial;with_reducible repeat' (first|simp only[hb,Vc.down,seval,aFP.down,aa9]|refine fsp ?_ ?_<;>intro hb|refine fd ?_|fail)))
 refine ahX (lst 50 m.votes (fun i (zz:Nat × Int) t h=>t 1=slv 1 true nn (l.map iv)∧t 2=.ptr 0 0 0∧t 12=slv 4 false m.nV (m.votes.map abT.cells)∧t 13=.int .i64 m.votes.length∧t 14=.int .i64 i∧t 5=.int .i64 zz.2∧(h[0]?=some (.live 7 false false [[slv 3 true m.nS (m.sens.map ad1.cells),slv 4 false m.nV (m.votes.map abT.cells),slv 5 false m.nM (m.moves.map ac4.cells),.int .i64 m.states,.int .i64 m.cmds,.int .i64 m.bgn,slv 1 true m.nO (m.opn.map iv)]])∧i=zz.1)) (fun rest zz=>axF m l rest zz.1 zz.2) (fun r e t h=>e=.exit 0∧t 5=.int .i64 r) ?_ ?_ (0,0) _ _ ?_) (fun e t h hk=>?_)
 ·rintro⟨k,b⟩ t h Q' kQ ⟨h1,h2,h12,h13,h14,h5,⟨hA,rfl⟩⟩
  try dsimp only at *
  (have hb:=trivial;with_reducible repeat' (first|simp only[hb,Vc.down,seval,aFP.down,h1,h2,h12,h13,h14,h5,adE,decide_false]|refine fsp ?_ ?_<;>intro hb|refine fd ?_|fail))
  exact kQ _ _ _ ⟨rfl,by simp[up,h5,axF]⟩
 ·rintro x rest i ⟨k,b⟩ t h J Q' kJ kQ hx hi ⟨h1,h2,h12,h13,h14,h5,⟨hA,rfl⟩⟩
  have hd:decide ((i:Int)<(m.votes.length:Int))=true:=decide_eq_true (by omega)
  have hw:=adL hi hs.votes
  try dsimp only at *
  have hA1:=aaO hA
  have hvs:=hs.vs x (adJ hx)
  have hIx:=hI x (adJ hx)
  obtain⟨w,rfl⟩:∃w,w=x:=⟨_,rfl⟩
  obtain⟨k,rfl⟩:∃k,k=i:=⟨_,rfl⟩
  obtain⟨hL,hLe⟩:∃hL,hL=h.length:=⟨_,rfl⟩
  (have hb:=trivial;with_reducible repeat' (first|simp only[hb,Vc.down,seval,aFP.down,h1,h2,h12,h13,h14,h5,hd,hx,hw,hA1,abT.cells,aa9]|refine fsp ?_ ?_<;>intro hb|refine fd ?_|fail))
  refine ahX (lst 50 w.sens (fun i (zz:Int) t h=>t 1=slv 1 true nn (l.map iv)∧t 2=.ptr 0 0 0∧t 12=slv 4 false m.nV (m.votes.map abT.cells)∧t 13=.int .i64 m.votes.length∧t 14=.int .i64 (k:Int)∧t 5=.int .i64 b∧t 6=.int .i64 (k:Int)∧t 7=.ptr hL 0 0∧t 20=slv 1 true w.nn (w.sens.map iv)∧t 21=.int .i64 w.sens.length∧t 22=.int .i64 i∧t 8=.int .i64 zz∧(h[0]?=some (.live 7 false false [[slv 3 true m.nS (m.sens.map ad1.cells),slv 4 false m.nV (m.votes.map abT.cells),slv 5 false m.nM (m.moves.map ac4.cells),.int .i64 m.states,.int .i64 m.cmds,.int .i64 m.bgn,slv 1 true m.nO (m.opn.map iv)]])∧∃wf,h[hL]?=some (.live 4 false wf [[slv 1 true w.nn (w.sens.map iv),.int .i64 w.need,.int .i64 w.level,.bool w.above]]))) (fun rest zz=>aDR m w l rest zz) (fun r e t h=>e=.exit 2∧t 1=slv 1 true nn (l.map iv)∧t 2=.ptr 0 0 0∧t 12=slv 4 false m.nV (m.votes.map abT.cells)∧t 13=.int .i64 m.votes.length∧t 14=.int .i64 (k:Int)∧t 5=.int .i64 b∧t 6=.int .i64 (k:Int)∧t 7=.ptr hL 0 0∧t 8=.int .i64 r∧h[0]?=some (.live 7 false false [[slv 3 true m.nS (m.sens.map ad1.cells),slv 4 false m.nV (m.votes.map abT.cells),slv 5 false m.nM (m.moves.map ac4.cells),.int .i64 m.states,.int .i64 m.cmds,.int .i64 m.bgn,slv 1 true m.nO (m.opn.map iv)]])∧∃wf,h[hL]?=some (.live 4 false wf [[slv 1 true w.nn (w.sens.map iv),.int .i64 w.need,.int .i64 w.level,.bool w.above]])) ?_ ?_ (0) _ _ ?_) (fun e tC hC hk=>?_)
  ·rintro c t h Q' kQ ⟨h1,h2,h12,h13,h14,h5,h6,h7,h20,h21,h22,h8,⟨hA,wf,hB⟩⟩
   (have hb:=trivial;with_reducible repeat' (first|simp only[hb,Vc.down,seval,aFP.down,h1,h2,h12,h13,h14,h5,h6,h7,h20,h21,h22,h8,adE,decide_false]|refine fsp ?_ ?_<;>intro hb|refine fd ?_|fail))
   exact kQ _ _ _ ⟨rfl,by simp[up,h1],by simp[up,h2],by simp[up,h12],by simp[up,h13],by simp[up,h14],by simp[up,h5],by simp[up,h6],by simp[up,h7],by simp[up,h8,aDR],hA,wf,hB⟩
  ·rintro x rest i c t h J Q' kJ kQ hx hi ⟨h1,h2,h12,h13,h14,h5,h6,h7,h20,h21,h22,h8,⟨hA,wf,hB⟩⟩
   have hd:decide ((i:Int)<(w.sens.length:Int))=true:=decide_eq_true (by omega)
   have hw:=adL hi hvs
   obtain⟨k0,k1⟩:=hIx x (adJ hx)
   have hrr:=aPV (l:=l) (k:=x) (by omega)
   have hss:=aA3 k1
   have h0':(0≤x)=True:=eq_true k0
   have hS:=aO6 (sAt m x) w (rAt l x)
   generalize hq:aw5 (sAt m x) w (rAt l x)=q at hS
   generalize sAt m x=s at hss hS
   (have hb:=trivial;with_reducible repeat' (first|simp only[hb,Vc.down,seval,aFP.down,h1,h2,h7,h8,h20,h21,h22,hd,hx,hw,hrr,hss,h0',hA,hB,hS,iv,ad1.cells,aa9]|refine fsp ?_ ?_<;>intro hb|refine fd ?_|fail))
   all_goals (refine adW (kJ _ _ (if q=true then IntKind.i64.wrap (c+1)else c) ⟨?_,?_,?_,?_,?_,?_,?_,?_,?_,?_,?_,?_,⟨hA,wf,hB⟩⟩ ?_);(simp[up,h1]);(simp[up,h2]);(simp[up,h12]);(simp[up,h13]);(simp[up,h14]);(simp[up,h5]);(simp[up,h6]);(simp[up,h7]);(simp[up,h20]);(simp[up,h21]);(simp[up]);(simp[up,h8,hb]);(simp[aDR,hq]))
  ·exact⟨by simp[up,ent,h1,h2,h12,h13,h14,h5,hLe],by simp[up,ent,h1,h2,h12,h13,h14,h5,hLe],by simp[up,ent,h1,h2,h12,h13,h14,h5,hLe],by simp[up,ent,h1,h2,h12,h13,h14,h5,hLe],by simp[up,ent,h1,h2,h12,h13,h14,h5,hLe],by simp[up,ent,h1,h2,h12,h13,h14,h5,hLe],by simp[up,ent,h1,h2,h12,h13,h14,h5,hLe],by simp[up,ent,h1,h2,h12,h13,h14,h5,hLe],by simp[up,ent,h1,h2,h12,h13,h14,h5,hLe],by simp[up,ent,h1,h2,h12,h13,h14,h5,hLe],by simp[up],by simp[up,ent,h1,h2,h12,h13,h14,h5,hLe],⟨hA1 _,true,by rw[hLe];simp⟩⟩
  ·obtain⟨rfl,h1,h2,h12,h13,h14,h5,h6,h7,h8,hA,wf,hB⟩:=hk
   have hy:decide (w.need≤aDR m w l w.sens 0)=aON m l w:=rfl
   (have hb:=trivial;with_reducible repeat' (first|simp only[hb,Vc.down,seval,aFP.down,h1,h2,h12,h13,h14,h5,h6,h7,h8,hA,hB,hw,hy,aNQ]|refine fsp ?_ ?_<;>intro hb|refine fd ?_|fail))
   all_goals (refine adW (kJ _ _ (k+1,(if aON m l w=true then orN b (aSM k)else b)) ⟨?_,?_,?_,?_,?_,?_,⟨hA,rfl⟩⟩ ?_);(simp[up,h1]);(simp[up,h2]);(simp[up,h12]);(simp[up,h13]);(simp[up]);(simp[up,h5,hb]);(simp[axF]))
 ·exact⟨by simp[up,ent],by simp[up,ent],by simp[up,ent],by simp[up,ent],by simp[up],by simp[up,ent],⟨rfl,rfl⟩⟩
 obtain⟨rfl,h5⟩:=hk
 (have hb:=trivial;with_reducible repeat' (first|simp only[hb,Vc.down,seval,aFP.down,h5]|refine fsp ?_ ?_<;>intro hb|refine fd ?_|fail))
def axG(b v:Int):Bool:=baG (a7N b v.toNat)==1
theorem aUL(a b:Bool):avL Try.prog .neq 4 (.bool a) (.bool b)=some (.bool (!(a==b))):=by cases a<;>cases b<;>kernel_rfl
structure awC where
 frm:Int
 to:Int
 nn:Bool
 wants:List acI
 cmd:Int
 after:Int
 st:Int
 ag:Int
 bits:Int
 com:Int
theorem aTL(n:awC):om'.call (.fn 92) [.agg [.int .i64 n.frm,.int .i64 n.to,slv 2 true n.nn (n.wants.map acI.cells),.int .i64 n.cmd,.int .i64 n.after,.int .i64 n.st,.int .i64 n.ag,.int .i64 n.bits,.int .i64 n.com]] []=some (.ret (.bool (n.frm==n.st)),[]):=by
 (refine ce Try.func92 ?_;simp only[Try.f92];(have hb:=trivial;with_reducible repeat' (first|simp only[hb,Vc.down,seval,bfY.down]|refine fsp ?_ ?_<;>intro hb|refine fd ?_|fail)))
theorem a00(n:awC):om'.call (.fn 93) [.agg [.int .i64 n.frm,.int .i64 n.to,slv 2 true n.nn (n.wants.map acI.cells),.int .i64 n.cmd,.int .i64 n.after,.int .i64 n.st,.int .i64 n.ag,.int .i64 n.bits,.int .i64 n.com]] []=some (.ret (.bool (decide (n.after≤n.ag))),[]):=by
 (refine ce Try.func93 ?_;simp only[Try.f93];(have hb:=trivial;with_reducible repeat' (first|simp only[hb,Vc.down,seval,be0.down]|refine fsp ?_ ?_<;>intro hb|refine fd ?_|fail)))
theorem aUG(n:awC):om'.call (.fn 95) [.agg [.int .i64 n.frm,.int .i64 n.to,slv 2 true n.nn (n.wants.map acI.cells),.int .i64 n.cmd,.int .i64 n.after,.int .i64 n.st,.int .i64 n.ag,.int .i64 n.bits,.int .i64 n.com]] []=some (.ret (.bool (n.cmd== -1||n.cmd==n.com)),[]):=by
 (refine ce Try.func95 ?_;simp only[Try.f95];(have hb:=trivial;with_reducible repeat' (first|simp only[hb,Vc.down,seval,bgX.down]|refine fsp ?_ ?_<;>intro hb|refine fd ?_|fail)))
 all_goals simp_all
theorem aG1(n:awC)(w:acI)(h0:0≤w.vote):om'.call (.fn 99) [.agg [.int .i64 w.vote,.bool w.is],.ptr 0 0 0] [.live 9 false false [[.int .i64 n.frm,.int .i64 n.to,slv 2 true n.nn (n.wants.map acI.cells),.int .i64 n.cmd,.int .i64 n.after,.int .i64 n.st,.int .i64 n.ag,.int .i64 n.bits,.int .i64 n.com]]]=some (.ret (.bool (!(axG n.bits w.vote==w.is))),[.live 9 false false [[.int .i64 n.frm,.int .i64 n.to,slv 2 true n.nn (n.wants.map acI.cells),.int .i64 n.cmd,.int .i64 n.after,.int .i64 n.st,.int .i64 n.ag,.int .i64 n.bits,.int .i64 n.com]]]):=by
 obtain⟨v,is⟩:=w
 obtain⟨k,hk⟩:∃k:Nat,v=k:=⟨v.toNat,by simp at h0;omega⟩
 subst hk
 (refine ce Try.func99 ?_;simp only[Try.f99];(have hb:=trivial;with_reducible repeat' (first|simp only[hb,Vc.down,seval,beU.down,aUL]|refine fsp ?_ ?_<;>intro hb|refine fd ?_|fail)))
 all_goals simp[axG]
theorem aEM{l:List acI}{nn:Bool}{g:Nat}{ndq:awC}{p:acI→Bool}(hp:∀x∈l,om'.call (.fn g) (.agg [.int .i64 x.vote,.bool x.is]::[.ptr 0 0 0]) [.live 9 false false [[.int .i64 ndq.frm,.int .i64 ndq.to,slv 2 true ndq.nn (ndq.wants.map acI.cells),.int .i64 ndq.cmd,.int .i64 ndq.after,.int .i64 ndq.st,.int .i64 ndq.ag,.int .i64 ndq.bits,.int .i64 ndq.com]]]=some (.ret (.bool (p x)),[.live 9 false false [[.int .i64 ndq.frm,.int .i64 ndq.to,slv 2 true ndq.nn (ndq.wants.map acI.cells),.int .i64 ndq.cmd,.int .i64 ndq.after,.int .i64 ndq.st,.int .i64 ndq.ag,.int .i64 ndq.bits,.int .i64 ndq.com]]]))(hl:l.length≤maxLen)(hgm:om'.md g=false:=by exact rfl):
 om'.call (.fn 98) [slv 2 true nn (l.map acI.cells),.func (.func g) [] [.ptr 0 0 0]] [.live 9 false false [[.int .i64 ndq.frm,.int .i64 ndq.to,slv 2 true ndq.nn (ndq.wants.map acI.cells),.int .i64 ndq.cmd,.int .i64 ndq.after,.int .i64 ndq.st,.int .i64 ndq.ag,.int .i64 ndq.bits,.int .i64 ndq.com]]]=some (.ret (.int .i64 (idx p l 0)),[.live 9 false false [[.int .i64 ndq.frm,.int .i64 ndq.to,slv 2 true ndq.nn (ndq.wants.map acI.cells),.int .i64 ndq.cmd,.int .i64 ndq.after,.int .i64 ndq.st,.int .i64 ndq.ag,.int .i64 ndq.bits,.int .i64 ndq.com]]]):=by
 (refine ce Try.func98 ?_;simp only[Try.f98];(have hb:=trivial;with_reducible repeat' (first|simp only[hb,Vc.down,seval,aAN.down,aa9]|refine fsp ?_ ?_<;>intro hb|refine fd ?_|fail)))
 refine ahX (lst 19 l (fun i (s:Int) t h=>s=i∧h=[.live 9 false false [[.int .i64 ndq.frm,.int .i64 ndq.to,slv 2 true ndq.nn (ndq.wants.map acI.cells),.int .i64 ndq.cmd,.int .i64 ndq.after,.int .i64 ndq.st,.int .i64 ndq.ag,.int .i64 ndq.bits,.int .i64 ndq.com]]]∧t 0=slv 2 true nn (l.map acI.cells)∧t 1=.func (.func g) [] [.ptr 0 0 0]∧t 7=.int .i64 l.length∧t 8=.int .i64 i)
  (fun rest s=>idx p rest s) (fun r e t h=>h=[.live 9 false false [[.int .i64 ndq.frm,.int .i64 ndq.to,slv 2 true ndq.nn (ndq.wants.map acI.cells),.int .i64 ndq.cmd,.int .i64 ndq.after,.int .i64 ndq.st,.int .i64 ndq.ag,.int .i64 ndq.bits,.int .i64 ndq.com]]]∧((e=.exit 0∧r= -1)∨(e=.ret∧t 4=.int .i64 r))) ?_ ?_ 0 _ _ ?_) (fun e t h hk=>?_)
 ·rintro s t h Q' kQ ⟨rfl,rfl,h0,h1,h7,h8⟩
  (have hb:=trivial;with_reducible repeat' (first|simp only[hb,Vc.down,seval,aAN.down,h0,h1,h7,h8,adE,decide_false]|refine fsp ?_ ?_<;>intro hb|refine fd ?_|fail))
  exact kQ _ _ _ ⟨rfl,.inl ⟨rfl,rfl⟩⟩
 ·rintro x rest i s t h J Q' kJ kQ hx hi ⟨rfl,rfl,h0,h1,h7,h8⟩
  have hgm2:=hgm
  simp only[aB2,au3,awE,awM]at hgm2
  have hpx:=hp x (adJ hx)
  have hd:decide ((i:Int)<(l.length:Int))=true:=by simpa using hi
  (have hb:=trivial;with_reducible repeat' (first|simp only[hb,Vc.down,seval,aAN.down,h0,h1,h7,h8,hd,hx,acI.cells,hpx,hgm2,adL hi hl]|refine fsp ?_ ?_<;>intro hb|refine fd ?_|fail))
  ·exact kQ _ _ _ ⟨rfl,.inr ⟨rfl,by simp[up,idx,hb]⟩⟩
  ·exact adW (kJ _ _ (i+1) ⟨by simp,rfl,by simp[up,h0],by simp[up,h1],by simp[up,h7],by simp[up]⟩ (by simp[idx,hb]))
 ·exact⟨rfl,rfl,by simp[up,ent],by simp[up,ent],by simp[up],by simp[up]⟩
 ·obtain⟨rfl,⟨rfl,hi⟩|⟨rfl,hi⟩⟩:=hk
  ·(have hb:=trivial;with_reducible repeat' (first|simp only[hb,Vc.down,seval,aAN.down]|refine fsp ?_ ?_<;>intro hb|refine fd ?_|fail))
   rw[hi]
  ·(have hb:=trivial;with_reducible repeat' (first|simp only[hb,Vc.down,seval,aAN.down,hi]|refine fsp ?_ ?_<;>intro hb|refine fd ?_|fail))
theorem aB7{l:List acI}{nn:Bool}{g:Nat}{ndq:awC}{p:acI→Bool}(hp:∀x∈l,om'.call (.fn g) (.agg [.int .i64 x.vote,.bool x.is]::[.ptr 0 0 0]) [.live 9 false false [[.int .i64 ndq.frm,.int .i64 ndq.to,slv 2 true ndq.nn (ndq.wants.map acI.cells),.int .i64 ndq.cmd,.int .i64 ndq.after,.int .i64 ndq.st,.int .i64 ndq.ag,.int .i64 ndq.bits,.int .i64 ndq.com]]]=some (.ret (.bool (p x)),[.live 9 false false [[.int .i64 ndq.frm,.int .i64 ndq.to,slv 2 true ndq.nn (ndq.wants.map acI.cells),.int .i64 ndq.cmd,.int .i64 ndq.after,.int .i64 ndq.st,.int .i64 ndq.ag,.int .i64 ndq.bits,.int .i64 ndq.com]]]))(hl:l.length≤maxLen)(hgm:om'.md g=false:=by exact rfl):
 om'.call (.fn 89) [slv 2 true nn (l.map acI.cells),.func (.func g) [] [.ptr 0 0 0]] [.live 9 false false [[.int .i64 ndq.frm,.int .i64 ndq.to,slv 2 true ndq.nn (ndq.wants.map acI.cells),.int .i64 ndq.cmd,.int .i64 ndq.after,.int .i64 ndq.st,.int .i64 ndq.ag,.int .i64 ndq.bits,.int .i64 ndq.com]]]=some (.ret (.bool (l.any p)),[.live 9 false false [[.int .i64 ndq.frm,.int .i64 ndq.to,slv 2 true ndq.nn (ndq.wants.map acI.cells),.int .i64 ndq.cmd,.int .i64 ndq.after,.int .i64 ndq.st,.int .i64 ndq.ag,.int .i64 ndq.bits,.int .i64 ndq.com]]]):=by
 (refine ce Try.func89 ?_;simp only[Try.f89];(have hb:=trivial;with_reducible repeat' (first|simp only[hb,Vc.down,seval,aEM hp hl hgm,awG p l 0 (ajS 0)]|refine fsp ?_ ?_<;>intro hb|refine fd ?_|fail)))
def aBJ(bits:Int)(l:List acI):Bool:=l.all fun w=>axG bits w.vote==w.is
theorem aLG(n:awC)(hl:n.wants.length≤maxLen)(h0:∀w∈n.wants,0≤w.vote):om'.call (.fn 94) [.agg [.int .i64 n.frm,.int .i64 n.to,slv 2 true n.nn (n.wants.map acI.cells),.int .i64 n.cmd,.int .i64 n.after,.int .i64 n.st,.int .i64 n.ag,.int .i64 n.bits,.int .i64 n.com]] []=some (.ret (.bool (aBJ n.bits n.wants)),[]):=by
 have hc:=aB7 (ndq:=n) (l:=n.wants) (nn:=n.nn) (g:=99) (p:=fun w=> !(axG n.bits w.vote==w.is)) (fun w hw=>aG1 n w (h0 w hw)) hl
 have q1:aBJ n.bits n.wants= !(n.wants.any fun w=> !(axG n.bits w.vote==w.is)):=List.all_eq_not_any_not
 (refine ce Try.func94 ?_;simp only[Try.f94];(have hb:=trivial;with_reducible repeat' (first|simp only[hb,Vc.down,seval,bgJ.down,hc]|refine fsp ?_ ?_<;>intro hb|refine fd ?_|fail)))
 all_goals simp[q1]
theorem a24(f0 f1 f2 f3:Fn)(a0 a1 a2 a3 c0 c1 c2 c3:List AV):ayD Try.prog 155 [(0,.func f0 a0 c0),(1,.func f1 a1 c1),(2,.func f2 a2 c2),(3,.func f3 a3 c3)]=some (.agg [.func f0 a0 c0,.func f1 a1 c1,.func f2 a2 c2,.func f3 a3 c3]):=by kernel_rfl
theorem aSG(a b c d:AV):ayG Try.prog 155 (.agg [a,b,c,d]) (.int .i64 0)=some a:=by kernel_rfl
theorem aP9(a b c d:AV):ayG Try.prog 155 (.agg [a,b,c,d]) (.int .i64 1)=some b:=by kernel_rfl
theorem aSK(a b c d:AV):ayG Try.prog 155 (.agg [a,b,c,d]) (.int .i64 2)=some c:=by kernel_rfl
theorem aQ0(a b c d:AV):ayG Try.prog 155 (.agg [a,b,c,d]) (.int .i64 3)=some d:=by kernel_rfl
def aO4(n:awC):Bool:=(n.frm==n.st)&&decide (n.after≤n.ag)&&aBJ n.bits n.wants&&(n.cmd== -1||n.cmd==n.com)
theorem w2:IntKind.i64.wrap 2=2:=arP rfl rfl
theorem w3:IntKind.i64.wrap 3=3:=arP rfl rfl
theorem w4:IntKind.i64.wrap 4=4:=arP rfl rfl
theorem aG2(n:awC)(hl:n.wants.length≤maxLen)(h0:∀w∈n.wants,0≤w.vote):om'.call (.fn 75) [.agg [.int .i64 n.frm,.int .i64 n.to,slv 2 true n.nn (n.wants.map acI.cells),.int .i64 n.cmd,.int .i64 n.after,.int .i64 n.st,.int .i64 n.ag,.int .i64 n.bits,.int .i64 n.com]] []=some (.ret (.bool (aO4 n)),[]):=by
 have q1:=aTL n
 have q2:=a00 n
 have q3:=aLG n hl h0
 have q4:=aUG n
 (refine ce Try.func75 ?_;simp only[Try.f75];(have hb:=trivial;with_reducible repeat' (first|simp only[hb,Vc.down,seval,a6G.down,a24,aSG,aP9,aSK,aQ0,q1,q2,q3,q4,w2,w3,w4]|refine fsp ?_ ?_<;>intro hb|refine fd ?_|fail)))
 (have hb:=trivial;with_reducible repeat' (first|simp only[hb,Vc.down,seval,a6G.down,a24,aSG,aP9,aSK,aQ0,q1,q2,q3,q4,w2,w3,w4]|refine fsp ?_ ?_<;>intro hb|refine fd ?_|refine bcK ?_|fail))
 all_goals (refine congrArg (fun b=>(Out.ret (AV.bool b),([]:aaL))) ?_;symm;((try simp only[awY,aeU,aiZ]at *);simp only[aO4, *,as6,akQ,at6,ajP,ayB,ayC,aeU,aiZ,ayE,ayR]))
def nd(x:ac4)(st ag bits com:Int):awC:=⟨x.frm,x.to,x.nn,x.wants,x.cmd,x.after,st,ag,bits,com⟩
def aL0(a:Int):Int:=if IntKind.i64.wrap (a+1)<10 then IntKind.i64.wrap (a+1)else 10
def axD(st ag bits com:Int):List ac4→Int × Int
 | []=>(st,aL0 ag)
 |x::l=>if aO4 (nd x st ag bits com)=true then(x.to,0)else axD st ag bits com l
theorem aPC(m:aaW)(st ag bits com:Int)(hs:m.small)(h0:∀x∈m.moves,∀w∈x.wants,0≤w.vote):
 om'.call (.fn 45) [.agg [slv 3 true m.nS (m.sens.map ad1.cells),slv 4 false m.nV (m.votes.map abT.cells),slv 5 false m.nM (m.moves.map ac4.cells),.int .i64 m.states,.int .i64 m.cmds,.int .i64 m.bgn,slv 1 true m.nO (m.opn.map iv)],.agg [.int .i64 st,.int .i64 ag],.agg [.int .i64 bits,.int .i64 com]] []=some (.ret (.agg [.int .i64 (axD st ag bits com m.moves).1,.int .i64 (axD st ag bits com m.moves).2]),[]):=by
 (refine ce Try.func45 ?_;simp only[Try.f45];(have hb:=trivial;with_reducible repeat' (first|simp only[hb,Vc.down,seval,aL5.down,aa9]|refine fsp ?_ ?_<;>intro hb|refine fd ?_|fail)))
 refine ahX (lst 32 m.moves (fun i (zz:Unit) t h=>t 4=.ptr 1 0 0∧t 5=.ptr 2 0 0∧t 6=.ptr 3 0 0∧t 10=slv 5 false m.nM (m.moves.map ac4.cells)∧t 11=.int .i64 m.moves.length∧t 12=.int .i64 i∧(h[1]?=some (.live 2 true false [[.int .i64 st,.int .i64 ag]])∧h[2]?=some (.live 2 true false [[.int .i64 bits,.int .i64 com]])∧h[3]?=some (.live 2 true false [[.int .i64 0,.int .i64 0]]))) (fun rest zz=>axD st ag bits com rest) (fun r e t h=>(e=.exit 0∧t 4=.ptr 1 0 0∧t 6=.ptr 3 0 0∧h[1]?=some (.live 2 true false [[.int .i64 st,.int .i64 ag]])∧h[3]?=some (.live 2 true false [[.int .i64 0,.int .i64 0]])∧r=(st,aL0 ag))∨(e=.ret∧t 6=.ptr 3 0 0∧h[3]?=some (.live 2 true true [[.int .i64 r.1,.int .i64 r.2]]))) ?_ ?_ () _ _ ?_) (fun e t h hk=>?_)
 ·rintro _ t h Q' kQ ⟨h4,h5,h6,h10,h11,h12,⟨hA,hB,hC⟩⟩
  (have hb:=trivial;with_reducible repeat' (first|simp only[hb,Vc.down,seval,aL5.down,h4,h5,h6,h10,h11,h12,adE,decide_false]|refine fsp ?_ ?_<;>intro hb|refine fd ?_|fail))
  exact kQ _ _ _ (.inl ⟨rfl,by simp[up,h4],by simp[up,h6],hA,hC,rfl⟩)
 ·rintro x rest i _ t h J Q' kJ kQ hx hi ⟨h4,h5,h6,h10,h11,h12,⟨hA,hB,hC⟩⟩
  have hd:decide ((i:Int)<(m.moves.length:Int))=true:=decide_eq_true (by omega)
  have hw:=adL hi hs.moves
  have hA1:=aaO hA
  have hB1:=aaO hB
  have hC1:=aaO hC
  have hap:=aG2 (nd x st ag bits com) (hs.ws x (adJ hx)) (h0 x (adJ hx))
  have h3l:3<h.length:=(ayS.1 hC).1
  generalize hq:aO4 (nd x st ag bits com)=q at hap
  simp only[nd]at hap
  (have hb:=trivial;with_reducible repeat' (first|simp only[hb,Vc.down,seval,aL5.down,h4,h5,h6,h10,h11,h12,hd,hx,hw,hA1,hB1,hC1,hap,ac4.cells,aa9]|refine fsp ?_ ?_<;>intro hb|refine fd ?_|fail))
  ·exact kQ _ _ _ (.inr ⟨rfl,by simp[up,h6],by rw[ayY (by simp;omega)];simp[axD,hq,hb]⟩)
  ·(refine adW (kJ _ _ () ⟨?_,?_,?_,?_,?_,?_,⟨hA1 _,hB1 _,hC1 _⟩⟩ ?_);(simp[up,h4]);(simp[up,h5]);(simp[up,h6]);(simp[up,h10]);(simp[up,h11]);(simp[up]);(simp[axD,hq,hb]))
 ·exact⟨by simp[up,ent],by simp[up,ent],by simp[up,ent],by simp[up,ent],by simp[up,ent],by simp[up],⟨rfl,rfl,rfl⟩⟩
 rcases hk with⟨rfl,h4,h6,hA,hC,hr⟩|⟨rfl,h6,hC⟩
 ·have hA1:=aaO hA
  have hC1:=aaO hC
  have h3l:3<h.length:=(ayS.1 hC).1
  have hset:∀c:CB,(h.set 3 c)[3]?=some c:=fun c=>ayY h3l
  have hmt:(if IntKind.i64.wrap (ag+1)<10 then IntKind.i64.wrap (ag+1)else 10)=aL0 ag:=rfl
  rw[hr]
  (have hb:=trivial;with_reducible repeat' (first|simp only[hb,Vc.down,seval,aL5.down,h4,h6,hA,hC,hA1,hC1,hset,hmt]|refine fsp ?_ ?_<;>intro hb|refine fd ?_|fail))
 ·(have hb:=trivial;with_reducible repeat' (first|simp only[hb,Vc.down,seval,aL5.down,h6,hC]|refine fsp ?_ ?_<;>intro hb|refine fd ?_|fail))
theorem aRK{α:Type}{d:List AV→Option α}{f:α→List AV}(hd:∀cs x,d cs=some x→cs=f x):∀{rows:List (List AV)} {l:List α},ad0 d rows=some l→rows=l.map f
 | [],l,h=>by simp[ad0]at h;subst h;rfl
 |r::rows,l,h=>by
  simp only[ad0,alW,am1]at h
  obtain⟨x,h1,l',h2,rfl⟩:=h
  rw[hd r x h1,aRK hd h2];rfl
def dSl{α:Type}(n:Nat)(fl:Bool)(d:List AV→Option α):AV→Option (Bool × List α)
 | .nils=>some (false,[])
 | .imm n' fl' rows=>if n'=n∧fl'=fl then(ad0 d rows).map fun l=>(true,l)else none
 |_=>none
theorem aEA{α:Type}{n:Nat}{fl:Bool}{d:List AV→Option α}{f:α→List AV}(hd:∀cs x,d cs=some x→cs=f x){v:AV}{x:Bool × List α}(h:dSl n fl d v=some x):v=slv n fl x.1 (x.2.map f):=by
 unfold dSl at h
 split at h
 ·cases h;rfl
 ·split at h
  ·rename_i hq
   obtain⟨rfl,rfl⟩:=hq
   obtain⟨l,h1,rfl⟩:=am1.1 h
   rw[aRK hd h1]
   cases l<;>rfl
  ·cases h
 ·cases h
def a4F:List AV→Option Int
 | [.int .i64 a]=>some a
 |_=>none
theorem aOB(cs:List AV)(x:Int)(h:a4F cs=some x):cs=iv x:=by
 unfold a4F at h
 split at h
 ·cases h;rfl
 ·cases h
def ba4:List AV→Option ad1
 | [.int .i64 a,.int .i64 b,.bool c]=>some ⟨a,b,c⟩
 |_=>none
theorem a7X(cs:List AV)(x:ad1)(h:ba4 cs=some x):cs=x.cells:=by
 unfold ba4 at h
 split at h
 ·cases h;rfl
 ·cases h
def a2U:List AV→Option abT
 | [l,.int .i64 a,.int .i64 b,.bool c]=>(dSl 1 true a4F l).map fun x=>⟨x.1,x.2,a,b,c⟩
 |_=>none
theorem a21(cs:List AV)(x:abT)(h:a2U cs=some x):cs=x.cells:=by
 unfold a2U at h
 split at h
 ·obtain⟨y,h1,rfl⟩:=am1.1 h
  rw[aEA aOB h1];rfl
 ·cases h
def a2B:List AV→Option acI
 | [.int .i64 a,.bool c]=>some ⟨a,c⟩
 |_=>none
theorem a25(cs:List AV)(x:acI)(h:a2B cs=some x):cs=x.cells:=by
 unfold a2B at h
 split at h
 ·cases h;rfl
 ·cases h
def a47:List AV→Option ac4
 | [.int .i64 a,.int .i64 b,l,.int .i64 c,.int .i64 d]=>(dSl 2 true a2B l).map fun x=>⟨a,b,x.1,x.2,c,d⟩
 |_=>none
theorem a0Y(cs:List AV)(x:ac4)(h:a47 cs=some x):cs=x.cells:=by
 unfold a47 at h
 split at h
 ·obtain⟨y,h1,rfl⟩:=am1.1 h
  rw[aEA a25 h1];rfl
 ·cases h
def aP0:List AV→Option aaW
 | [s,v,x,.int .i64 a,.int .i64 b,.int .i64 c,o]=>(dSl 3 true ba4 s).bind fun s=>(dSl 4 false a2U v).bind fun v=>(dSl 5 false a47 x).bind fun x=>(dSl 1 true a4F o).map fun o=>⟨s.1,s.2,v.1,v.2,x.1,x.2,a,b,c,o.1,o.2⟩
 |_=>none
theorem aJV(cs:List AV)(x:aaW)(h:aP0 cs=some x):cs=x.cells:=by
 unfold aP0 at h
 split at h
 ·simp only[alW,am1]at h
  obtain⟨s,h1,v,h2,y,h3,o,h4,rfl⟩:=h
  rw[aEA a7X h1,aEA a21 h2,aEA a0Y h3,aEA aOB h4]
 ·cases h
def aJO(m:aaW):Bool:=decide (m.sens.length≤1000)&&decide (m.votes.length≤1000)&&decide (m.moves.length≤1000)&&decide (m.opn.length≤1000)&&m.votes.all (fun v=>decide (v.sens.length≤1000))&&m.moves.all (fun x=>decide (x.wants.length≤1000))
theorem aHQ{m:aaW}(h:aJO m=true):m.small:=by
 simp only[aJO,ayU,decide_eq_true_eq,auT]at h
 obtain⟨⟨⟨⟨⟨a,b⟩,c⟩,d⟩,e⟩,f⟩:=h
 exact⟨by unfold maxLen;omega,by unfold maxLen;omega,by unfold maxLen;omega,by unfold maxLen;omega,fun v hv=>by have:=e v hv;unfold maxLen;omega,fun v hv=>by have:=f v hv;unfold maxLen;omega⟩
def a44:List AV→aaL→Option (Out × aaL)
 | [.agg cs],[]=>(aP0 cs).bind fun m=>if aJO m=true then some (.ret (.bool (adZ m)),[])else none
 |_,_=>none
def a9N:List AV→aaL→Option (Out × aaL)
 | [.agg cs,.agg [.int .i64 st,.int .i64 ag],.agg [.int .i64 bits,.int .i64 com]],[]=>(aP0 cs).bind fun m=>if(aJO m&&m.moves.all fun x=>x.wants.all fun w=>decide (0≤w.vote))=true then
     (match axD st ag bits com m.moves with
       |(a,b)=>some (.ret (.agg [.int .i64 a,.int .i64 b]),[]))else none
 |_,_=>none
def a1U:List AV→aaL→Option (Out × aaL)
 | [.agg cs,l],[]=>(aP0 cs).bind fun m=>(dSl 1 true a4F l).bind fun l=>if(aJO m&&decide (l.2.length=m.sens.length)&&m.votes.all fun v=>v.sens.all fun k=>decide (0≤k)&&decide (k.toNat<m.sens.length))=true then
     some (.ret (.int .i64 (axF m l.2 m.votes 0 0)),[])else none
 |_,_=>none
def pr2:auV:={ pr with at_:=fun f=>if f=42 then some a44 else if f=45 then some a9N else if f=46 then some a1U else pr f }
theorem a9F(f:Nat)(h:pr2 f=none):pr f=none:=by
 simp only[pr2]at h
 split at h
 ·cases h
 ·split at h
  ·cases h
  ·split at h
   ·cases h
   ·exact h
theorem aRH{tab:List Ent}(f:Nat)(h:aF4 pr2 tab f=none):pr f=none:=by
 simp only[aF4]at h
 split at h
 ·cases h
 ·exact a9F f h
theorem aGK:∀f p,pr2 f=some p→∀a h r,p a h=some r→om'.call (.fn f) a h=some r:=by
 intro f p hp a h r hr
 simp only[pr2]at hp
 split at hp
 ·rename_i hf
  subst hf
  cases hp
  unfold a44 at hr
  split at hr
  ·rename_i cs
   obtain⟨s,h1,h2⟩:=alW.1 hr
   split at h2
   ·rename_i hs
    cases h2
    rw[aJV _ _ h1]
    exact aFV s (aHQ hs)
   ·cases h2
  ·cases hr
 ·split at hp
  ·rename_i hf
   subst hf
   cases hp
   unfold a9N at hr
   split at hr
   ·rename_i cs st ag bits com
    obtain⟨s,h1,h2⟩:=alW.1 hr
    split at h2
    ·rename_i hs
     simp only[ayU,auT,decide_eq_true_eq]at hs
     cases h2
     rw[aJV _ _ h1]
     exact aPC s st ag bits com (aHQ hs.1) hs.2
    ·cases h2
   ·cases hr
  ·split at hp
   ·rename_i hf
    subst hf
    cases hp
    unfold a1U at hr
    split at hr
    ·rename_i cs l
     simp only[alW]at hr
     obtain⟨s,h1,y,h2,h3⟩:=hr
     split at h3
     ·rename_i hs
      simp only[ayU,auT,decide_eq_true_eq]at hs
      cases h3
      rw[aJV _ _ h1,aEA aOB h2]
      exact aFZ s hs.1.2 (aHQ hs.1.1) (fun v hv k hk=>hs.2 v hv k hk)
     ·cases h3
    ·cases hr
   ·exact aVY hp hr
def exA:AV:=.agg [.imm 3 true [[.int .i64 0,.int .i64 100,.bool false],[.int .i64 0,.int .i64 100,.bool false],[.int .i64 0,.int .i64 100,.bool false]],.imm 4 false [[.imm 1 true [[.int .i64 0],[.int .i64 1],[.int .i64 2]],.int .i64 2,.int .i64 80,.bool true]],.imm 5 false [[.int .i64 0,.int .i64 1,.imm 2 true [[.int .i64 0,.bool true]],.int .i64 (-1),.int .i64 0],[.int .i64 1,.int .i64 2,.nils,.int .i64 (-1),.int .i64 1],[.int .i64 2,.int .i64 0,.imm 2 true [[.int .i64 0,.bool false]],.int .i64 0,.int .i64 2]],.int .i64 3,.int .i64 1,.int .i64 0,.imm 1 true [[.int .i64 3],[.int .i64 1],[.int .i64 0]]]
def exS:AV:=.imm 2 true [[.int .i64 1,.int .i64 (-1)],[.int .i64 1,.int .i64 0],[.int .i64 0,.int .i64 (-1)],[.int .i64 0,.int .i64 0]]
def E0:Ent:=⟨54,[exA],(.ret (.tup [.slr 2 0 0 4,.slr 2 1 0 4]),[.live 2 false false [[.slr 1 2 0 3,.int .i64 (-1)],[.slr 1 3 0 3,.int .i64 0],[.slr 1 4 0 3,.int .i64 (-1)],[.slr 1 5 0 3,.int .i64 0]],.live 2 true false [[.int .i64 1,.int .i64 (-1)],[.int .i64 1,.int .i64 0],[.int .i64 0,.int .i64 (-1)],[.int .i64 0,.int .i64 0]],.live 1 true false [[.int .i64 (-10000)],[.int .i64 (-10000)],[.int .i64 (-10000)]],.live 1 true false [[.int .i64 (-10000)],[.int .i64 (-10000)],[.int .i64 (-10000)]],.live 1 true false [[.int .i64 (-10000)],[.int .i64 0],[.int .i64 0]],.live 1 true false [[.int .i64 (-10000)],[.int .i64 0],[.int .i64 0]]])⟩
def E1:Ent:=⟨55,[exA,exS],(.ret (.tup [.slr 2 0 0 24,.mapr 1]),[.live 2 true false [[.int .i64 0,.int .i64 0],[.int .i64 1,.int .i64 0],[.int .i64 0,.int .i64 1],[.int .i64 1,.int .i64 1],[.int .i64 0,.int .i64 2],[.int .i64 2,.int .i64 0],[.int .i64 0,.int .i64 3],[.int .i64 2,.int .i64 1],[.int .i64 0,.int .i64 4],[.int .i64 2,.int .i64 2],[.int .i64 0,.int .i64 5],[.int .i64 2,.int .i64 3],[.int .i64 0,.int .i64 6],[.int .i64 2,.int .i64 4],[.int .i64 0,.int .i64 7],[.int .i64 2,.int .i64 5],[.int .i64 0,.int .i64 8],[.int .i64 2,.int .i64 6],[.int .i64 0,.int .i64 9],[.int .i64 2,.int .i64 7],[.int .i64 0,.int .i64 10],[.int .i64 2,.int .i64 8],[.int .i64 2,.int .i64 9],[.int .i64 2,.int .i64 10]],.lp [] .skip .skip [.agg [.int .i64 0,.int .i64 0],.agg [.int .i64 0,.int .i64 0,.int .i64 (-1)],.agg [.int .i64 1,.int .i64 0],.agg [.int .i64 0,.int .i64 0,.int .i64 0],.agg [.int .i64 0,.int .i64 1],.agg [.int .i64 0,.int .i64 0,.int .i64 2],.agg [.int .i64 1,.int .i64 1],.agg [.int .i64 1,.int .i64 0,.int .i64 0],.agg [.int .i64 0,.int .i64 2],.agg [.int .i64 0,.int .i64 1,.int .i64 2],.agg [.int .i64 2,.int .i64 0],.agg [.int .i64 1,.int .i64 1,.int .i64 0],.agg [.int .i64 0,.int .i64 3],.agg [.int .i64 0,.int .i64 2,.int .i64 2],.agg [.int .i64 2,.int .i64 1],.agg [.int .i64 2,.int .i64 0,.int .i64 0],.agg [.int .i64 0,.int .i64 4],.agg [.int .i64 0,.int .i64 3,.int .i64 2],.agg [.int .i64 2,.int .i64 2],.agg [.int .i64 2,.int .i64 1,.int .i64 0],.agg [.int .i64 0,.int .i64 5],.agg [.int .i64 0,.int .i64 4,.int .i64 2],.agg [.int .i64 2,.int .i64 3],.agg [.int .i64 2,.int .i64 2,.int .i64 0],.agg [.int .i64 0,.int .i64 6],.agg [.int .i64 0,.int .i64 5,.int .i64 2],.agg [.int .i64 2,.int .i64 4],.agg [.int .i64 2,.int .i64 3,.int .i64 0],.agg [.int .i64 0,.int .i64 7],.agg [.int .i64 0,.int .i64 6,.int .i64 2],.agg [.int .i64 2,.int .i64 5],.agg [.int .i64 2,.int .i64 4,.int .i64 0],.agg [.int .i64 0,.int .i64 8],.agg [.int .i64 0,.int .i64 7,.int .i64 2],.agg [.int .i64 2,.int .i64 6],.agg [.int .i64 2,.int .i64 5,.int .i64 0],.agg [.int .i64 0,.int .i64 9],.agg [.int .i64 0,.int .i64 8,.int .i64 2],.agg [.int .i64 2,.int .i64 7],.agg [.int .i64 2,.int .i64 6,.int .i64 0],.agg [.int .i64 0,.int .i64 10],.agg [.int .i64 0,.int .i64 9,.int .i64 2],.agg [.int .i64 2,.int .i64 8],.agg [.int .i64 2,.int .i64 7,.int .i64 0],.agg [.int .i64 2,.int .i64 9],.agg [.int .i64 2,.int .i64 8,.int .i64 0],.agg [.int .i64 2,.int .i64 10],.agg [.int .i64 2,.int .i64 9,.int .i64 0]] .map])⟩
def E2:Ent:=⟨30,[exA,.int .i64 2],(.ret (.tup [.slr 2 0 0 3,.int .i64 0]),[.live 2 false true [[.slr 1 1 0 3,.int .i64 (-1)],[.slr 1 2 0 3,.int .i64 (-1)],[.slr 1 3 0 3,.int .i64 (-1)]],.live 1 true false [[.int .i64 (-10000)],[.int .i64 (-10000)],[.int .i64 (-10000)]],.live 1 true false [[.int .i64 (-10000)],[.int .i64 (-10000)],[.int .i64 (-10000)]],.live 1 true false [[.int .i64 (-10000)],[.int .i64 (-10000)],[.int .i64 (-10000)]]])⟩
def E3:Ent:=⟨21,[exA,.int .i64 0,.imm 1 true [[.int .i64 2]]],(.ret (.tup [.int .i64 3,.int .i64 0]),[])⟩
def E4:Ent:=⟨21,[exA,.int .i64 0,.imm 1 true [[.int .i64 0]]],(.ret (.tup [.int .i64 0,.int .i64 5]),[])⟩
theorem baF:(orc Try.prog pr2 400).call (.fn E0.f) E0.args []=some E0.res:=by kernel_rfl
theorem aVH:om'.call (.fn E0.f) E0.args []=some E0.res:=az2 (pr:=pr) (pr2:=pr2) rfl a9F aGK baF
def T1:auV:=aF4 pr2 [E0]
theorem bfW:∀f p,T1 f=some p→∀a h r,p a h=some r→om'.call (.fn f) a h=some r:=aCI aGK (fun e he=>by
 simp only[anK,anU,or_false]at he
 rcases he with rfl
 ·exact aVH)
theorem ba6:(orc Try.prog T1 400).call (.fn E1.f) E1.args []=some E1.res:=by kernel_rfl
theorem a13:om'.call (.fn E1.f) E1.args []=some E1.res:=az2 (pr:=pr) (pr2:=T1) rfl aRH bfW ba6
def T2:auV:=aF4 pr2 [E0,E1]
theorem beP:∀f p,T2 f=some p→∀a h r,p a h=some r→om'.call (.fn f) a h=some r:=aCI aGK (fun e he=>by
 simp only[anK,anU,or_false]at he
 rcases he with rfl|rfl
 ·exact aVH
 ·exact a13)
theorem baW:(orc Try.prog T2 400).call (.fn E2.f) E2.args []=some E2.res:=by kernel_rfl
theorem be7:om'.call (.fn E2.f) E2.args []=some E2.res:=az2 (pr:=pr) (pr2:=T2) rfl aRH beP baW
def T3:auV:=aF4 pr2 [E0,E1]
theorem bg0:∀f p,T3 f=some p→∀a h r,p a h=some r→om'.call (.fn f) a h=some r:=aCI aGK (fun e he=>by
 simp only[anK,anU,or_false]at he
 rcases he with rfl|rfl
 ·exact aVH
 ·exact a13)
theorem bdX:(orc Try.prog T3 400).call (.fn E3.f) E3.args []=some E3.res:=by kernel_rfl
theorem bfN:om'.call (.fn E3.f) E3.args []=some E3.res:=az2 (pr:=pr) (pr2:=T3) rfl aRH bg0 bdX
def T4:auV:=aF4 pr2 [E0,E1]
theorem bgQ:∀f p,T4 f=some p→∀a h r,p a h=some r→om'.call (.fn f) a h=some r:=aCI aGK (fun e he=>by
 simp only[anK,anU,or_false]at he
 rcases he with rfl|rfl
 ·exact aVH
 ·exact a13)
theorem baC:(orc Try.prog T4 400).call (.fn E4.f) E4.args []=some E4.res:=by kernel_rfl
theorem bgP:om'.call (.fn E4.f) E4.args []=some E4.res:=az2 (pr:=pr) (pr2:=T4) rfl aRH bgQ baC
def TK:auV:=aF4 pr2 [E2,E3,E4]
theorem beL:∀f p,TK f=some p→∀a h r,p a h=some r→om'.call (.fn f) a h=some r:=aCI aGK (fun e he=>by
 simp only[anK,anU,or_false]at he
 rcases he with rfl|rfl|rfl
 ·exact be7
 ·exact bfN
 ·exact bgP)
theorem aX8:(orc Try.prog TK 400).call (.fn 13) [] []=some (.ret (.bool true),[]):=by kernel_rfl
theorem known_ok:om'.call (.fn 13) [] []=some (.ret (.bool true),[]):=az2 (pr:=pr) (pr2:=TK) rfl aRH beL aX8
end Go.Proofs.Ytfkokgjfpojeoaa.Ko
namespace Go.Proofs.Ytfkokgjfpojeoaa
open Go Go.Ev Go.ChangeShapes Go.WideShapes Go.ChangeAt Go.RowKit
set_option maxRecDepth 100000
set_option maxHeartbeats 16000000
def mdL:List Nat:=[96,83,78,56,54,55,79,63,64,135,136,39,67]
def aPG:List AV→aaL→Option (Out × aaL)
 | [],[]=>some (.ret (.bool true),[])
 |_,_=>none
theorem aUH:aPM Try.prog (fun _=>none) 13 aPG:=fun args h out h' hp=>by
 unfold aPG at hp
 split at hp
 ·cases hp;exact Ko.calls_ok.1 _ _ _ _ _ Ko.known_ok
 ·cases hp
def pr:auV:={ at_:=fun f=>if f=13 then some aPG else none,md:=(mdL.contains ·),sh:=fun f=>if f=96 then some aNI else none }
noncomputable def om':Orc:=om Try.prog pr
theorem aB2(f:Nat):om'.md f=([96,83,78,56,54,55,79,63,64,135,136,39,67]:List Nat).contains f:=arP rfl rfl
def Vc:=PLift.up (And.intro EG.down (And.intro EVu.down @aB2))
theorem bcK{C:R→Prop}[NoN C]{n:Nat}{k:List adP}{c:Code}{s:St}(h:Un om' Try.prog n k c C (evM om' Try.prog 5000 c [] s)):C (lpK om' Try.prog n k (om'.loop c s)):=a9P (pr:=pr) h
theorem own:ownKnob Try.prog.godebug=none:=by kernel_rfl
theorem a76:aUB Try.prog:=fun f fn hf=>by
 have h:(Try.prog.funcs.toList.all fun fn=> !(fn.name== "runtime.NumGoroutine"))=true:=by kernel_rfl
 have:=auT.1 h fn (by rw[Array.mem_toList_iff];exact Array.mem_of_getElem? hf)
 simpa using this
theorem mixed:Try.prog.follows .mixedOrders=true:=by kernel_rfl
theorem a6Z:laidOutB Try.prog=true:=by kernel_rfl
theorem calls_ok:arS Try.prog (fun _=>none) om':=a9R a76 ⟨fun f p h=>(by
 simp only[pr]at h
 split at h
 ·rename_i e;subst e;cases h;exact aUH
 ·cases h),fun f p h=>(by
 simp only[pr]at h
 split at h
 ·rename_i e;subst e;cases h;exact a6D (aT1 a76 Try.func96 rfl) Try.slices_Sort_int
 ·cases h)⟩ mixed
theorem bbU{W:World}{S:Nat→Prop}:Inv (fun _=>none) W S:=fun b o h=>by cases h
theorem aTO{f:Nat}{fn:Func}{c:Code}{args:List AV}{h:aaL}{Q:Out→aaL→Prop}(hp:pr f=none)(hf:Try.prog.funcs[f]?=some fn)(hb:fn.body=some c)(hl:Nat.ble args.length fn.ntmps=true)
 (he:FnE Try.prog h.length fn.results.toList Q (evM om' Try.prog 5000 c [] ⟨mk fn.ntmps (ent args),h⟩)):ClQ om' f args h Q:=ClQ.start (pr:=pr) hp hf hb hl he
theorem aDP{f:Nat}{fn:Func}{c:Code}{args:List AV}{h:aaL}{Q:Out→aaL→Prop}(hp:pr f=none)(hf:Try.prog.funcs[f]?=some fn)(hb:fn.body=some c)(hl:Nat.ble args.length fn.ntmps=true)
 (he:FnS Try.prog fn.results.toList Q (evM om' Try.prog 5000 c [] ⟨mk fn.ntmps (ent args),h⟩)) (hs:pr.sh f=none:=by exact rfl):ShQ om' f args h Q:=ShQ.start (pr:=pr) hp hf hb hl he hs
theorem ce{f:Nat}{fn:Func}{c:Code}{args:List AV}{h:aaL}{o:Out}{h':aaL}(hf:Try.prog.funcs[f]?=some fn)(he:FnE Try.prog h.length fn.results.toList (fun o1 h1=>(o1,h1)=(o,h')) (evM om' Try.prog 5000 c [] ⟨mk fn.ntmps (ent args),h⟩))(hp:pr f=none:=by exact rfl)(hb:fn.body=some c:=by exact rfl)(hl:Nat.ble args.length fn.ntmps=true:=by exact rfl):om'.call (.fn f) args h=some (o,h'):=(aTO hp hf hb hl he).eq
theorem lst{α σ ρ:Type}{c:Code}(N:Nat)(l:List α)(E:Nat→σ→Tm→aaL→Prop)(F:List α→σ→ρ)(Q:ρ→Ex→Tm→aaL→Prop)
 (stop:∀s t h Q',(∀e t h,Q (F [] s) e t h→Q' e ⟨mk N t,h⟩)→E l.length s t h→Rnd N (fun _ _=>False) Q' (evM om' Try.prog 5000 c [] ⟨mk N t,h⟩))
 (go:∀x rest i s t h J Q',(∀t' h' s',E (i+1) s' t' h'→F rest s'=F (x::rest) s→J t' h')→(∀e t h,Q (F (x::rest) s) e t h→Q' e ⟨mk N t,h⟩)→l[i]?=some x→i<l.length→E i s t h→
   Rnd N J Q' (evM om' Try.prog 5000 c [] ⟨mk N t,h⟩)):
 ∀s t h,E 0 s t h→LpQ om' c ⟨mk N t,h⟩ (Ot N (Q (F l s))):=aNC (pr:=pr) rfl N l E F Q stop go
theorem cnt{σ ρ:Type}{c:Code}(N:Nat)(E:Nat→σ→Tm→aaL→Prop)(F:Nat→σ→ρ)(Q:ρ→Ex→Tm→aaL→Prop)
 (stop:∀s t h Q',(∀e t h,Q (F 0 s) e t h→Q' e ⟨mk N t,h⟩)→E 0 s t h→Rnd N (fun _ _=>False) Q' (evM om' Try.prog 5000 c [] ⟨mk N t,h⟩))
 (go:∀n s t h J Q',(∀t' h' s',E n s' t' h'→F n s'=F (n+1) s→J t' h')→(∀e t h,Q (F (n+1) s) e t h→Q' e ⟨mk N t,h⟩)→E (n+1) s t h→Rnd N J Q' (evM om' Try.prog 5000 c [] ⟨mk N t,h⟩)):
 ∀n s t h,E n s t h→LpQ om' c ⟨mk N t,h⟩ (Ot N (Q (F n s))):=a0P (pr:=pr) rfl N E F Q stop go
def iv(x:Int):List AV:=[.int .i64 x]
theorem aaO{h:aaL}{b:Nat}{c:CB}(h0:h[b]?=some c)(l:aaL):(h++l)[b]?=some c:=by
 rw[List.getElem?_append_left (ayS.1 h0).1];exact h0
end Go.Proofs.Ytfkokgjfpojeoaa
namespace Go.Proofs.Ytfkokgjfpojeoaa
open Go.Ev Go
set_option maxRecDepth 100000
set_option maxHeartbeats 16000000
structure ad1 where
 lo:Int
 hi:Int
 byp:Bool
def ad1.cells(s:ad1):List AV:=[.int .i64 s.lo,.int .i64 s.hi,.bool s.byp]
structure abT where
 nn:Bool
 sens:List Int
 need:Int
 level:Int
 above:Bool
def abT.cells(v:abT):List AV:=[slv 1 true v.nn (v.sens.map iv),.int .i64 v.need,.int .i64 v.level,.bool v.above]
structure acI where
 vote:Int
 is:Bool
def acI.cells(w:acI):List AV:=[.int .i64 w.vote,.bool w.is]
structure ac4 where
 frm:Int
 to:Int
 nn:Bool
 wants:List acI
 cmd:Int
 after:Int
def ac4.cells(x:ac4):List AV:=[.int .i64 x.frm,.int .i64 x.to,slv 2 true x.nn (x.wants.map acI.cells),.int .i64 x.cmd,.int .i64 x.after]
structure aaW where
 nS:Bool
 sens:List ad1
 nV:Bool
 votes:List abT
 nM:Bool
 moves:List ac4
 states:Int
 cmds:Int
 bgn:Int
 nO:Bool
 opn:List Int
abbrev aaW.cells(m:aaW):List AV:=[slv 3 true m.nS (m.sens.map ad1.cells),slv 4 false m.nV (m.votes.map abT.cells),slv 5 false m.nM (m.moves.map ac4.cells),.int .i64 m.states,.int .i64 m.cmds,.int .i64 m.bgn,slv 1 true m.nO (m.opn.map iv)]
structure aeH where
 nn:Bool
 reads:List Int
 cmd:Int
def aeH.cells(s:aeH):List AV:=[slv 1 true s.nn (s.reads.map iv),.int .i64 s.cmd]
structure aaW.small(m:aaW):Prop where
 sens:m.sens.length≤maxLen
 votes:m.votes.length≤maxLen
 moves:m.moves.length≤maxLen
 opn:m.opn.length≤maxLen
 vs:∀v∈m.votes,v.sens.length≤maxLen
 ws:∀x∈m.moves,x.wants.length≤maxLen
def inB(x lo hi:Int):Bool:=decide (lo≤x)&&decide (x≤hi)
theorem axB(x lo hi:Int):om'.call (.fn 43) [.int .i64 x,.int .i64 lo,.int .i64 hi] []=some (.ret (.bool (inB x lo hi)),[]):=by
 (refine ce Try.func43 ?_;simp only[Try.f43];(have hb:=trivial;with_reducible repeat' (first|simp only[hb,Vc.down,seval]|refine fsp ?_ ?_<;>intro hb|refine fd ?_|fail)))
 all_goals simp[inB, *]
theorem aGM(x lo hi:Int):om'.call (.fn 48) [.int .i64 x,.int .i64 lo,.int .i64 hi] []=some (.ret (.bool (inB x lo hi)),[]):=by
 (refine ce Try.func48 ?_;simp only[Try.f48];(have hb:=trivial;with_reducible repeat' (first|simp only[hb,Vc.down,seval]|refine fsp ?_ ?_<;>intro hb|refine fd ?_|fail)))
 all_goals simp[inB, *]
def awX(x:Int):Bool:=inB x (-10000) 10000
theorem aA9(x:Int):om'.call (.fn 69) [.int .i64 x] []=some (.ret (.bool (awX x)),[]):=by
 (refine ce Try.func69 ?_;simp only[Try.f69];(have hb:=trivial;with_reducible repeat' (first|simp only[hb,Vc.down,seval,axB]|refine fsp ?_ ?_<;>intro hb|refine fd ?_|fail)))
 all_goals rfl
theorem a5X(x:Int):om'.call (.fn 82) [.int .i64 x] []=some (.ret (.bool (!awX x)),[]):=by
 (refine ce Try.func82 ?_;simp only[Try.f82];(have hb:=trivial;with_reducible repeat' (first|simp only[hb,Vc.down,seval,aA9]|refine fsp ?_ ?_<;>intro hb|refine fd ?_|fail)))
theorem aJ9(x:Int):om'.call (.fn 74) [.int .i64 x] []=some (.ret (.bool (!inB x 0 255)),[]):=by
 (refine ce Try.func74 ?_;simp only[Try.f74];(have hb:=trivial;with_reducible repeat' (first|simp only[hb,Vc.down,seval,axB]|refine fsp ?_ ?_<;>intro hb|refine fd ?_|fail)))
def aw5(s:ad1)(v:abT)(r:Int):Bool:= !s.byp&&(!inB r s.lo s.hi||(if v.above=true then decide (v.level≤r)else decide (r≤v.level)))
theorem aO6(s:ad1)(v:abT)(r:Int):om'.call (.fn 76) [.agg [.int .i64 s.lo,.int .i64 s.hi,.bool s.byp],.agg [slv 1 true v.nn (v.sens.map iv),.int .i64 v.need,.int .i64 v.level,.bool v.above],.int .i64 r] []=some (.ret (.bool (aw5 s v r)),[]):=by
 (refine ce Try.func76 ?_;simp only[Try.f76];(have hb:=trivial;with_reducible repeat' (first|simp only[hb,Vc.down,seval,bfE.down,axB]|refine fsp ?_ ?_<;>intro hb|refine fd ?_|fail)))
 all_goals simp_all[aw5]
def idx{α:Type}(p:α→Bool):List α→Int→Int
 | [],_=> -1
 |x::l,i=>if p x=true then i else idx p l (i+1)
theorem awG{α:Type}(p:α→Bool):∀(l:List α) (i:Int),0≤i→decide (0≤idx p l i)=l.any p
 | [],i,_=>rfl
 |x::l,i,h=>by
  unfold idx
  split
  ·rename_i hp;simp[h,hp]
  ·rename_i hp;rw[awG p l (i+1) (by omega)];simp[hp]
theorem aKH{l:List Int}{nn:Bool}{g:Nat}{cap:List AV}{p:Int→Bool}(hc:cap.all (ad2 8)=true)(hc7:cap.all (ad2 7)=true)(hp:∀x∈l,om'.call (.fn g) (.int .i64 x::cap) []=some (.ret (.bool (p x)),[]))(hl:l.length≤maxLen)(hgm:om'.md g=false:=by exact rfl):
 om'.call (.fn 91) [slv 1 true nn (l.map iv),.func (.func g) [] cap] []=some (.ret (.int .i64 (idx p l 0)),[]):=by
 (refine ce Try.func91 ?_;simp only[Try.f91];(have hb:=trivial;with_reducible repeat' (first|simp only[hb,Vc.down,seval,aL3.down,aa9]|refine fsp ?_ ?_<;>intro hb|refine fd ?_|fail)))
 refine ahX (lst 19 l (fun i (s:Int) t h=>s=i∧h=[]∧t 0=slv 1 true nn (l.map iv)∧t 1=.func (.func g) [] cap∧t 7=.int .i64 l.length∧t 8=.int .i64 i)
  (fun rest s=>idx p rest s) (fun r e t h=>h=[]∧((e=.exit 0∧r= -1)∨(e=.ret∧t 4=.int .i64 r))) ?_ ?_ 0 _ _ ?_) (fun e t h hk=>?_)
 ·rintro s t h Q' kQ ⟨rfl,rfl,h0,h1,h7,h8⟩
  (have hb:=trivial;with_reducible repeat' (first|simp only[hb,Vc.down,seval,aL3.down,h0,h1,h7,h8,adE,decide_false]|refine fsp ?_ ?_<;>intro hb|refine fd ?_|fail))
  exact kQ _ _ _ ⟨rfl,.inl ⟨rfl,rfl⟩⟩
 ·rintro x rest i s t h J Q' kJ kQ hx hi ⟨rfl,rfl,h0,h1,h7,h8⟩
  have hgm2:=hgm
  simp only[aB2,au3,awE,awM]at hgm2
  have hpx:=hp x (adJ hx)
  have hd:decide ((i:Int)<(l.length:Int))=true:=by simpa using hi
  (have hb:=trivial;with_reducible repeat' (first|simp only[hb,Vc.down,seval,aL3.down,h0,h1,h7,h8,hd,hx,iv,hc,hc7,hpx,hgm2,adL hi hl]|refine fsp ?_ ?_<;>intro hb|refine fd ?_|fail))
  ·exact kQ _ _ _ ⟨rfl,.inr ⟨rfl,by simp[up,idx,hb]⟩⟩
  ·exact adW (kJ _ _ (i+1) ⟨by simp,rfl,by simp[up,h0],by simp[up,h1],by simp[up,h7],by simp[up]⟩ (by simp[idx,hb]))
 ·exact⟨rfl,rfl,by simp[up,ent],by simp[up,ent],by simp[up],by simp[up]⟩
 ·obtain⟨rfl,⟨rfl,hi⟩|⟨rfl,hi⟩⟩:=hk
  ·(have hb:=trivial;with_reducible repeat' (first|simp only[hb,Vc.down,seval,aL3.down]|refine fsp ?_ ?_<;>intro hb|refine fd ?_|fail))
   rw[hi]
  ·(have hb:=trivial;with_reducible repeat' (first|simp only[hb,Vc.down,seval,aL3.down,hi]|refine fsp ?_ ?_<;>intro hb|refine fd ?_|fail))
theorem aDG{l:List Int}{nn:Bool}{g:Nat}{cap:List AV}{p:Int→Bool}(hc:cap.all (ad2 8)=true)(hc7:cap.all (ad2 7)=true)(hp:∀x∈l,om'.call (.fn g) (.int .i64 x::cap) []=some (.ret (.bool (p x)),[]))(hl:l.length≤maxLen)(hgm:om'.md g=false:=by exact rfl):
 om'.call (.fn 73) [slv 1 true nn (l.map iv),.func (.func g) [] cap] []=some (.ret (.bool (l.any p)),[]):=by
 (refine ce Try.func73 ?_;simp only[Try.f73];(have hb:=trivial;with_reducible repeat' (first|simp only[hb,Vc.down,seval,aKH hc hc7 hp hl hgm,hc,hc7,awG p l 0 (ajS 0)]|refine fsp ?_ ?_<;>intro hb|refine fd ?_|fail)))
def as7(b:Int):List Int→Option Int→Bool
 | [],_=>true
 |n::l,p=>inB n 0 (IntKind.i64.wrap (b-1))&&(match p with|none=>true|some q=> !decide (n≤q))&&as7 b l (some n)
theorem aA8{l:List Int}{nn:Bool}(b:Int)(hl:l.length≤maxLen):om'.call (.fn 53) [slv 1 true nn (l.map iv),.int .i64 b] []=some (.ret (.bool (as7 b l none)),[]):=by
 (refine ce Try.func53 ?_;simp only[Try.f53];(have hb:=trivial;with_reducible repeat' (first|simp only[hb,Vc.down,seval,aIV.down,aa9]|refine fsp ?_ ?_<;>intro hb|refine fd ?_|fail)))
 refine ahX (lst 33 l (fun i (s:Option Int) t h=>(i=0∧s=none∨0<i∧s=l[i-1]?)∧t 0=slv 1 true nn (l.map iv)∧t 1=.int .i64 b∧t 7=slv 1 true nn (l.map iv)∧t 8=.int .i64 l.length∧t 9=.int .i64 i)
  (fun rest s=>as7 b rest s) (fun r e t h=>if r=true then e=.exit 0 else e=.ret∧t 4=.bool false) ?_ ?_ none _ _ ?_) (fun e t h hk=>?_)
 ·rintro s t h Q' kQ ⟨hs,h0,h1,h7,h8,h9⟩
  (have hb:=trivial;with_reducible repeat' (first|simp only[hb,Vc.down,seval,aIV.down,h0,h1,h7,h8,h9,adE,decide_false]|refine fsp ?_ ?_<;>intro hb|refine fd ?_|fail))
  exact kQ _ _ _ (by simp[as7])
 ·rintro x rest i s t h J Q' kJ kQ hx hi ⟨hs,h0,h1,h7,h8,h9⟩
  have hd:decide ((i:Int)<(l.length:Int))=true:=by simpa using hi
  have kF:∀{p:Option Int},(inB x 0 (IntKind.i64.wrap (b-1))&&(match p with|none=>true|some q=> !decide (x≤q)))=false→as7 b (x::rest) p=false:=fun h=>by simp[as7,h]
  have kT:∀{p:Option Int},(inB x 0 (IntKind.i64.wrap (b-1))&&(match p with|none=>true|some q=> !decide (x≤q)))=true→as7 b rest (some x)=as7 b (x::rest) p:=fun h=>by simp[as7,h]
  have hw:=adL hi hl
  rcases hs with⟨rfl,rfl⟩|⟨hpos,rfl⟩
  ·simp only[azA,Int.zero_add]at hd h9 hw
   (have hb:=trivial;with_reducible repeat' (first|simp only[hb,Vc.down,seval,aIV.down,h0,h1,h7,h8,h9,hd,hx,iv,axB,hw,Int.toNat_zero,ajS,adE,decide_false]|refine fsp ?_ ?_<;>intro hb|refine fd ?_|fail))
   all_goals first
    |exact kQ _ _ _ (by rw[if_neg (by rw[kF (by simp_all)];simp)];exact⟨rfl,rfl⟩)
    |exact adW (kJ _ _ (some x) ⟨.inr ⟨by omega,by simp[hx]⟩,by simp[up,h0],by simp[up,h1],by simp[up,h7],by simp[up,h8],by simp[up]<;>omega⟩ (kT (by simp_all)))
  ·obtain⟨j,rfl⟩:∃j,i=j+1:=⟨i-1,by omega⟩
   obtain⟨q,hq⟩:∃q,l[j]?=some q:=⟨l[j],arO (by omega)⟩
   have hj:IntKind.i64.wrap (((j+1:Nat):Int)-1)=(j:Int):=by unfold maxLen at hl;rw[ajR (by omega) (by omega)];omega
   have hg:decide (0<((j+1:Nat):Int))=true:=by rw[decide_eq_true_eq];omega
   simp only[azC,hq]at kJ kQ
   (have hb:=trivial;with_reducible repeat' (first|simp only[hb,Vc.down,seval,aIV.down,h0,h1,h7,h8,h9,hd,hx,iv,axB,hw,hj,hg,hq]|refine fsp ?_ ?_<;>intro hb|refine fd ?_|fail))
   all_goals first
    |exact kQ _ _ _ (by rw[if_neg (by rw[kF (by simp_all)];simp)];exact⟨rfl,rfl⟩)
    |exact adW (kJ _ _ (some x) ⟨.inr ⟨by omega,by simp[hx]⟩,by simp[up,h0],by simp[up,h1],by simp[up,h7],by simp[up,h8],by simp[up]<;>omega⟩ (kT (by simp_all)))
 ·exact⟨.inl ⟨rfl,rfl⟩,by simp[up,ent],by simp[up,ent],by simp[up,ent],by simp[up],by simp[up]⟩
 ·split at hk
  ·subst hk
   rename_i hr
   (have hb:=trivial;with_reducible repeat' (first|simp only[hb,Vc.down,seval,aIV.down]|refine fsp ?_ ?_<;>intro hb|refine fd ?_|fail))
   all_goals simp[hr]
  ·obtain⟨rfl,h2⟩:=hk
   rename_i hr
   (have hb:=trivial;with_reducible repeat' (first|simp only[hb,Vc.down,seval,aIV.down,h2]|refine fsp ?_ ?_<;>intro hb|refine fd ?_|fail))
   all_goals simp[hr]
def ay9(ns:Int)(v:abT):Bool:=as7 ns v.sens none&&inB v.need 1 v.sens.length&&awX v.level
theorem bdS(v:abT)(ns:Int)(hl:v.sens.length≤maxLen):om'.call (.fn 47) [.agg [slv 1 true v.nn (v.sens.map iv),.int .i64 v.need,.int .i64 v.level,.bool v.above],.int .i64 ns] []=some (.ret (.bool (ay9 ns v)),[]):=by
 (refine ce Try.func47 ?_;simp only[Try.f47];(have hb:=trivial;with_reducible repeat' (first|simp only[hb,Vc.down,seval,aY0.down,aa9]|refine fsp ?_ ?_<;>intro hb|refine fd ?_|fail)))
 refine ahX (lst 51 v.sens (fun i (s:Option Int) t h=>(i=0∧s=none∨0<i∧s=v.sens[i-1]?)∧h[0]?=some (.live 4 false false [[slv 1 true v.nn (v.sens.map iv),.int .i64 v.need,.int .i64 v.level,.bool v.above]])∧t 1=.int .i64 ns∧t 2=.ptr 0 0 0∧t 5=.int .i64 i)
  (fun rest s=>as7 ns rest s) (fun r e t h=>if r=true then e=.exit 0∧h[0]?=some (.live 4 false false [[slv 1 true v.nn (v.sens.map iv),.int .i64 v.need,.int .i64 v.level,.bool v.above]])∧t 2=.ptr 0 0 0 else e=.ret∧t 4=.bool false) ?_ ?_ none _ _ ?_) (fun e t h hk=>?_)
 ·rintro s t h Q' kQ ⟨hs,hh,h1,h2,h5⟩
  (have hb:=trivial;with_reducible repeat' (first|simp only[hb,Vc.down,seval,aY0.down,hh,h1,h2,h5,aa9,adE,decide_false]|refine fsp ?_ ?_<;>intro hb|refine fd ?_|fail))
  exact kQ _ _ _ (by simp[as7,up,h2,hh])
 ·rintro x rest i s t h J Q' kJ kQ hx hi ⟨hs,hh,h1,h2,h5⟩
  have hd:decide ((i:Int)<(v.sens.length:Int))=true:=by simpa using hi
  have hA:=aaO hh
  have kF:∀{p:Option Int},(inB x 0 (IntKind.i64.wrap (ns-1))&&(match p with|none=>true|some q=> !decide (x≤q)))=false→as7 ns (x::rest) p=false:=fun h=>by simp[as7,h]
  have kT:∀{p:Option Int},(inB x 0 (IntKind.i64.wrap (ns-1))&&(match p with|none=>true|some q=> !decide (x≤q)))=true→as7 ns rest (some x)=as7 ns (x::rest) p:=fun h=>by simp[as7,h]
  have hw:=adL hi hl
  rcases hs with⟨rfl,rfl⟩|⟨hpos,rfl⟩
  ·simp only[azA,Int.zero_add]at hd h5 hw
   (have hb:=trivial;with_reducible repeat' (first|simp only[hb,Vc.down,seval,aY0.down,hA,hh,h1,h2,h5,hd,hx,aa9,iv,aGM,hw,Int.toNat_zero,ajS,adE,decide_false]|refine fsp ?_ ?_<;>intro hb|refine fd ?_|fail))
   all_goals first
    |exact kQ _ _ _ (by rw[if_neg (by rw[kF (by simp_all)];simp)];exact⟨rfl,rfl⟩)
    |exact adW (kJ _ _ (some x) ⟨.inr ⟨by omega,by simp[hx]⟩,by simp[hh],by simp[up,h1],by simp[up,h2],by simp[up]<;>omega⟩ (kT (by simp_all)))
  ·obtain⟨j,rfl⟩:∃j,i=j+1:=⟨i-1,by omega⟩
   obtain⟨q,hq⟩:∃q,v.sens[j]?=some q:=⟨v.sens[j],arO (by omega)⟩
   have hj:IntKind.i64.wrap (((j+1:Nat):Int)-1)=(j:Int):=by unfold maxLen at hl;rw[ajR (by omega) (by omega)];omega
   have hg:decide (0<((j+1:Nat):Int))=true:=by rw[decide_eq_true_eq];omega
   simp only[azC,hq]at kJ kQ
   (have hb:=trivial;with_reducible repeat' (first|simp only[hb,Vc.down,seval,aY0.down,hA,hh,h1,h2,h5,hd,hx,aa9,iv,aGM,hw,hj,hg,hq]|refine fsp ?_ ?_<;>intro hb|refine fd ?_|fail))
   all_goals first
    |exact kQ _ _ _ (by rw[if_neg (by rw[kF (by simp_all)];simp)];exact⟨rfl,rfl⟩)
    |exact adW (kJ _ _ (some x) ⟨.inr ⟨by omega,by simp[hx]⟩,by simp[hh],by simp[up,h1],by simp[up,h2],by simp[up]<;>omega⟩ (kT (by simp_all)))
 ·exact⟨.inl ⟨rfl,rfl⟩,rfl,by simp[up,ent],by simp[up],by simp[up]⟩
 ·split at hk
  ·obtain⟨rfl,hh,h2⟩:=hk
   have hA:=aaO hh
   rename_i hr
   (have hb:=trivial;with_reducible repeat' (first|simp only[hb,Vc.down,seval,aY0.down,hA,hh,h2,aa9,aGM]|refine fsp ?_ ?_<;>intro hb|refine fd ?_|fail))
   all_goals simp_all[ay9,awX]
  ·obtain⟨rfl,h2⟩:=hk
   rename_i hr
   (have hb:=trivial;with_reducible repeat' (first|simp only[hb,Vc.down,seval,aY0.down,h2]|refine fsp ?_ ?_<;>intro hb|refine fd ?_|fail))
   all_goals simp[ay9,hr]
theorem aPN(o w:acI):om'.call (.fn 90) [.agg [.int .i64 o.vote,.bool o.is],.ptr 0 0 0] [.live 2 true false [[.int .i64 w.vote,.bool w.is]]]=some (.ret (.bool (o.vote==w.vote)),[.live 2 true false [[.int .i64 w.vote,.bool w.is]]]):=by
 (refine ce Try.func90 ?_;simp only[Try.f90];(have hb:=trivial;with_reducible repeat' (first|simp only[hb,Vc.down,seval,bgC.down]|refine fsp ?_ ?_<;>intro hb|refine fd ?_|fail)))
theorem aHS{l:List acI}{nn:Bool}{g:Nat}{ww:acI}{p:acI→Bool}(hp:∀x∈l,om'.call (.fn g) (.agg [.int .i64 x.vote,.bool x.is]::[.ptr 0 0 0]) [.live 2 true false [[.int .i64 ww.vote,.bool ww.is]]]=some (.ret (.bool (p x)),[.live 2 true false [[.int .i64 ww.vote,.bool ww.is]]]))(hl:l.length≤maxLen)(hgm:om'.md g=false:=by exact rfl):
 om'.call (.fn 98) [slv 2 true nn (l.map acI.cells),.func (.func g) [] [.ptr 0 0 0]] [.live 2 true false [[.int .i64 ww.vote,.bool ww.is]]]=some (.ret (.int .i64 (idx p l 0)),[.live 2 true false [[.int .i64 ww.vote,.bool ww.is]]]):=by
 (refine ce Try.func98 ?_;simp only[Try.f98];(have hb:=trivial;with_reducible repeat' (first|simp only[hb,Vc.down,seval,aAN.down,aa9]|refine fsp ?_ ?_<;>intro hb|refine fd ?_|fail)))
 refine ahX (lst 19 l (fun i (s:Int) t h=>s=i∧h=[.live 2 true false [[.int .i64 ww.vote,.bool ww.is]]]∧t 0=slv 2 true nn (l.map acI.cells)∧t 1=.func (.func g) [] [.ptr 0 0 0]∧t 7=.int .i64 l.length∧t 8=.int .i64 i)
  (fun rest s=>idx p rest s) (fun r e t h=>h=[.live 2 true false [[.int .i64 ww.vote,.bool ww.is]]]∧((e=.exit 0∧r= -1)∨(e=.ret∧t 4=.int .i64 r))) ?_ ?_ 0 _ _ ?_) (fun e t h hk=>?_)
 ·rintro s t h Q' kQ ⟨rfl,rfl,h0,h1,h7,h8⟩
  (have hb:=trivial;with_reducible repeat' (first|simp only[hb,Vc.down,seval,aAN.down,h0,h1,h7,h8,adE,decide_false]|refine fsp ?_ ?_<;>intro hb|refine fd ?_|fail))
  exact kQ _ _ _ ⟨rfl,.inl ⟨rfl,rfl⟩⟩
 ·rintro x rest i s t h J Q' kJ kQ hx hi ⟨rfl,rfl,h0,h1,h7,h8⟩
  have hgm2:=hgm
  simp only[aB2,au3,awE,awM]at hgm2
  have hpx:=hp x (adJ hx)
  have hd:decide ((i:Int)<(l.length:Int))=true:=by simpa using hi
  (have hb:=trivial;with_reducible repeat' (first|simp only[hb,Vc.down,seval,aAN.down,h0,h1,h7,h8,hd,hx,acI.cells,hpx,hgm2,adL hi hl]|refine fsp ?_ ?_<;>intro hb|refine fd ?_|fail))
  ·exact kQ _ _ _ ⟨rfl,.inr ⟨rfl,by simp[up,idx,hb]⟩⟩
  ·exact adW (kJ _ _ (i+1) ⟨by simp,rfl,by simp[up,h0],by simp[up,h1],by simp[up,h7],by simp[up]⟩ (by simp[idx,hb]))
 ·exact⟨rfl,rfl,by simp[up,ent],by simp[up,ent],by simp[up],by simp[up]⟩
 ·obtain⟨rfl,⟨rfl,hi⟩|⟨rfl,hi⟩⟩:=hk
  ·(have hb:=trivial;with_reducible repeat' (first|simp only[hb,Vc.down,seval,aAN.down]|refine fsp ?_ ?_<;>intro hb|refine fd ?_|fail))
   rw[hi]
  ·(have hb:=trivial;with_reducible repeat' (first|simp only[hb,Vc.down,seval,aAN.down,hi]|refine fsp ?_ ?_<;>intro hb|refine fd ?_|fail))
theorem aEB{l:List acI}{nn:Bool}{g:Nat}{ww:acI}{p:acI→Bool}(hp:∀x∈l,om'.call (.fn g) (.agg [.int .i64 x.vote,.bool x.is]::[.ptr 0 0 0]) [.live 2 true false [[.int .i64 ww.vote,.bool ww.is]]]=some (.ret (.bool (p x)),[.live 2 true false [[.int .i64 ww.vote,.bool ww.is]]]))(hl:l.length≤maxLen)(hgm:om'.md g=false:=by exact rfl):
 om'.call (.fn 89) [slv 2 true nn (l.map acI.cells),.func (.func g) [] [.ptr 0 0 0]] [.live 2 true false [[.int .i64 ww.vote,.bool ww.is]]]=some (.ret (.bool (l.any p)),[.live 2 true false [[.int .i64 ww.vote,.bool ww.is]]]):=by
 (refine ce Try.func89 ?_;simp only[Try.f89];(have hb:=trivial;with_reducible repeat' (first|simp only[hb,Vc.down,seval,aHS hp hl hgm,awG p l 0 (ajS 0)]|refine fsp ?_ ?_<;>intro hb|refine fd ?_|fail)))
def au1(nv:Int):List acI→List acI→Bool
 |_,[]=>true
 |pre,w::l=>inB w.vote 0 (IntKind.i64.wrap (nv-1))&& !(pre.any fun o=>o.vote==w.vote)&&au1 nv (pre++[w]) l
def avG(m:aaW)(x:ac4):Bool:=au1 m.votes.length [] x.wants&&inB x.frm 0 (IntKind.i64.wrap (m.states-1))&&inB x.to 0 (IntKind.i64.wrap (m.states-1))&&decide (x.wants.length≤6)&&inB x.cmd (-1) (IntKind.i64.wrap (m.cmds-1))&&inB x.after 0 10
theorem aTV(m:aaW)(y:ac4)(hl:y.wants.length≤maxLen):om'.call (.fn 72) [.agg [slv 3 true m.nS (m.sens.map ad1.cells),slv 4 false m.nV (m.votes.map abT.cells),slv 5 false m.nM (m.moves.map ac4.cells),.int .i64 m.states,.int .i64 m.cmds,.int .i64 m.bgn,slv 1 true m.nO (m.opn.map iv)],.agg [.int .i64 y.frm,.int .i64 y.to,slv 2 true y.nn (y.wants.map acI.cells),.int .i64 y.cmd,.int .i64 y.after]] []=some (.ret (.bool (avG m y)),[]):=by
 have l6:decide ((y.wants.length:Int)≤6)=decide (y.wants.length≤6):=by rw[decide_eq_decide];omega
 (refine ce Try.func72 ?_;simp only[Try.f72];(have hb:=trivial;with_reducible repeat' (first|simp only[hb,Vc.down,seval,aE7.down,aa9]|refine fsp ?_ ?_<;>intro hb|refine fd ?_|fail)))
 refine ahX (lst 65 y.wants (fun i (zz:List acI) t h=>t 2=.ptr 0 0 0∧t 3=.ptr 1 0 0∧t 8=slv 2 true y.nn (y.wants.map acI.cells)∧t 9=.int .i64 y.wants.length∧t 10=.int .i64 i∧(h[0]?=some (.live 7 false false [[slv 3 true m.nS (m.sens.map ad1.cells),slv 4 false m.nV (m.votes.map abT.cells),slv 5 false m.nM (m.moves.map ac4.cells),.int .i64 m.states,.int .i64 m.cmds,.int .i64 m.bgn,slv 1 true m.nO (m.opn.map iv)]])∧h[1]?=some (.live 5 false false [[.int .i64 y.frm,.int .i64 y.to,slv 2 true y.nn (y.wants.map acI.cells),.int .i64 y.cmd,.int .i64 y.after]])∧zz=y.wants.take i)) (fun rest zz=>au1 m.votes.length zz rest) (fun r e t h=>(if r=true then e=.exit 0∧t 2=.ptr 0 0 0∧t 3=.ptr 1 0 0∧h[0]?=some (.live 7 false false [[slv 3 true m.nS (m.sens.map ad1.cells),slv 4 false m.nV (m.votes.map abT.cells),slv 5 false m.nM (m.moves.map ac4.cells),.int .i64 m.states,.int .i64 m.cmds,.int .i64 m.bgn,slv 1 true m.nO (m.opn.map iv)]])∧h[1]?=some (.live 5 false false [[.int .i64 y.frm,.int .i64 y.to,slv 2 true y.nn (y.wants.map acI.cells),.int .i64 y.cmd,.int .i64 y.after]])else e=.ret∧t 4=.bool false)) ?_ ?_ ([]) _ _ ?_) (fun e t h hk=>?_)
 ·rintro p t h Q' kQ ⟨h2,h3,h8,h9,h10,⟨hA,hB,hp⟩⟩
  (have hb:=trivial;with_reducible repeat' (first|simp only[hb,Vc.down,seval,aE7.down,h2,h3,h8,h9,h10,adE,decide_false]|refine fsp ?_ ?_<;>intro hb|refine fd ?_|fail))
  exact kQ _ _ _ (by rw[if_pos (by rfl)];exact⟨rfl,by simp[up,h2],by simp[up,h3],hA,hB⟩)
 ·rintro x rest i p t h J Q' kJ kQ hx hi ⟨h2,h3,h8,h9,h10,⟨hA,hB,hp⟩⟩
  have hd:decide ((i:Int)<(y.wants.length:Int))=true:=decide_eq_true (by omega)
  have hw:=adL hi hl
  have hA1:=aaO hA
  have hB1:=aaO hB
  have hcW:=aEB (l:=y.wants.take i) (nn:=true) (ww:=x) (g:=90) (p:=fun o=>o.vote==x.vote) (fun o _=>aPN o x) (by simp;omega)
  have hsl:=a18 (P:=Try.prog) (ty:=57) (n:=2) ⟨_,Try.underlying57,by kernel_rfl⟩ true y.nn (rows:=y.wants.map acI.cells) (i:=i) (by simpa using hi)
  rw[aw6,List.map_take]at hcW
  subst hp
  cases c1:inB x.vote 0 (IntKind.i64.wrap ((m.votes.length:Int)-1))with
  |false=>
   (have hb:=trivial;with_reducible repeat' (first|simp only[hb,Vc.down,seval,aE7.down,h2,h3,h8,h9,h10,hd,hx,hw,hA1,hB1,axB,acI.cells,aa9,hcW,hsl,c1]|refine fsp ?_ ?_<;>intro hb|refine fd ?_|fail))
   exact kQ _ _ _ (by rw[if_neg (by simp[au1,c1])];exact⟨rfl,by simp[up]⟩)
  |true=>
   cases c2:(y.wants.take i).any (fun o=>o.vote==x.vote)with
   |true=>
    rw[c2]at hcW
    (have hb:=trivial;with_reducible repeat' (first|simp only[hb,Vc.down,seval,aE7.down,h2,h3,h8,h9,h10,hd,hx,hw,hA1,hB1,axB,acI.cells,aa9,hcW,hsl,c1]|refine fsp ?_ ?_<;>intro hb|refine fd ?_|fail))
    exact kQ _ _ _ (by rw[if_neg (by simp only[au1,c1,c2,aeU,as6,akQ];simp)];exact⟨rfl,by simp[up]⟩)
   |false=>
    rw[c2]at hcW
    (have hb:=trivial;with_reducible repeat' (first|simp only[hb,Vc.down,seval,aE7.down,h2,h3,h8,h9,h10,hd,hx,hw,hA1,hB1,axB,acI.cells,aa9,hcW,hsl,c1]|refine fsp ?_ ?_<;>intro hb|refine fd ?_|fail))
    (refine adW (kJ _ _ (y.wants.take i++[x]) ⟨?_,?_,?_,?_,?_,⟨hA1 _,hB1 _,by rw[azS,hx];rfl⟩⟩ ?_);(simp[up,h2]);(simp[up,h3]);(simp[up,h8]);(simp[up,h9]);(simp[up]);(simp only[au1,c1,c2,aiZ,at6,ajP]))
 ·exact⟨by simp[up,ent],by simp[up,ent],by simp[up,ent],by simp[up,ent],by simp[up],⟨rfl,rfl,rfl⟩⟩
 ·split at hk
  ·obtain⟨rfl,h2,h3,hA,hB⟩:=hk
   rename_i hr
   have hA1:=aaO hA
   have hB1:=aaO hB
   (have hb:=trivial;with_reducible repeat' (first|simp only[hb,Vc.down,seval,aE7.down,h2,h3,hA,hB,hA1,hB1,axB,aa9,l6]|refine fsp ?_ ?_<;>intro hb|refine fd ?_|fail))
   all_goals (refine congrArg (fun b=>(Out.ret (AV.bool b),([]:aaL))) ?_;symm;((try simp only[awY,aeU,aiZ]at *);simp only[avG, *,as6,akQ,at6,ajP,ayB,ayC,aeU,aiZ,ayE,ayR]))
  ·obtain⟨rfl,h4⟩:=hk
   rename_i hr
   (have hb:=trivial;with_reducible repeat' (first|simp only[hb,Vc.down,seval,aE7.down,h4]|refine fsp ?_ ?_<;>intro hb|refine fd ?_|fail))
   all_goals simp_all[avG]
def aXO(w:acI):List acI→Bool
 | []=>true
 |o::l=> !(o.vote==w.vote)&&aXO w l
theorem aOS(w:acI):∀l,aXO w l= !(l.any fun o=>o.vote==w.vote)
 | []=>rfl
 |o::l=>by simp[aXO,aOS w l]
theorem bdP(m:aaW)(y:ac4)(hl:y.wants.length≤maxLen):om'.call (.fn 49) [.agg [slv 3 true m.nS (m.sens.map ad1.cells),slv 4 false m.nV (m.votes.map abT.cells),slv 5 false m.nM (m.moves.map ac4.cells),.int .i64 m.states,.int .i64 m.cmds,.int .i64 m.bgn,slv 1 true m.nO (m.opn.map iv)],.agg [.int .i64 y.frm,.int .i64 y.to,slv 2 true y.nn (y.wants.map acI.cells),.int .i64 y.cmd,.int .i64 y.after]] []=some (.ret (.bool (avG m y)),[]):=by
 have l6:decide ((y.wants.length:Int)≤6)=decide (y.wants.length≤6):=by rw[decide_eq_decide];omega
 (refine ce Try.func49 ?_;simp only[Try.f49];(have hb:=trivial;with_reducible repeat' (first|simp only[hb,Vc.down,seval,aKP.down,aa9]|refine fsp ?_ ?_<;>intro hb|refine fd ?_|fail)))
 refine ahX (lst 77 y.wants (fun i (zz:List acI) t h=>t 2=.ptr 0 0 0∧t 3=.ptr 1 0 0∧t 5=.int .i64 i∧(h=[.live 7 false false [[slv 3 true m.nS (m.sens.map ad1.cells),slv 4 false m.nV (m.votes.map abT.cells),slv 5 false m.nM (m.moves.map ac4.cells),.int .i64 m.states,.int .i64 m.cmds,.int .i64 m.bgn,slv 1 true m.nO (m.opn.map iv)]],.live 5 false false [[.int .i64 y.frm,.int .i64 y.to,slv 2 true y.nn (y.wants.map acI.cells),.int .i64 y.cmd,.int .i64 y.after]]]∧zz=y.wants.take i)) (fun rest zz=>au1 m.votes.length zz rest) (fun r e t h=>(if r=true then e=.exit 0∧t 2=.ptr 0 0 0∧t 3=.ptr 1 0 0∧h=[.live 7 false false [[slv 3 true m.nS (m.sens.map ad1.cells),slv 4 false m.nV (m.votes.map abT.cells),slv 5 false m.nM (m.moves.map ac4.cells),.int .i64 m.states,.int .i64 m.cmds,.int .i64 m.bgn,slv 1 true m.nO (m.opn.map iv)]],.live 5 false false [[.int .i64 y.frm,.int .i64 y.to,slv 2 true y.nn (y.wants.map acI.cells),.int .i64 y.cmd,.int .i64 y.after]]]else e=.ret∧t 4=.bool false)) ?_ ?_ ([]) _ _ ?_) (fun e t h hk=>?_)
 ·rintro p t h Q' kQ ⟨h2,h3,h5,⟨rfl,hp⟩⟩
  (have hb:=trivial;with_reducible repeat' (first|simp only[hb,Vc.down,seval,aKP.down,h2,h3,h5,adE,decide_false,aa9]|refine fsp ?_ ?_<;>intro hb|refine fd ?_|fail))
  exact kQ _ _ _ (by rw[if_pos (by rfl)];exact⟨rfl,by simp[up,h2],by simp[up,h3],rfl⟩)
 ·rintro x rest i p t h J Q' kJ kQ hx hi ⟨h2,h3,h5,⟨rfl,hp⟩⟩
  have hd:decide ((i:Int)<(y.wants.length:Int))=true:=decide_eq_true (by omega)
  have hw:=adL hi hl
  subst hp
  cases c1:inB x.vote 0 (IntKind.i64.wrap ((m.votes.length:Int)-1))with
  |false=>
   (have hb:=trivial;with_reducible repeat' (first|simp only[hb,Vc.down,seval,aKP.down,h2,h3,h5,hd,hx,hw,aGM,c1,acI.cells,aa9]|refine fsp ?_ ?_<;>intro hb|refine fd ?_|fail))
   exact kQ _ _ _ (by rw[if_neg (by simp[au1,c1])];exact⟨rfl,by simp[up]⟩)
  |true=>
   obtain⟨w,rfl⟩:∃w,w=x:=⟨_,rfl⟩
   obtain⟨k,rfl⟩:∃k,k=i:=⟨_,rfl⟩
   have hlen:(y.wants.take k).length=k:=by simp;omega
   have hxk:=hx
   (have hb:=trivial;with_reducible repeat' (first|simp only[hb,Vc.down,seval,aKP.down,h2,h3,h5,hd,hx,hw,aGM,c1,acI.cells,aa9]|refine fsp ?_ ?_<;>intro hb|refine fd ?_|fail))
   refine ahX (lst 77 (y.wants.take k) (fun i (zz:Unit) t h=>t 2=.ptr 0 0 0∧t 3=.ptr 1 0 0∧t 5=.int .i64 (k:Int)∧t 6=.int .i64 i∧h=[.live 7 false false [[slv 3 true m.nS (m.sens.map ad1.cells),slv 4 false m.nV (m.votes.map abT.cells),slv 5 false m.nM (m.moves.map ac4.cells),.int .i64 m.states,.int .i64 m.cmds,.int .i64 m.bgn,slv 1 true m.nO (m.opn.map iv)]],.live 5 false false [[.int .i64 y.frm,.int .i64 y.to,slv 2 true y.nn (y.wants.map acI.cells),.int .i64 y.cmd,.int .i64 y.after]]]) (fun rest zz=>aXO w rest) (fun r e t h=>(if r=true then e=.exit 2∧t 2=.ptr 0 0 0∧t 3=.ptr 1 0 0∧t 5=.int .i64 (k:Int)∧h=[.live 7 false false [[slv 3 true m.nS (m.sens.map ad1.cells),slv 4 false m.nV (m.votes.map abT.cells),slv 5 false m.nM (m.moves.map ac4.cells),.int .i64 m.states,.int .i64 m.cmds,.int .i64 m.bgn,slv 1 true m.nO (m.opn.map iv)]],.live 5 false false [[.int .i64 y.frm,.int .i64 y.to,slv 2 true y.nn (y.wants.map acI.cells),.int .i64 y.cmd,.int .i64 y.after]]]else e=.ret∧t 4=.bool false)) ?_ ?_ () _ _ ?_) (fun e tC hC hk=>?_)
   ·rintro _ t h Q' kQ ⟨h2,h3,h5,h6,rfl⟩
    (have hb:=trivial;with_reducible repeat' (first|simp only[hb,Vc.down,seval,aKP.down,h2,h3,h5,h6,adE,decide_false,hlen]|refine fsp ?_ ?_<;>intro hb|refine fd ?_|fail))
    exact kQ _ _ _ (by rw[if_pos (by rfl)];exact⟨rfl,by simp[up,h2],by simp[up,h3],by simp[up,h5],rfl⟩)
   ·rintro x rest i _ t h J Q' kJ kQ hx hi ⟨h2,h3,h5,h6,rfl⟩
    have hd:decide ((i:Int)<((y.wants.take k).length:Int))=true:=decide_eq_true (by omega)
    have hw:=adL hi (by simp;omega)
    rw[hlen]at hd
    have hxi:y.wants[i]?=some x:=by rw[List.getElem?_take]at hx;split at hx;exact hx;cases hx
    cases c3:(x.vote==w.vote)with
    |true=>
     (have hb:=trivial;with_reducible repeat' (first|simp only[hb,Vc.down,seval,aKP.down,h2,h3,h5,h6,hd,hxi,hxk,hw,c3,acI.cells]|refine fsp ?_ ?_<;>intro hb|refine fd ?_|fail))
     exact kQ _ _ _ (by rw[if_neg (by simp[aXO,c3])];exact⟨rfl,by simp[up]⟩)
    |false=>
     (have hb:=trivial;with_reducible repeat' (first|simp only[hb,Vc.down,seval,aKP.down,h2,h3,h5,h6,hd,hxi,hxk,hw,c3,acI.cells]|refine fsp ?_ ?_<;>intro hb|refine fd ?_|fail))
     (refine adW (kJ _ _ () ⟨?_,?_,?_,?_,rfl⟩ ?_);(simp[up,h2]);(simp[up,h3]);(simp[up,h5]);(simp[up]);(simp[aXO,c3]))
   ·exact⟨by simp[up,ent,h2,h3,h5],by simp[up,ent,h2,h3,h5],by simp[up,ent,h2,h3,h5],by simp[up],rfl⟩
   ·split at hk
    ·rename_i hdup
     obtain⟨rfl,h2,h3,h5,rfl⟩:=hk
     (have hb:=trivial;with_reducible repeat' (first|simp only[hb,Vc.down,seval,aKP.down,h2,h3,h5,hw]|refine fsp ?_ ?_<;>intro hb|refine fd ?_|fail))
     rw[aOS]at hdup
     (refine adW (kJ _ _ (y.wants.take k++[w]) ⟨?_,?_,?_,⟨rfl,by rw[azS,hxk];rfl⟩⟩ ?_);(simp[up,h2]);(simp[up,h3]);(simp[up]);(simp only[au1,c1,hdup,ajP]))
    ·rename_i hdup
     obtain⟨rfl,h4⟩:=hk
     (have hb:=trivial;with_reducible repeat' (first|simp only[hb,Vc.down,seval,aKP.down,h4]|refine fsp ?_ ?_<;>intro hb|refine fd ?_|fail))
     rw[aOS]at hdup
     exact kQ _ _ _ (by rw[if_neg (by simp only[au1,c1,ajP,Bool.eq_false_iff.2 hdup,akQ];simp)];exact⟨rfl,by simp[up,h4]⟩)
 ·exact⟨by simp[up,ent],by simp[up,ent],by simp[up],⟨rfl,rfl⟩⟩
 ·split at hk
  ·obtain⟨rfl,h2,h3,rfl⟩:=hk
   rename_i hr
   (have hb:=trivial;with_reducible repeat' (first|simp only[hb,Vc.down,seval,aKP.down,h2,h3,aGM,aa9,l6]|refine fsp ?_ ?_<;>intro hb|refine fd ?_|fail))
   all_goals (refine congrArg (fun b=>(Out.ret (AV.bool b),([]:aaL))) ?_;symm;((try simp only[awY,aeU,aiZ]at *);simp only[avG, *,as6,akQ,at6,ajP,ayB,ayC,aeU,aiZ,ayE,ayR]))
  ·obtain⟨rfl,h4⟩:=hk
   rename_i hr
   (have hb:=trivial;with_reducible repeat' (first|simp only[hb,Vc.down,seval,aKP.down,h4]|refine fsp ?_ ?_<;>intro hb|refine fd ?_|fail))
   all_goals simp_all[avG]
end Go.Proofs.Ytfkokgjfpojeoaa
