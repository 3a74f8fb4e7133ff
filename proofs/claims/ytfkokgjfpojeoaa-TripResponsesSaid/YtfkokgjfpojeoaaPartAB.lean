/- The functions of the layer, walked. -/
import Derived.Test.YtfkokgjfpojeoaaPartAA
import Derived.Test.YtfkokgjfpojeoaaLibD
import Derived.Test.YtfkokgjfpojeoaaLibE
import Derived.Test.YtfkokgjfpojeoaaLibF
import Derived.Test.YtfkokgjfpojeoaaRows
import Derived.Test.YtfkokgjfpojeoaaShelf
import Derived.ProofKit
import Derived.LaidMore
import Derived.OpenShut
open List renaming length_map→acL,mem_of_getElem?→acZ,mem_cons→aC7,not_mem_nil→aEO,getElem?_eq_getElem→aER,all_eq_true→aHM,contains_cons→aIC,contains_nil→aID,all_cons→aLF,all_nil→aLG,getElem?_eq_some_iff→aLH,getElem?_set_self→aM9,take_add_one→aOW
open Int renaming lt_irrefl→acR,le_refl→aAO,natCast_zero→aOD
open Bool renaming not_true→aqD,not_false→aAM,true_and→aAN,false_and→aAP,and_false→aG6,and_true→aHJ,or_false→aJZ,not_eq_eq_eq_not→aKM,and_self→aLD,not_not→aLE,and_eq_true→aLI
open Option renaming bind_eq_some_iff→aCF,map_eq_some_iff→aC6
open Eq renaming trans→aE9
open Nat renaming add_sub_cancel→aON
set_option linter.unusedSimpArgs false
set_option linter.unusedVariables false
namespace Go.Proofs.Ytfkokgjfpojeoaa.Ko
open Go.Ev Go
set_option maxRecDepth 100000
set_option maxHeartbeats 16000000
def Rb(m:Ah)(k:Int):Db:=m.sens.getD k.toNat ⟨0,0,false⟩
def rAt(l:List Int)(k:Int):Int:=l.getD k.toNat 0
theorem sY{m:Ah}{k:Int}(h:k.toNat<m.sens.length):m.sens[k.toNat]?=some (Rb m k):=by
 simp[Rb,List.getD,aER h]
theorem aD4{l:List Int}{k:Int}(h:k.toNat<l.length):l[k.toNat]?=some (rAt l k):=by
 simp[rAt,List.getD,aER h]
def aaQ(m:Ah)(v:Au)(l:List Int):List Int→Int→Int
 | [],c=>c
 |k::ks,c=>aaQ m v l ks (if Re (Rb m k) v (rAt l k)=true then IntKind.i64.wrap (c+1)else c)
def sZ(m:Ah)(l:List Int)(v:Au):Bool:=decide (v.need≤aaQ m v l v.sens 0)
def Idx(m:Ah)(l:List Int):Prop:=∀k∈l,0≤k∧k.toNat<m.sens.length
def orN(a b:Int):Int:=IntKind.i64.wrap ((BitVec.ofInt 64 a|||BitVec.ofInt 64 b).toNat:Int)
theorem aI3(ty:TypeId)(a b:Int):Qm Try.prog .or ty (.int .i64 a) (.int .i64 b)=some (.int .i64 (orN a b)):=by
 show(if IntKind.i64=IntKind.i64 then Nl .or .i64 a b else none)=_
 rw[if_pos rfl];rfl
def Yw(m:Ah)(l:List Int):List Au→Nat→Int→Int
 | [],_,b=>b
 |v::vs,i,b=>Yw m l vs (i+1) (if sZ m l v=true then orN b (aMM i)else b)
theorem aEA(m:Ah){l:List Int}{nn:Bool}(hl:l.length=m.sens.length)(hs:m.small)(hi:∀v∈m.votes,Idx m v.sens):Ec.call (.fn 46) [.agg [Ak 3 true m.nS (m.sens.map Db.cells),Ak 4 false m.nV (m.votes.map Au.cells),Ak 5 false m.nM (m.moves.map Bi.cells),.int .i64 m.states,.int .i64 m.cmds,.int .i64 m.bgn,Ak 1 true m.nO (m.opn.map iv)],Ak 1 true nn (l.map iv)] []=some (.ret (.int .i64 (Yw m l m.votes 0 0)),[]):=by
 have hI:=hi
 clear hi
 (refine ce Try.func46 ?_;simp only[Try.f46];(have hb:=trivial;with_reducible repeat' (first|simp only[hb,Vc.down,seval,azI.down,acL]|refine Bm ?_ ?_<;>intro hb|refine fd ?_|fail)))
 refine Eo (Wy 50 m.votes (fun i (zz:Nat × Int) t h=>t 1=Ak 1 true nn (l.map iv)∧t 2=.ptr 0 0 0∧t 12=Ak 4 false m.nV (m.votes.map Au.cells)∧t 13=.int .i64 m.votes.length∧t 14=.int .i64 i∧t 5=.int .i64 zz.2∧(h[0]?=some (.live 7 false false [[Ak 3 true m.nS (m.sens.map Db.cells),Ak 4 false m.nV (m.votes.map Au.cells),Ak 5 false m.nM (m.moves.map Bi.cells),.int .i64 m.states,.int .i64 m.cmds,.int .i64 m.bgn,Ak 1 true m.nO (m.opn.map iv)]])∧i=zz.1)) (fun rest zz=>Yw m l rest zz.1 zz.2) (fun r e t h=>e=.exit 0∧t 5=.int .i64 r) ?_ ?_ (0,0) _ _ ?_) (fun e t h hk=>?_)
 ·rintro⟨k,b⟩ t h Q' kQ ⟨h1,h2,h12,h13,h14,h5,⟨hA,rfl⟩⟩
  try dsimp only at *
  (have hb:=trivial;with_reducible repeat' (first|simp only[hb,Vc.down,seval,azI.down,h1,h2,h12,h13,h14,h5,acR,decide_false]|refine Bm ?_ ?_<;>intro hb|refine fd ?_|fail))
  exact kQ _ _ _ ⟨rfl,by simp[up,h5,Yw]⟩
 ·rintro x rest i ⟨k,b⟩ t h J Q' kJ kQ hx hi ⟨h1,h2,h12,h13,h14,h5,⟨hA,rfl⟩⟩
  have hd:decide ((i:Int)<(m.votes.length:Int))=true:=decide_eq_true (by omega)
  have hw:=Bo hi hs.votes
  try dsimp only at *
  have hA1:=Ae hA
  have hvs:=hs.vs x (acZ hx)
  have hIx:=hI x (acZ hx)
  obtain⟨w,rfl⟩:∃w,w=x:=⟨_,rfl⟩
  obtain⟨k,rfl⟩:∃k,k=i:=⟨_,rfl⟩
  obtain⟨hL,hLe⟩:∃hL,hL=h.length:=⟨_,rfl⟩
  (have hb:=trivial;with_reducible repeat' (first|simp only[hb,Vc.down,seval,azI.down,h1,h2,h12,h13,h14,h5,hd,hx,hw,hA1,Au.cells,acL]|refine Bm ?_ ?_<;>intro hb|refine fd ?_|fail))
  refine Eo (Wy 50 w.sens (fun i (zz:Int) t h=>t 1=Ak 1 true nn (l.map iv)∧t 2=.ptr 0 0 0∧t 12=Ak 4 false m.nV (m.votes.map Au.cells)∧t 13=.int .i64 m.votes.length∧t 14=.int .i64 (k:Int)∧t 5=.int .i64 b∧t 6=.int .i64 (k:Int)∧t 7=.ptr hL 0 0∧t 20=Ak 1 true w.nn (w.sens.map iv)∧t 21=.int .i64 w.sens.length∧t 22=.int .i64 i∧t 8=.int .i64 zz∧(h[0]?=some (.live 7 false false [[Ak 3 true m.nS (m.sens.map Db.cells),Ak 4 false m.nV (m.votes.map Au.cells),Ak 5 false m.nM (m.moves.map Bi.cells),.int .i64 m.states,.int .i64 m.cmds,.int .i64 m.bgn,Ak 1 true m.nO (m.opn.map iv)]])∧∃wf,h[hL]?=some (.live 4 false wf [[Ak 1 true w.nn (w.sens.map iv),.int .i64 w.need,.int .i64 w.level,.bool w.above]]))) (fun rest zz=>aaQ m w l rest zz) (fun r e t h=>e=.exit 2∧t 1=Ak 1 true nn (l.map iv)∧t 2=.ptr 0 0 0∧t 12=Ak 4 false m.nV (m.votes.map Au.cells)∧t 13=.int .i64 m.votes.length∧t 14=.int .i64 (k:Int)∧t 5=.int .i64 b∧t 6=.int .i64 (k:Int)∧t 7=.ptr hL 0 0∧t 8=.int .i64 r∧h[0]?=some (.live 7 false false [[Ak 3 true m.nS (m.sens.map Db.cells),Ak 4 false m.nV (m.votes.map Au.cells),Ak 5 false m.nM (m.moves.map Bi.cells),.int .i64 m.states,.int .i64 m.cmds,.int .i64 m.bgn,Ak 1 true m.nO (m.opn.map iv)]])∧∃wf,h[hL]?=some (.live 4 false wf [[Ak 1 true w.nn (w.sens.map iv),.int .i64 w.need,.int .i64 w.level,.bool w.above]])) ?_ ?_ (0) _ _ ?_) (fun e tC hC hk=>?_)
  ·rintro c t h Q' kQ ⟨h1,h2,h12,h13,h14,h5,h6,h7,h20,h21,h22,h8,⟨hA,wf,hB⟩⟩
   (have hb:=trivial;with_reducible repeat' (first|simp only[hb,Vc.down,seval,azI.down,h1,h2,h12,h13,h14,h5,h6,h7,h20,h21,h22,h8,acR,decide_false]|refine Bm ?_ ?_<;>intro hb|refine fd ?_|fail))
   exact kQ _ _ _ ⟨rfl,by simp[up,h1],by simp[up,h2],by simp[up,h12],by simp[up,h13],by simp[up,h14],by simp[up,h5],by simp[up,h6],by simp[up,h7],by simp[up,h8,aaQ],hA,wf,hB⟩
  ·rintro x rest i c t h J Q' kJ kQ hx hi ⟨h1,h2,h12,h13,h14,h5,h6,h7,h20,h21,h22,h8,⟨hA,wf,hB⟩⟩
   have hd:decide ((i:Int)<(w.sens.length:Int))=true:=decide_eq_true (by omega)
   have hw:=Bo hi hvs
   obtain⟨k0,k1⟩:=hIx x (acZ hx)
   have hrr:=aD4 (l:=l) (k:=x) (by omega)
   have hss:=sY k1
   have h0':(0≤x)=True:=eq_true k0
   have hS:=aJ7 (Rb m x) w (rAt l x)
   generalize hq:Re (Rb m x) w (rAt l x)=q at hS
   generalize Rb m x=s at hss hS
   (have hb:=trivial;with_reducible repeat' (first|simp only[hb,Vc.down,seval,azI.down,h1,h2,h7,h8,h20,h21,h22,hd,hx,hw,hrr,hss,h0',hA,hB,hS,iv,Db.cells,acL]|refine Bm ?_ ?_<;>intro hb|refine fd ?_|fail))
   all_goals (refine Bn (kJ _ _ (if q=true then IntKind.i64.wrap (c+1)else c) ⟨?_,?_,?_,?_,?_,?_,?_,?_,?_,?_,?_,?_,⟨hA,wf,hB⟩⟩ ?_);(simp[up,h1]);(simp[up,h2]);(simp[up,h12]);(simp[up,h13]);(simp[up,h14]);(simp[up,h5]);(simp[up,h6]);(simp[up,h7]);(simp[up,h20]);(simp[up,h21]);(simp[up]);(simp[up,h8,hb]);(simp[aaQ,hq]))
  ·exact⟨by simp[up,Fe,h1,h2,h12,h13,h14,h5,hLe],by simp[up,Fe,h1,h2,h12,h13,h14,h5,hLe],by simp[up,Fe,h1,h2,h12,h13,h14,h5,hLe],by simp[up,Fe,h1,h2,h12,h13,h14,h5,hLe],by simp[up,Fe,h1,h2,h12,h13,h14,h5,hLe],by simp[up,Fe,h1,h2,h12,h13,h14,h5,hLe],by simp[up,Fe,h1,h2,h12,h13,h14,h5,hLe],by simp[up,Fe,h1,h2,h12,h13,h14,h5,hLe],by simp[up,Fe,h1,h2,h12,h13,h14,h5,hLe],by simp[up,Fe,h1,h2,h12,h13,h14,h5,hLe],by simp[up],by simp[up,Fe,h1,h2,h12,h13,h14,h5,hLe],⟨hA1 _,true,by rw[hLe];simp⟩⟩
  ·obtain⟨rfl,h1,h2,h12,h13,h14,h5,h6,h7,h8,hA,wf,hB⟩:=hk
   have hy:decide (w.need≤aaQ m w l w.sens 0)=sZ m l w:=rfl
   (have hb:=trivial;with_reducible repeat' (first|simp only[hb,Vc.down,seval,azI.down,h1,h2,h12,h13,h14,h5,h6,h7,h8,hA,hB,hw,hy,aI3]|refine Bm ?_ ?_<;>intro hb|refine fd ?_|fail))
   all_goals (refine Bn (kJ _ _ (k+1,(if sZ m l w=true then orN b (aMM k)else b)) ⟨?_,?_,?_,?_,?_,?_,⟨hA,rfl⟩⟩ ?_);(simp[up,h1]);(simp[up,h2]);(simp[up,h12]);(simp[up,h13]);(simp[up]);(simp[up,h5,hb]);(simp[Yw]))
 ·exact⟨by simp[up,Fe],by simp[up,Fe],by simp[up,Fe],by simp[up,Fe],by simp[up],by simp[up,Fe],⟨rfl,rfl⟩⟩
 obtain⟨rfl,h5⟩:=hk
 (have hb:=trivial;with_reducible repeat' (first|simp only[hb,Vc.down,seval,azI.down,h5]|refine Bm ?_ ?_<;>intro hb|refine fd ?_|fail))
def Ve(b v:Int):Bool:=aXM (aUQ b v.toNat)==1
theorem aJX(a b:Bool):Qm Try.prog .neq 4 (.bool a) (.bool b)=some (.bool (!(a==b))):=by cases a<;>cases b<;>kernel_rfl
structure Xs where
 frm:Int
 to:Int
 nn:Bool
 wants:List Bf
 cmd:Int
 after:Int
 st:Int
 ag:Int
 bits:Int
 com:Int
theorem aPQ(n:Xs):Ec.call (.fn 92) [.agg [.int .i64 n.frm,.int .i64 n.to,Ak 2 true n.nn (n.wants.map Bf.cells),.int .i64 n.cmd,.int .i64 n.after,.int .i64 n.st,.int .i64 n.ag,.int .i64 n.bits,.int .i64 n.com]] []=some (.ret (.bool (n.frm==n.st)),[]):=by
 (refine ce Try.func92 ?_;simp only[Try.f92];(have hb:=trivial;with_reducible repeat' (first|simp only[hb,Vc.down,seval,biI.down]|refine Bm ?_ ?_<;>intro hb|refine fd ?_|fail)))
theorem a0M(n:Xs):Ec.call (.fn 93) [.agg [.int .i64 n.frm,.int .i64 n.to,Ak 2 true n.nn (n.wants.map Bf.cells),.int .i64 n.cmd,.int .i64 n.after,.int .i64 n.st,.int .i64 n.ag,.int .i64 n.bits,.int .i64 n.com]] []=some (.ret (.bool (decide (n.after≤n.ag))),[]):=by
 (refine ce Try.func93 ?_;simp only[Try.f93];(have hb:=trivial;with_reducible repeat' (first|simp only[hb,Vc.down,seval,bcW.down]|refine Bm ?_ ?_<;>intro hb|refine fd ?_|fail)))
theorem aPE(n:Xs):Ec.call (.fn 95) [.agg [.int .i64 n.frm,.int .i64 n.to,Ak 2 true n.nn (n.wants.map Bf.cells),.int .i64 n.cmd,.int .i64 n.after,.int .i64 n.st,.int .i64 n.ag,.int .i64 n.bits,.int .i64 n.com]] []=some (.ret (.bool (n.cmd== -1||n.cmd==n.com)),[]):=by
 (refine ce Try.func95 ?_;simp only[Try.f95];(have hb:=trivial;with_reducible repeat' (first|simp only[hb,Vc.down,seval,bcS.down]|refine Bm ?_ ?_<;>intro hb|refine fd ?_|fail)))
 all_goals simp_all
theorem aA4(n:Xs)(w:Bf)(h0:0≤w.vote):Ec.call (.fn 99) [.agg [.int .i64 w.vote,.bool w.is],.ptr 0 0 0] [.live 9 false false [[.int .i64 n.frm,.int .i64 n.to,Ak 2 true n.nn (n.wants.map Bf.cells),.int .i64 n.cmd,.int .i64 n.after,.int .i64 n.st,.int .i64 n.ag,.int .i64 n.bits,.int .i64 n.com]]]=some (.ret (.bool (!(Ve n.bits w.vote==w.is))),[.live 9 false false [[.int .i64 n.frm,.int .i64 n.to,Ak 2 true n.nn (n.wants.map Bf.cells),.int .i64 n.cmd,.int .i64 n.after,.int .i64 n.st,.int .i64 n.ag,.int .i64 n.bits,.int .i64 n.com]]]):=by
 obtain⟨v,is⟩:=w
 obtain⟨k,hk⟩:∃k:Nat,v=k:=⟨v.toNat,by simp at h0;omega⟩
 subst hk
 (refine ce Try.func99 ?_;simp only[Try.f99];(have hb:=trivial;with_reducible repeat' (first|simp only[hb,Vc.down,seval,bdO.down,aJX]|refine Bm ?_ ?_<;>intro hb|refine fd ?_|fail)))
 all_goals simp[Ve]
theorem ap6{l:List Bf}{nn:Bool}{g:Nat}{ndq:Xs}{p:Bf→Bool}(hp:∀x∈l,Ec.call (.fn g) (.agg [.int .i64 x.vote,.bool x.is]::[.ptr 0 0 0]) [.live 9 false false [[.int .i64 ndq.frm,.int .i64 ndq.to,Ak 2 true ndq.nn (ndq.wants.map Bf.cells),.int .i64 ndq.cmd,.int .i64 ndq.after,.int .i64 ndq.st,.int .i64 ndq.ag,.int .i64 ndq.bits,.int .i64 ndq.com]]]=some (.ret (.bool (p x)),[.live 9 false false [[.int .i64 ndq.frm,.int .i64 ndq.to,Ak 2 true ndq.nn (ndq.wants.map Bf.cells),.int .i64 ndq.cmd,.int .i64 ndq.after,.int .i64 ndq.st,.int .i64 ndq.ag,.int .i64 ndq.bits,.int .i64 ndq.com]]]))(hl:l.length≤maxLen)(hgm:Ec.md g=false:=by exact rfl):
 Ec.call (.fn 98) [Ak 2 true nn (l.map Bf.cells),.func (.func g) [] [.ptr 0 0 0]] [.live 9 false false [[.int .i64 ndq.frm,.int .i64 ndq.to,Ak 2 true ndq.nn (ndq.wants.map Bf.cells),.int .i64 ndq.cmd,.int .i64 ndq.after,.int .i64 ndq.st,.int .i64 ndq.ag,.int .i64 ndq.bits,.int .i64 ndq.com]]]=some (.ret (.int .i64 (uR p l 0)),[.live 9 false false [[.int .i64 ndq.frm,.int .i64 ndq.to,Ak 2 true ndq.nn (ndq.wants.map Bf.cells),.int .i64 ndq.cmd,.int .i64 ndq.after,.int .i64 ndq.st,.int .i64 ndq.ag,.int .i64 ndq.bits,.int .i64 ndq.com]]]):=by
 (refine ce Try.func98 ?_;simp only[Try.f98];(have hb:=trivial;with_reducible repeat' (first|simp only[hb,Vc.down,seval,vP.down,acL]|refine Bm ?_ ?_<;>intro hb|refine fd ?_|fail)))
 refine Eo (Wy 19 l (fun i (s:Int) t h=>s=i∧h=[.live 9 false false [[.int .i64 ndq.frm,.int .i64 ndq.to,Ak 2 true ndq.nn (ndq.wants.map Bf.cells),.int .i64 ndq.cmd,.int .i64 ndq.after,.int .i64 ndq.st,.int .i64 ndq.ag,.int .i64 ndq.bits,.int .i64 ndq.com]]]∧t 0=Ak 2 true nn (l.map Bf.cells)∧t 1=.func (.func g) [] [.ptr 0 0 0]∧t 7=.int .i64 l.length∧t 8=.int .i64 i)
  (fun rest s=>uR p rest s) (fun r e t h=>h=[.live 9 false false [[.int .i64 ndq.frm,.int .i64 ndq.to,Ak 2 true ndq.nn (ndq.wants.map Bf.cells),.int .i64 ndq.cmd,.int .i64 ndq.after,.int .i64 ndq.st,.int .i64 ndq.ag,.int .i64 ndq.bits,.int .i64 ndq.com]]]∧((e=.exit 0∧r= -1)∨(e=.ret∧t 4=.int .i64 r))) ?_ ?_ 0 _ _ ?_) (fun e t h hk=>?_)
 ·rintro s t h Q' kQ ⟨rfl,rfl,h0,h1,h7,h8⟩
  (have hb:=trivial;with_reducible repeat' (first|simp only[hb,Vc.down,seval,vP.down,h0,h1,h7,h8,acR,decide_false]|refine Bm ?_ ?_<;>intro hb|refine fd ?_|fail))
  exact kQ _ _ _ ⟨rfl,.inl ⟨rfl,rfl⟩⟩
 ·rintro x rest i s t h J Q' kJ kQ hx hi ⟨rfl,rfl,h0,h1,h7,h8⟩
  have hgm2:=hgm
  simp only[adA,aIC,aID,aJZ]at hgm2
  have hpx:=hp x (acZ hx)
  have hd:decide ((i:Int)<(l.length:Int))=true:=by simpa using hi
  (have hb:=trivial;with_reducible repeat' (first|simp only[hb,Vc.down,seval,vP.down,h0,h1,h7,h8,hd,hx,Bf.cells,hpx,hgm2,Bo hi hl]|refine Bm ?_ ?_<;>intro hb|refine fd ?_|fail))
  ·exact kQ _ _ _ ⟨rfl,.inr ⟨rfl,by simp[up,uR,hb]⟩⟩
  ·exact Bn (kJ _ _ (i+1) ⟨by simp,rfl,by simp[up,h0],by simp[up,h1],by simp[up,h7],by simp[up]⟩ (by simp[uR,hb]))
 ·exact⟨rfl,rfl,by simp[up,Fe],by simp[up,Fe],by simp[up],by simp[up]⟩
 ·obtain⟨rfl,⟨rfl,hi⟩|⟨rfl,hi⟩⟩:=hk
  ·(have hb:=trivial;with_reducible repeat' (first|simp only[hb,Vc.down,seval,vP.down]|refine Bm ?_ ?_<;>intro hb|refine fd ?_|fail))
   rw[hi]
  ·(have hb:=trivial;with_reducible repeat' (first|simp only[hb,Vc.down,seval,vP.down,hi]|refine Bm ?_ ?_<;>intro hb|refine fd ?_|fail))
theorem adE{l:List Bf}{nn:Bool}{g:Nat}{ndq:Xs}{p:Bf→Bool}(hp:∀x∈l,Ec.call (.fn g) (.agg [.int .i64 x.vote,.bool x.is]::[.ptr 0 0 0]) [.live 9 false false [[.int .i64 ndq.frm,.int .i64 ndq.to,Ak 2 true ndq.nn (ndq.wants.map Bf.cells),.int .i64 ndq.cmd,.int .i64 ndq.after,.int .i64 ndq.st,.int .i64 ndq.ag,.int .i64 ndq.bits,.int .i64 ndq.com]]]=some (.ret (.bool (p x)),[.live 9 false false [[.int .i64 ndq.frm,.int .i64 ndq.to,Ak 2 true ndq.nn (ndq.wants.map Bf.cells),.int .i64 ndq.cmd,.int .i64 ndq.after,.int .i64 ndq.st,.int .i64 ndq.ag,.int .i64 ndq.bits,.int .i64 ndq.com]]]))(hl:l.length≤maxLen)(hgm:Ec.md g=false:=by exact rfl):
 Ec.call (.fn 89) [Ak 2 true nn (l.map Bf.cells),.func (.func g) [] [.ptr 0 0 0]] [.live 9 false false [[.int .i64 ndq.frm,.int .i64 ndq.to,Ak 2 true ndq.nn (ndq.wants.map Bf.cells),.int .i64 ndq.cmd,.int .i64 ndq.after,.int .i64 ndq.st,.int .i64 ndq.ag,.int .i64 ndq.bits,.int .i64 ndq.com]]]=some (.ret (.bool (l.any p)),[.live 9 false false [[.int .i64 ndq.frm,.int .i64 ndq.to,Ak 2 true ndq.nn (ndq.wants.map Bf.cells),.int .i64 ndq.cmd,.int .i64 ndq.after,.int .i64 ndq.st,.int .i64 ndq.ag,.int .i64 ndq.bits,.int .i64 ndq.com]]]):=by
 (refine ce Try.func89 ?_;simp only[Try.f89];(have hb:=trivial;with_reducible repeat' (first|simp only[hb,Vc.down,seval,ap6 hp hl hgm,Yf p l 0 (aAO 0)]|refine Bm ?_ ?_<;>intro hb|refine fd ?_|fail)))
def fL(bits:Int)(l:List Bf):Bool:=l.all fun w=>Ve bits w.vote==w.is
theorem aGB(n:Xs)(hl:n.wants.length≤maxLen)(h0:∀w∈n.wants,0≤w.vote):Ec.call (.fn 94) [.agg [.int .i64 n.frm,.int .i64 n.to,Ak 2 true n.nn (n.wants.map Bf.cells),.int .i64 n.cmd,.int .i64 n.after,.int .i64 n.st,.int .i64 n.ag,.int .i64 n.bits,.int .i64 n.com]] []=some (.ret (.bool (fL n.bits n.wants)),[]):=by
 have hc:=adE (ndq:=n) (l:=n.wants) (nn:=n.nn) (g:=99) (p:=fun w=> !(Ve n.bits w.vote==w.is)) (fun w hw=>aA4 n w (h0 w hw)) hl
 have q1:fL n.bits n.wants= !(n.wants.any fun w=> !(Ve n.bits w.vote==w.is)):=List.all_eq_not_any_not
 (refine ce Try.func94 ?_;simp only[Try.f94];(have hb:=trivial;with_reducible repeat' (first|simp only[hb,Vc.down,seval,beA.down,hc]|refine Bm ?_ ?_<;>intro hb|refine fd ?_|fail)))
 all_goals simp[q1]
theorem aWS(f0 f1 f2 f3:Fn)(a0 a1 a2 a3 c0 c1 c2 c3:List AV):kB Try.prog 155 [(0,.func f0 a0 c0),(1,.func f1 a1 c1),(2,.func f2 a2 c2),(3,.func f3 a3 c3)]=some (.agg [.func f0 a0 c0,.func f1 a1 c1,.func f2 a2 c2,.func f3 a3 c3]):=by kernel_rfl
theorem aL2(a b c d:AV):jT Try.prog 155 (.agg [a,b,c,d]) (.int .i64 0)=some a:=by kernel_rfl
theorem aOH(a b c d:AV):jT Try.prog 155 (.agg [a,b,c,d]) (.int .i64 1)=some b:=by kernel_rfl
theorem aME(a b c d:AV):jT Try.prog 155 (.agg [a,b,c,d]) (.int .i64 2)=some c:=by kernel_rfl
theorem aM0(a b c d:AV):jT Try.prog 155 (.agg [a,b,c,d]) (.int .i64 3)=some d:=by kernel_rfl
def azX(n:Xs):Bool:=(n.frm==n.st)&&decide (n.after≤n.ag)&&fL n.bits n.wants&&(n.cmd== -1||n.cmd==n.com)
theorem w2:IntKind.i64.wrap 2=2:=aE9 rfl rfl
theorem w3:IntKind.i64.wrap 3=3:=aE9 rfl rfl
theorem w4:IntKind.i64.wrap 4=4:=aE9 rfl rfl
theorem aCI(n:Xs)(hl:n.wants.length≤maxLen)(h0:∀w∈n.wants,0≤w.vote):Ec.call (.fn 75) [.agg [.int .i64 n.frm,.int .i64 n.to,Ak 2 true n.nn (n.wants.map Bf.cells),.int .i64 n.cmd,.int .i64 n.after,.int .i64 n.st,.int .i64 n.ag,.int .i64 n.bits,.int .i64 n.com]] []=some (.ret (.bool (azX n)),[]):=by
 have q1:=aPQ n
 have q2:=a0M n
 have q3:=aGB n hl h0
 have q4:=aPE n
 (refine ce Try.func75 ?_;simp only[Try.f75];(have hb:=trivial;with_reducible repeat' (first|simp only[hb,Vc.down,seval,a42.down,aWS,aL2,aOH,aME,aM0,q1,q2,q3,q4,w2,w3,w4]|refine Bm ?_ ?_<;>intro hb|refine fd ?_|fail)))
 (have hb:=trivial;with_reducible repeat' (first|simp only[hb,Vc.down,seval,a42.down,aWS,aL2,aOH,aME,aM0,q1,q2,q3,q4,w2,w3,w4]|refine Bm ?_ ?_<;>intro hb|refine fd ?_|refine a9O ?_|fail))
 all_goals (refine congrArg (fun b=>(Gw.ret (AV.bool b),([]:Aa))) ?_;symm;((try simp only[aKM,aqD,aAM]at *);simp only[azX, *,aG6,aAP,aHJ,aAN,aLD,aLE,aqD,aAM,aLF,aLG]))
def nd(x:Bi)(st ag bits com:Int):Xs:=⟨x.frm,x.to,x.nn,x.wants,x.cmd,x.after,st,ag,bits,com⟩
def aAR(a:Int):Int:=if IntKind.i64.wrap (a+1)<10 then IntKind.i64.wrap (a+1)else 10
def Pm(st ag bits com:Int):List Bi→Int × Int
 | []=>(st,aAR ag)
 |x::l=>if azX (nd x st ag bits com)=true then(x.to,0)else Pm st ag bits com l
theorem aK4(m:Ah)(st ag bits com:Int)(hs:m.small)(h0:∀x∈m.moves,∀w∈x.wants,0≤w.vote):
 Ec.call (.fn 45) [.agg [Ak 3 true m.nS (m.sens.map Db.cells),Ak 4 false m.nV (m.votes.map Au.cells),Ak 5 false m.nM (m.moves.map Bi.cells),.int .i64 m.states,.int .i64 m.cmds,.int .i64 m.bgn,Ak 1 true m.nO (m.opn.map iv)],.agg [.int .i64 st,.int .i64 ag],.agg [.int .i64 bits,.int .i64 com]] []=some (.ret (.agg [.int .i64 (Pm st ag bits com m.moves).1,.int .i64 (Pm st ag bits com m.moves).2]),[]):=by
 (refine ce Try.func45 ?_;simp only[Try.f45];(have hb:=trivial;with_reducible repeat' (first|simp only[hb,Vc.down,seval,aHQ.down,acL]|refine Bm ?_ ?_<;>intro hb|refine fd ?_|fail)))
 refine Eo (Wy 32 m.moves (fun i (zz:Unit) t h=>t 4=.ptr 1 0 0∧t 5=.ptr 2 0 0∧t 6=.ptr 3 0 0∧t 10=Ak 5 false m.nM (m.moves.map Bi.cells)∧t 11=.int .i64 m.moves.length∧t 12=.int .i64 i∧(h[1]?=some (.live 2 true false [[.int .i64 st,.int .i64 ag]])∧h[2]?=some (.live 2 true false [[.int .i64 bits,.int .i64 com]])∧h[3]?=some (.live 2 true false [[.int .i64 0,.int .i64 0]]))) (fun rest zz=>Pm st ag bits com rest) (fun r e t h=>(e=.exit 0∧t 4=.ptr 1 0 0∧t 6=.ptr 3 0 0∧h[1]?=some (.live 2 true false [[.int .i64 st,.int .i64 ag]])∧h[3]?=some (.live 2 true false [[.int .i64 0,.int .i64 0]])∧r=(st,aAR ag))∨(e=.ret∧t 6=.ptr 3 0 0∧h[3]?=some (.live 2 true true [[.int .i64 r.1,.int .i64 r.2]]))) ?_ ?_ () _ _ ?_) (fun e t h hk=>?_)
 ·rintro _ t h Q' kQ ⟨h4,h5,h6,h10,h11,h12,⟨hA,hB,hC⟩⟩
  (have hb:=trivial;with_reducible repeat' (first|simp only[hb,Vc.down,seval,aHQ.down,h4,h5,h6,h10,h11,h12,acR,decide_false]|refine Bm ?_ ?_<;>intro hb|refine fd ?_|fail))
  exact kQ _ _ _ (.inl ⟨rfl,by simp[up,h4],by simp[up,h6],hA,hC,rfl⟩)
 ·rintro x rest i _ t h J Q' kJ kQ hx hi ⟨h4,h5,h6,h10,h11,h12,⟨hA,hB,hC⟩⟩
  have hd:decide ((i:Int)<(m.moves.length:Int))=true:=decide_eq_true (by omega)
  have hw:=Bo hi hs.moves
  have hA1:=Ae hA
  have hB1:=Ae hB
  have hC1:=Ae hC
  have hap:=aCI (nd x st ag bits com) (hs.ws x (acZ hx)) (h0 x (acZ hx))
  have h3l:3<h.length:=(aLH.1 hC).1
  generalize hq:azX (nd x st ag bits com)=q at hap
  simp only[nd]at hap
  (have hb:=trivial;with_reducible repeat' (first|simp only[hb,Vc.down,seval,aHQ.down,h4,h5,h6,h10,h11,h12,hd,hx,hw,hA1,hB1,hC1,hap,Bi.cells,acL]|refine Bm ?_ ?_<;>intro hb|refine fd ?_|fail))
  ·exact kQ _ _ _ (.inr ⟨rfl,by simp[up,h6],by rw[aM9 (by simp;omega)];simp[Pm,hq,hb]⟩)
  ·(refine Bn (kJ _ _ () ⟨?_,?_,?_,?_,?_,?_,⟨hA1 _,hB1 _,hC1 _⟩⟩ ?_);(simp[up,h4]);(simp[up,h5]);(simp[up,h6]);(simp[up,h10]);(simp[up,h11]);(simp[up]);(simp[Pm,hq,hb]))
 ·exact⟨by simp[up,Fe],by simp[up,Fe],by simp[up,Fe],by simp[up,Fe],by simp[up,Fe],by simp[up],⟨rfl,rfl,rfl⟩⟩
 rcases hk with⟨rfl,h4,h6,hA,hC,hr⟩|⟨rfl,h6,hC⟩
 ·have hA1:=Ae hA
  have hC1:=Ae hC
  have h3l:3<h.length:=(aLH.1 hC).1
  have hset:∀c:CB,(h.set 3 c)[3]?=some c:=fun c=>aM9 h3l
  have hmt:(if IntKind.i64.wrap (ag+1)<10 then IntKind.i64.wrap (ag+1)else 10)=aAR ag:=rfl
  rw[hr]
  (have hb:=trivial;with_reducible repeat' (first|simp only[hb,Vc.down,seval,aHQ.down,h4,h6,hA,hC,hA1,hC1,hset,hmt]|refine Bm ?_ ?_<;>intro hb|refine fd ?_|fail))
 ·(have hb:=trivial;with_reducible repeat' (first|simp only[hb,Vc.down,seval,aHQ.down,h6,hC]|refine Bm ?_ ?_<;>intro hb|refine fd ?_|fail))
theorem aMJ{α:Type}{d:List AV→Option α}{f:α→List AV}(hd:∀cs x,d cs=some x→cs=f x):∀{rows:List (List AV)} {l:List α},Da d rows=some l→rows=l.map f
 | [],l,h=>by simp[Da]at h;subst h;rfl
 |r::rows,l,h=>by
  simp only[Da,aCF,aC6]at h
  obtain⟨x,h1,l',h2,rfl⟩:=h
  rw[hd r x h1,aMJ hd h2];rfl
def dSl{α:Type}(n:Nat)(fl:Bool)(d:List AV→Option α):AV→Option (Bool × List α)
 | .nils=>some (false,[])
 | .imm n' fl' rows=>if n'=n∧fl'=fl then(Da d rows).map fun l=>(true,l)else none
 |_=>none
theorem aoC{α:Type}{n:Nat}{fl:Bool}{d:List AV→Option α}{f:α→List AV}(hd:∀cs x,d cs=some x→cs=f x){v:AV}{x:Bool × List α}(h:dSl n fl d v=some x):v=Ak n fl x.1 (x.2.map f):=by
 unfold dSl at h
 split at h
 ·cases h;rfl
 ·split at h
  ·rename_i hq
   obtain⟨rfl,rfl⟩:=hq
   obtain⟨l,h1,rfl⟩:=aC6.1 h
   rw[aMJ hd h1]
   cases l<;>rfl
  ·cases h
 ·cases h
def a0C:List AV→Option Int
 | [.int .i64 a]=>some a
 |_=>none
theorem aLC(cs:List AV)(x:Int)(h:a0C cs=some x):cs=iv x:=by
 unfold a0C at h
 split at h
 ·cases h;rfl
 ·cases h
def a78:List AV→Option Db
 | [.int .i64 a,.int .i64 b,.bool c]=>some ⟨a,b,c⟩
 |_=>none
theorem a37(cs:List AV)(x:Db)(h:a78 cs=some x):cs=x.cells:=by
 unfold a78 at h
 split at h
 ·cases h;rfl
 ·cases h
def aY9:List AV→Option Au
 | [l,.int .i64 a,.int .i64 b,.bool c]=>(dSl 1 true a0C l).map fun x=>⟨x.1,x.2,a,b,c⟩
 |_=>none
theorem aZI(cs:List AV)(x:Au)(h:aY9 cs=some x):cs=x.cells:=by
 unfold aY9 at h
 split at h
 ·obtain⟨y,h1,rfl⟩:=aC6.1 h
  rw[aoC aLC h1];rfl
 ·cases h
def aXW:List AV→Option Bf
 | [.int .i64 a,.bool c]=>some ⟨a,c⟩
 |_=>none
theorem a05(cs:List AV)(x:Bf)(h:aXW cs=some x):cs=x.cells:=by
 unfold aXW at h
 split at h
 ·cases h;rfl
 ·cases h
def aX0:List AV→Option Bi
 | [.int .i64 a,.int .i64 b,l,.int .i64 c,.int .i64 d]=>(dSl 2 true aXW l).map fun x=>⟨a,b,x.1,x.2,c,d⟩
 |_=>none
theorem aWM(cs:List AV)(x:Bi)(h:aX0 cs=some x):cs=x.cells:=by
 unfold aX0 at h
 split at h
 ·obtain⟨y,h1,rfl⟩:=aC6.1 h
  rw[aoC a05 h1];rfl
 ·cases h
def aNZ:List AV→Option Ah
 | [s,v,x,.int .i64 a,.int .i64 b,.int .i64 c,o]=>(dSl 3 true a78 s).bind fun s=>(dSl 4 false aY9 v).bind fun v=>(dSl 5 false aX0 x).bind fun x=>(dSl 1 true a0C o).map fun o=>⟨s.1,s.2,v.1,v.2,x.1,x.2,a,b,c,o.1,o.2⟩
 |_=>none
theorem aFV(cs:List AV)(x:Ah)(h:aNZ cs=some x):cs=x.cells:=by
 unfold aNZ at h
 split at h
 ·simp only[aCF,aC6]at h
  obtain⟨s,h1,v,h2,y,h3,o,h4,rfl⟩:=h
  rw[aoC a37 h1,aoC aZI h2,aoC aWM h3,aoC aLC h4]
 ·cases h
def aF5(m:Ah):Bool:=decide (m.sens.length≤1000)&&decide (m.votes.length≤1000)&&decide (m.moves.length≤1000)&&decide (m.opn.length≤1000)&&m.votes.all (fun v=>decide (v.sens.length≤1000))&&m.moves.all (fun x=>decide (x.wants.length≤1000))
theorem aAS{m:Ah}(h:aF5 m=true):m.small:=by
 simp only[aF5,aLI,decide_eq_true_eq,aHM]at h
 obtain⟨⟨⟨⟨⟨a,b⟩,c⟩,d⟩,e⟩,f⟩:=h
 exact⟨by unfold maxLen;omega,by unfold maxLen;omega,by unfold maxLen;omega,by unfold maxLen;omega,fun v hv=>by have:=e v hv;unfold maxLen;omega,fun v hv=>by have:=f v hv;unfold maxLen;omega⟩
def aZ7:List AV→Aa→Option (Gw × Aa)
 | [.agg cs],[]=>(aNZ cs).bind fun m=>if aF5 m=true then some (.ret (.bool (Ce m)),[])else none
 |_,_=>none
def a6G:List AV→Aa→Option (Gw × Aa)
 | [.agg cs,.agg [.int .i64 st,.int .i64 ag],.agg [.int .i64 bits,.int .i64 com]],[]=>(aNZ cs).bind fun m=>if(aF5 m&&m.moves.all fun x=>x.wants.all fun w=>decide (0≤w.vote))=true then
     (match Pm st ag bits com m.moves with
       |(a,b)=>some (.ret (.agg [.int .i64 a,.int .i64 b]),[]))else none
 |_,_=>none
def aYG:List AV→Aa→Option (Gw × Aa)
 | [.agg cs,l],[]=>(aNZ cs).bind fun m=>(dSl 1 true a0C l).bind fun l=>if(aF5 m&&decide (l.2.length=m.sens.length)&&m.votes.all fun v=>v.sens.all fun k=>decide (0≤k)&&decide (k.toNat<m.sens.length))=true then
     some (.ret (.int .i64 (Yw m l.2 m.votes 0 0)),[])else none
 |_,_=>none
def pr2:Pz:={ pr with at_:=fun f=>if f=42 then some aZ7 else if f=45 then some a6G else if f=46 then some aYG else pr f }
theorem a66(f:Nat)(h:pr2 f=none):pr f=none:=by
 simp only[pr2]at h
 split at h
 ·cases h
 ·split at h
  ·cases h
  ·split at h
   ·cases h
   ·exact h
theorem aOO{tab:List Ent}(f:Nat)(h:axP pr2 tab f=none):pr f=none:=by
 simp only[axP]at h
 split at h
 ·cases h
 ·exact a66 f h
theorem aBO:∀f p,pr2 f=some p→∀a h r,p a h=some r→Ec.call (.fn f) a h=some r:=by
 intro f p hp a h r hr
 simp only[pr2]at hp
 split at hp
 ·rename_i hf
  subst hf
  cases hp
  unfold aZ7 at hr
  split at hr
  ·rename_i cs
   obtain⟨s,h1,h2⟩:=aCF.1 hr
   split at h2
   ·rename_i hs
    cases h2
    rw[aFV _ _ h1]
    exact aD1 s (aAS hs)
   ·cases h2
  ·cases hr
 ·split at hp
  ·rename_i hf
   subst hf
   cases hp
   unfold a6G at hr
   split at hr
   ·rename_i cs st ag bits com
    obtain⟨s,h1,h2⟩:=aCF.1 hr
    split at h2
    ·rename_i hs
     simp only[aLI,aHM,decide_eq_true_eq]at hs
     cases h2
     rw[aFV _ _ h1]
     exact aK4 s st ag bits com (aAS hs.1) hs.2
    ·cases h2
   ·cases hr
  ·split at hp
   ·rename_i hf
    subst hf
    cases hp
    unfold aYG at hr
    split at hr
    ·rename_i cs l
     simp only[aCF]at hr
     obtain⟨s,h1,y,h2,h3⟩:=hr
     split at h3
     ·rename_i hs
      simp only[aLI,aHM,decide_eq_true_eq]at hs
      cases h3
      rw[aFV _ _ h1,aoC aLC h2]
      exact aEA s hs.1.2 (aAS hs.1.1) (fun v hv k hk=>hs.2 v hv k hk)
     ·cases h3
    ·cases hr
   ·exact aSM hp hr
def exA:AV:=.agg [.imm 3 true [[.int .i64 0,.int .i64 100,.bool false],[.int .i64 0,.int .i64 100,.bool false],[.int .i64 0,.int .i64 100,.bool false]],.imm 4 false [[.imm 1 true [[.int .i64 0],[.int .i64 1],[.int .i64 2]],.int .i64 2,.int .i64 80,.bool true]],.imm 5 false [[.int .i64 0,.int .i64 1,.imm 2 true [[.int .i64 0,.bool true]],.int .i64 (-1),.int .i64 0],[.int .i64 1,.int .i64 2,.nils,.int .i64 (-1),.int .i64 1],[.int .i64 2,.int .i64 0,.imm 2 true [[.int .i64 0,.bool false]],.int .i64 0,.int .i64 2]],.int .i64 3,.int .i64 1,.int .i64 0,.imm 1 true [[.int .i64 3],[.int .i64 1],[.int .i64 0]]]
def exS:AV:=.imm 2 true [[.int .i64 1,.int .i64 (-1)],[.int .i64 1,.int .i64 0],[.int .i64 0,.int .i64 (-1)],[.int .i64 0,.int .i64 0]]
def E0:Ent:=⟨54,[exA],(.ret (.tup [.slr 2 0 0 4,.slr 2 1 0 4]),[.live 2 false false [[.slr 1 2 0 3,.int .i64 (-1)],[.slr 1 3 0 3,.int .i64 0],[.slr 1 4 0 3,.int .i64 (-1)],[.slr 1 5 0 3,.int .i64 0]],.live 2 true false [[.int .i64 1,.int .i64 (-1)],[.int .i64 1,.int .i64 0],[.int .i64 0,.int .i64 (-1)],[.int .i64 0,.int .i64 0]],.live 1 true false [[.int .i64 (-10000)],[.int .i64 (-10000)],[.int .i64 (-10000)]],.live 1 true false [[.int .i64 (-10000)],[.int .i64 (-10000)],[.int .i64 (-10000)]],.live 1 true false [[.int .i64 (-10000)],[.int .i64 0],[.int .i64 0]],.live 1 true false [[.int .i64 (-10000)],[.int .i64 0],[.int .i64 0]]])⟩
def E1:Ent:=⟨55,[exA,exS],(.ret (.tup [.slr 2 0 0 24,.mapr 1]),[.live 2 true false [[.int .i64 0,.int .i64 0],[.int .i64 1,.int .i64 0],[.int .i64 0,.int .i64 1],[.int .i64 1,.int .i64 1],[.int .i64 0,.int .i64 2],[.int .i64 2,.int .i64 0],[.int .i64 0,.int .i64 3],[.int .i64 2,.int .i64 1],[.int .i64 0,.int .i64 4],[.int .i64 2,.int .i64 2],[.int .i64 0,.int .i64 5],[.int .i64 2,.int .i64 3],[.int .i64 0,.int .i64 6],[.int .i64 2,.int .i64 4],[.int .i64 0,.int .i64 7],[.int .i64 2,.int .i64 5],[.int .i64 0,.int .i64 8],[.int .i64 2,.int .i64 6],[.int .i64 0,.int .i64 9],[.int .i64 2,.int .i64 7],[.int .i64 0,.int .i64 10],[.int .i64 2,.int .i64 8],[.int .i64 2,.int .i64 9],[.int .i64 2,.int .i64 10]],.lp [] .skip .skip [.agg [.int .i64 0,.int .i64 0],.agg [.int .i64 0,.int .i64 0,.int .i64 (-1)],.agg [.int .i64 1,.int .i64 0],.agg [.int .i64 0,.int .i64 0,.int .i64 0],.agg [.int .i64 0,.int .i64 1],.agg [.int .i64 0,.int .i64 0,.int .i64 2],.agg [.int .i64 1,.int .i64 1],.agg [.int .i64 1,.int .i64 0,.int .i64 0],.agg [.int .i64 0,.int .i64 2],.agg [.int .i64 0,.int .i64 1,.int .i64 2],.agg [.int .i64 2,.int .i64 0],.agg [.int .i64 1,.int .i64 1,.int .i64 0],.agg [.int .i64 0,.int .i64 3],.agg [.int .i64 0,.int .i64 2,.int .i64 2],.agg [.int .i64 2,.int .i64 1],.agg [.int .i64 2,.int .i64 0,.int .i64 0],.agg [.int .i64 0,.int .i64 4],.agg [.int .i64 0,.int .i64 3,.int .i64 2],.agg [.int .i64 2,.int .i64 2],.agg [.int .i64 2,.int .i64 1,.int .i64 0],.agg [.int .i64 0,.int .i64 5],.agg [.int .i64 0,.int .i64 4,.int .i64 2],.agg [.int .i64 2,.int .i64 3],.agg [.int .i64 2,.int .i64 2,.int .i64 0],.agg [.int .i64 0,.int .i64 6],.agg [.int .i64 0,.int .i64 5,.int .i64 2],.agg [.int .i64 2,.int .i64 4],.agg [.int .i64 2,.int .i64 3,.int .i64 0],.agg [.int .i64 0,.int .i64 7],.agg [.int .i64 0,.int .i64 6,.int .i64 2],.agg [.int .i64 2,.int .i64 5],.agg [.int .i64 2,.int .i64 4,.int .i64 0],.agg [.int .i64 0,.int .i64 8],.agg [.int .i64 0,.int .i64 7,.int .i64 2],.agg [.int .i64 2,.int .i64 6],.agg [.int .i64 2,.int .i64 5,.int .i64 0],.agg [.int .i64 0,.int .i64 9],.agg [.int .i64 0,.int .i64 8,.int .i64 2],.agg [.int .i64 2,.int .i64 7],.agg [.int .i64 2,.int .i64 6,.int .i64 0],.agg [.int .i64 0,.int .i64 10],.agg [.int .i64 0,.int .i64 9,.int .i64 2],.agg [.int .i64 2,.int .i64 8],.agg [.int .i64 2,.int .i64 7,.int .i64 0],.agg [.int .i64 2,.int .i64 9],.agg [.int .i64 2,.int .i64 8,.int .i64 0],.agg [.int .i64 2,.int .i64 10],.agg [.int .i64 2,.int .i64 9,.int .i64 0]] .map])⟩
def E2:Ent:=⟨30,[exA,.int .i64 2],(.ret (.tup [.slr 2 0 0 3,.int .i64 0]),[.live 2 false true [[.slr 1 1 0 3,.int .i64 (-1)],[.slr 1 2 0 3,.int .i64 (-1)],[.slr 1 3 0 3,.int .i64 (-1)]],.live 1 true false [[.int .i64 (-10000)],[.int .i64 (-10000)],[.int .i64 (-10000)]],.live 1 true false [[.int .i64 (-10000)],[.int .i64 (-10000)],[.int .i64 (-10000)]],.live 1 true false [[.int .i64 (-10000)],[.int .i64 (-10000)],[.int .i64 (-10000)]]])⟩
def E3:Ent:=⟨21,[exA,.int .i64 0,.imm 1 true [[.int .i64 2]]],(.ret (.tup [.int .i64 3,.int .i64 0]),[])⟩
def E4:Ent:=⟨21,[exA,.int .i64 0,.imm 1 true [[.int .i64 0]]],(.ret (.tup [.int .i64 0,.int .i64 5]),[])⟩
theorem a9Q:(nQ Try.prog pr2 400).call (.fn E0.f) E0.args []=some E0.res:=by kernel_rfl
theorem aSK:Ec.call (.fn E0.f) E0.args []=some E0.res:=vK (pr:=pr) (pr2:=pr2) rfl a66 aBO a9Q
def T1:Pz:=axP pr2 [E0]
theorem biN:∀f p,T1 f=some p→∀a h r,p a h=some r→Ec.call (.fn f) a h=some r:=adD aBO (fun e he=>by
 simp only[aC7,aEO,or_false]at he
 rcases he with rfl
 ·exact aSK)
theorem baY:(nQ Try.prog T1 400).call (.fn E1.f) E1.args []=some E1.res:=by kernel_rfl
theorem aZX:Ec.call (.fn E1.f) E1.args []=some E1.res:=vK (pr:=pr) (pr2:=T1) rfl aOO biN baY
def T2:Pz:=axP pr2 [E0,E1]
theorem bfY:∀f p,T2 f=some p→∀a h r,p a h=some r→Ec.call (.fn f) a h=some r:=adD aBO (fun e he=>by
 simp only[aC7,aEO,or_false]at he
 rcases he with rfl|rfl
 ·exact aSK
 ·exact aZX)
theorem baN:(nQ Try.prog T2 400).call (.fn E2.f) E2.args []=some E2.res:=by kernel_rfl
theorem bi2:Ec.call (.fn E2.f) E2.args []=some E2.res:=vK (pr:=pr) (pr2:=T2) rfl aOO bfY baN
def T3:Pz:=axP pr2 [E0,E1]
theorem bc4:∀f p,T3 f=some p→∀a h r,p a h=some r→Ec.call (.fn f) a h=some r:=adD aBO (fun e he=>by
 simp only[aC7,aEO,or_false]at he
 rcases he with rfl|rfl
 ·exact aSK
 ·exact aZX)
theorem a9S:(nQ Try.prog T3 400).call (.fn E3.f) E3.args []=some E3.res:=by kernel_rfl
theorem beE:Ec.call (.fn E3.f) E3.args []=some E3.res:=vK (pr:=pr) (pr2:=T3) rfl aOO bc4 a9S
def T4:Pz:=axP pr2 [E0,E1]
theorem bcT:∀f p,T4 f=some p→∀a h r,p a h=some r→Ec.call (.fn f) a h=some r:=adD aBO (fun e he=>by
 simp only[aC7,aEO,or_false]at he
 rcases he with rfl|rfl
 ·exact aSK
 ·exact aZX)
theorem a67:(nQ Try.prog T4 400).call (.fn E4.f) E4.args []=some E4.res:=by kernel_rfl
theorem bd3:Ec.call (.fn E4.f) E4.args []=some E4.res:=vK (pr:=pr) (pr2:=T4) rfl aOO bcT a67
def TK:Pz:=axP pr2 [E2,E3,E4]
theorem bf4:∀f p,TK f=some p→∀a h r,p a h=some r→Ec.call (.fn f) a h=some r:=adD aBO (fun e he=>by
 simp only[aC7,aEO,or_false]at he
 rcases he with rfl|rfl|rfl
 ·exact bi2
 ·exact beE
 ·exact bd3)
theorem aVZ:(nQ Try.prog TK 400).call (.fn 13) [] []=some (.ret (.bool true),[]):=by kernel_rfl
theorem known_ok:Ec.call (.fn 13) [] []=some (.ret (.bool true),[]):=vK (pr:=pr) (pr2:=TK) rfl aOO bf4 aVZ
end Go.Proofs.Ytfkokgjfpojeoaa.Ko
namespace Go.Proofs.Ytfkokgjfpojeoaa
open Go Go.Ev Go.ChangeShapes Go.WideShapes Go.ChangeAt Go.RowKit
set_option maxRecDepth 100000
set_option maxHeartbeats 16000000
def mdL:List Nat:=[96,83,78,56,54,55,79,63,64,135,136,39,67]
def aK5:List AV→Aa→Option (Gw × Aa)
 | [],[]=>some (.ret (.bool true),[])
 |_,_=>none
theorem aP1:aKS Try.prog (fun _=>none) 13 aK5:=fun args h out h' hp=>by
 unfold aK5 at hp
 split at hp
 ·cases hp;exact Ko.calls_ok.1 _ _ _ _ _ Ko.known_ok
 ·cases hp
def pr:Pz:={ at_:=fun f=>if f=13 then some aK5 else none,md:=(mdL.contains ·),sh:=fun f=>if f=96 then some aHV else none }
noncomputable def Ec:Hz:=om Try.prog pr
theorem adA(f:Nat):Ec.md f=([96,83,78,56,54,55,79,63,64,135,136,39,67]:List Nat).contains f:=aE9 rfl rfl
def Vc:=PLift.up (And.intro EG.down (And.intro EVu.down @adA))
theorem a9O{C:R→Prop}[NoN C]{n:Nat}{k:List Br}{c:Code}{s:St}(h:Un Ec Try.prog n k c C (Fp Ec Try.prog 5000 c [] s)):C (lpK Ec Try.prog n k (Ec.loop c s)):=a6I (pr:=pr) h
theorem own:ownKnob Try.prog.godebug=none:=by kernel_rfl
theorem a3J:aO1 Try.prog:=fun f fn hf=>by
 have h:(Try.prog.funcs.toList.all fun fn=> !(fn.name== "runtime.NumGoroutine"))=true:=by kernel_rfl
 have:=aHM.1 h fn (by rw[Array.mem_toList_iff];exact Array.mem_of_getElem? hf)
 simpa using this
theorem mixed:Try.prog.follows .mixedOrders=true:=by kernel_rfl
theorem a3D:laidOutB Try.prog=true:=by kernel_rfl
theorem calls_ok:Me Try.prog (fun _=>none) Ec:=a6V a3J ⟨fun f p h=>(by
 simp only[pr]at h
 split at h
 ·rename_i e;subst e;cases h;exact aP1
 ·cases h),fun f p h=>(by
 simp only[pr]at h
 split at h
 ·rename_i e;subst e;cases h;exact a4Q (aQD a3J Try.func96 rfl) Try.slices_Sort_int
 ·cases h)⟩ mixed
theorem a9M{W:World}{S:Nat→Prop}:qG (fun _=>none) W S:=fun b o h=>by cases h
theorem aJT{f:Nat}{fn:Func}{c:Code}{args:List AV}{h:Aa}{Q:Gw→Aa→Prop}(hp:pr f=none)(hf:Try.prog.funcs[f]?=some fn)(hb:fn.body=some c)(hl:Nat.ble args.length fn.ntmps=true)
 (he:FnE Try.prog h.length fn.results.toList Q (Fp Ec Try.prog 5000 c [] ⟨mk fn.ntmps (Fe args),h⟩)):ClQ Ec f args h Q:=ClQ.start (pr:=pr) hp hf hb hl he
theorem anJ{f:Nat}{fn:Func}{c:Code}{args:List AV}{h:Aa}{Q:Gw→Aa→Prop}(hp:pr f=none)(hf:Try.prog.funcs[f]?=some fn)(hb:fn.body=some c)(hl:Nat.ble args.length fn.ntmps=true)
 (he:FnS Try.prog fn.results.toList Q (Fp Ec Try.prog 5000 c [] ⟨mk fn.ntmps (Fe args),h⟩)) (hs:pr.sh f=none:=by exact rfl):ShQ Ec f args h Q:=ShQ.start (pr:=pr) hp hf hb hl he hs
theorem ce{f:Nat}{fn:Func}{c:Code}{args:List AV}{h:Aa}{o:Gw}{h':Aa}(hf:Try.prog.funcs[f]?=some fn)(he:FnE Try.prog h.length fn.results.toList (fun o1 h1=>(o1,h1)=(o,h')) (Fp Ec Try.prog 5000 c [] ⟨mk fn.ntmps (Fe args),h⟩))(hp:pr f=none:=by exact rfl)(hb:fn.body=some c:=by exact rfl)(hl:Nat.ble args.length fn.ntmps=true:=by exact rfl):Ec.call (.fn f) args h=some (o,h'):=(aJT hp hf hb hl he).eq
theorem Wy{α σ ρ:Type}{c:Code}(N:Nat)(l:List α)(E:Nat→σ→Tm→Aa→Prop)(F:List α→σ→ρ)(Q:ρ→Ex→Tm→Aa→Prop)
 (stop:∀s t h Q',(∀e t h,Q (F [] s) e t h→Q' e ⟨mk N t,h⟩)→E l.length s t h→Rnd N (fun _ _=>False) Q' (Fp Ec Try.prog 5000 c [] ⟨mk N t,h⟩))
 (go:∀x rest i s t h J Q',(∀t' h' s',E (i+1) s' t' h'→F rest s'=F (x::rest) s→J t' h')→(∀e t h,Q (F (x::rest) s) e t h→Q' e ⟨mk N t,h⟩)→l[i]?=some x→i<l.length→E i s t h→
   Rnd N J Q' (Fp Ec Try.prog 5000 c [] ⟨mk N t,h⟩)):
 ∀s t h,E 0 s t h→LpQ Ec c ⟨mk N t,h⟩ (Ot N (Q (F l s))):=aII (pr:=pr) rfl N l E F Q stop go
theorem cnt{σ ρ:Type}{c:Code}(N:Nat)(E:Nat→σ→Tm→Aa→Prop)(F:Nat→σ→ρ)(Q:ρ→Ex→Tm→Aa→Prop)
 (stop:∀s t h Q',(∀e t h,Q (F 0 s) e t h→Q' e ⟨mk N t,h⟩)→E 0 s t h→Rnd N (fun _ _=>False) Q' (Fp Ec Try.prog 5000 c [] ⟨mk N t,h⟩))
 (go:∀n s t h J Q',(∀t' h' s',E n s' t' h'→F n s'=F (n+1) s→J t' h')→(∀e t h,Q (F (n+1) s) e t h→Q' e ⟨mk N t,h⟩)→E (n+1) s t h→Rnd N J Q' (Fp Ec Try.prog 5000 c [] ⟨mk N t,h⟩)):
 ∀n s t h,E n s t h→LpQ Ec c ⟨mk N t,h⟩ (Ot N (Q (F n s))):=a07 (pr:=pr) rfl N E F Q stop go
def iv(x:Int):List AV:=[.int .i64 x]
theorem Ae{h:Aa}{b:Nat}{c:CB}(h0:h[b]?=some c)(l:Aa):(h++l)[b]?=some c:=by
 rw[List.getElem?_append_left (aLH.1 h0).1];exact h0
end Go.Proofs.Ytfkokgjfpojeoaa
namespace Go.Proofs.Ytfkokgjfpojeoaa
open Go.Ev Go
set_option maxRecDepth 100000
set_option maxHeartbeats 16000000
structure Db where
 lo:Int
 hi:Int
 byp:Bool
def Db.cells(s:Db):List AV:=[.int .i64 s.lo,.int .i64 s.hi,.bool s.byp]
structure Au where
 nn:Bool
 sens:List Int
 need:Int
 level:Int
 above:Bool
def Au.cells(v:Au):List AV:=[Ak 1 true v.nn (v.sens.map iv),.int .i64 v.need,.int .i64 v.level,.bool v.above]
structure Bf where
 vote:Int
 is:Bool
def Bf.cells(w:Bf):List AV:=[.int .i64 w.vote,.bool w.is]
structure Bi where
 frm:Int
 to:Int
 nn:Bool
 wants:List Bf
 cmd:Int
 after:Int
def Bi.cells(x:Bi):List AV:=[.int .i64 x.frm,.int .i64 x.to,Ak 2 true x.nn (x.wants.map Bf.cells),.int .i64 x.cmd,.int .i64 x.after]
structure Ah where
 nS:Bool
 sens:List Db
 nV:Bool
 votes:List Au
 nM:Bool
 moves:List Bi
 states:Int
 cmds:Int
 bgn:Int
 nO:Bool
 opn:List Int
abbrev Ah.cells(m:Ah):List AV:=[Ak 3 true m.nS (m.sens.map Db.cells),Ak 4 false m.nV (m.votes.map Au.cells),Ak 5 false m.nM (m.moves.map Bi.cells),.int .i64 m.states,.int .i64 m.cmds,.int .i64 m.bgn,Ak 1 true m.nO (m.opn.map iv)]
structure azE where
 nn:Bool
 reads:List Int
 cmd:Int
def azE.cells(s:azE):List AV:=[Ak 1 true s.nn (s.reads.map iv),.int .i64 s.cmd]
structure Ah.small(m:Ah):Prop where
 sens:m.sens.length≤maxLen
 votes:m.votes.length≤maxLen
 moves:m.moves.length≤maxLen
 opn:m.opn.length≤maxLen
 vs:∀v∈m.votes,v.sens.length≤maxLen
 ws:∀x∈m.moves,x.wants.length≤maxLen
def Qy(x lo hi:Int):Bool:=decide (lo≤x)&&decide (x≤hi)
theorem cA(x lo hi:Int):Ec.call (.fn 43) [.int .i64 x,.int .i64 lo,.int .i64 hi] []=some (.ret (.bool (Qy x lo hi)),[]):=by
 (refine ce Try.func43 ?_;simp only[Try.f43];(have hb:=trivial;with_reducible repeat' (first|simp only[hb,Vc.down,seval]|refine Bm ?_ ?_<;>intro hb|refine fd ?_|fail)))
 all_goals simp[Qy, *]
theorem aEY(x lo hi:Int):Ec.call (.fn 48) [.int .i64 x,.int .i64 lo,.int .i64 hi] []=some (.ret (.bool (Qy x lo hi)),[]):=by
 (refine ce Try.func48 ?_;simp only[Try.f48];(have hb:=trivial;with_reducible repeat' (first|simp only[hb,Vc.down,seval]|refine Bm ?_ ?_<;>intro hb|refine fd ?_|fail)))
 all_goals simp[Qy, *]
def mD(x:Int):Bool:=Qy x (-10000) 10000
theorem aiA(x:Int):Ec.call (.fn 69) [.int .i64 x] []=some (.ret (.bool (mD x)),[]):=by
 (refine ce Try.func69 ?_;simp only[Try.f69];(have hb:=trivial;with_reducible repeat' (first|simp only[hb,Vc.down,seval,cA]|refine Bm ?_ ?_<;>intro hb|refine fd ?_|fail)))
 all_goals rfl
theorem aEU(x:Int):Ec.call (.fn 74) [.int .i64 x] []=some (.ret (.bool (!Qy x 0 255)),[]):=by
 (refine ce Try.func74 ?_;simp only[Try.f74];(have hb:=trivial;with_reducible repeat' (first|simp only[hb,Vc.down,seval,cA]|refine Bm ?_ ?_<;>intro hb|refine fd ?_|fail)))
def Re(s:Db)(v:Au)(r:Int):Bool:= !s.byp&&(!Qy r s.lo s.hi||(if v.above=true then decide (v.level≤r)else decide (r≤v.level)))
theorem aJ7(s:Db)(v:Au)(r:Int):Ec.call (.fn 76) [.agg [.int .i64 s.lo,.int .i64 s.hi,.bool s.byp],.agg [Ak 1 true v.nn (v.sens.map iv),.int .i64 v.need,.int .i64 v.level,.bool v.above],.int .i64 r] []=some (.ret (.bool (Re s v r)),[]):=by
 (refine ce Try.func76 ?_;simp only[Try.f76];(have hb:=trivial;with_reducible repeat' (first|simp only[hb,Vc.down,seval,bgV.down,cA]|refine Bm ?_ ?_<;>intro hb|refine fd ?_|fail)))
 all_goals simp_all[Re]
def uR{α:Type}(p:α→Bool):List α→Int→Int
 | [],_=> -1
 |x::l,i=>if p x=true then i else uR p l (i+1)
theorem Yf{α:Type}(p:α→Bool):∀(l:List α) (i:Int),0≤i→decide (0≤uR p l i)=l.any p
 | [],i,_=>rfl
 |x::l,i,h=>by
  unfold uR
  split
  ·rename_i hp;simp[h,hp]
  ·rename_i hp;rw[Yf p l (i+1) (by omega)];simp[hp]
theorem aFB{l:List Int}{nn:Bool}{g:Nat}{cap:List AV}{p:Int→Bool}(hc:cap.all (Di 8)=true)(hc7:cap.all (Di 7)=true)(hp:∀x∈l,Ec.call (.fn g) (.int .i64 x::cap) []=some (.ret (.bool (p x)),[]))(hl:l.length≤maxLen)(hgm:Ec.md g=false:=by exact rfl):
 Ec.call (.fn 91) [Ak 1 true nn (l.map iv),.func (.func g) [] cap] []=some (.ret (.int .i64 (uR p l 0)),[]):=by
 (refine ce Try.func91 ?_;simp only[Try.f91];(have hb:=trivial;with_reducible repeat' (first|simp only[hb,Vc.down,seval,aHN.down,acL]|refine Bm ?_ ?_<;>intro hb|refine fd ?_|fail)))
 refine Eo (Wy 19 l (fun i (s:Int) t h=>s=i∧h=[]∧t 0=Ak 1 true nn (l.map iv)∧t 1=.func (.func g) [] cap∧t 7=.int .i64 l.length∧t 8=.int .i64 i)
  (fun rest s=>uR p rest s) (fun r e t h=>h=[]∧((e=.exit 0∧r= -1)∨(e=.ret∧t 4=.int .i64 r))) ?_ ?_ 0 _ _ ?_) (fun e t h hk=>?_)
 ·rintro s t h Q' kQ ⟨rfl,rfl,h0,h1,h7,h8⟩
  (have hb:=trivial;with_reducible repeat' (first|simp only[hb,Vc.down,seval,aHN.down,h0,h1,h7,h8,acR,decide_false]|refine Bm ?_ ?_<;>intro hb|refine fd ?_|fail))
  exact kQ _ _ _ ⟨rfl,.inl ⟨rfl,rfl⟩⟩
 ·rintro x rest i s t h J Q' kJ kQ hx hi ⟨rfl,rfl,h0,h1,h7,h8⟩
  have hgm2:=hgm
  simp only[adA,aIC,aID,aJZ]at hgm2
  have hpx:=hp x (acZ hx)
  have hd:decide ((i:Int)<(l.length:Int))=true:=by simpa using hi
  (have hb:=trivial;with_reducible repeat' (first|simp only[hb,Vc.down,seval,aHN.down,h0,h1,h7,h8,hd,hx,iv,hc,hc7,hpx,hgm2,Bo hi hl]|refine Bm ?_ ?_<;>intro hb|refine fd ?_|fail))
  ·exact kQ _ _ _ ⟨rfl,.inr ⟨rfl,by simp[up,uR,hb]⟩⟩
  ·exact Bn (kJ _ _ (i+1) ⟨by simp,rfl,by simp[up,h0],by simp[up,h1],by simp[up,h7],by simp[up]⟩ (by simp[uR,hb]))
 ·exact⟨rfl,rfl,by simp[up,Fe],by simp[up,Fe],by simp[up],by simp[up]⟩
 ·obtain⟨rfl,⟨rfl,hi⟩|⟨rfl,hi⟩⟩:=hk
  ·(have hb:=trivial;with_reducible repeat' (first|simp only[hb,Vc.down,seval,aHN.down]|refine Bm ?_ ?_<;>intro hb|refine fd ?_|fail))
   rw[hi]
  ·(have hb:=trivial;with_reducible repeat' (first|simp only[hb,Vc.down,seval,aHN.down,hi]|refine Bm ?_ ?_<;>intro hb|refine fd ?_|fail))
theorem aA9{l:List Int}{nn:Bool}{g:Nat}{cap:List AV}{p:Int→Bool}(hc:cap.all (Di 8)=true)(hc7:cap.all (Di 7)=true)(hp:∀x∈l,Ec.call (.fn g) (.int .i64 x::cap) []=some (.ret (.bool (p x)),[]))(hl:l.length≤maxLen)(hgm:Ec.md g=false:=by exact rfl):
 Ec.call (.fn 73) [Ak 1 true nn (l.map iv),.func (.func g) [] cap] []=some (.ret (.bool (l.any p)),[]):=by
 (refine ce Try.func73 ?_;simp only[Try.f73];(have hb:=trivial;with_reducible repeat' (first|simp only[hb,Vc.down,seval,aFB hc hc7 hp hl hgm,hc,hc7,Yf p l 0 (aAO 0)]|refine Bm ?_ ?_<;>intro hb|refine fd ?_|fail)))
def Oy(b:Int):List Int→Option Int→Bool
 | [],_=>true
 |n::l,p=>Qy n 0 (IntKind.i64.wrap (b-1))&&(match p with|none=>true|some q=> !decide (n≤q))&&Oy b l (some n)
theorem aX{l:List Int}{nn:Bool}(b:Int)(hl:l.length≤maxLen):Ec.call (.fn 53) [Ak 1 true nn (l.map iv),.int .i64 b] []=some (.ret (.bool (Oy b l none)),[]):=by
 (refine ce Try.func53 ?_;simp only[Try.f53];(have hb:=trivial;with_reducible repeat' (first|simp only[hb,Vc.down,seval,aDP.down,acL]|refine Bm ?_ ?_<;>intro hb|refine fd ?_|fail)))
 refine Eo (Wy 33 l (fun i (s:Option Int) t h=>(i=0∧s=none∨0<i∧s=l[i-1]?)∧t 0=Ak 1 true nn (l.map iv)∧t 1=.int .i64 b∧t 7=Ak 1 true nn (l.map iv)∧t 8=.int .i64 l.length∧t 9=.int .i64 i)
  (fun rest s=>Oy b rest s) (fun r e t h=>if r=true then e=.exit 0 else e=.ret∧t 4=.bool false) ?_ ?_ none _ _ ?_) (fun e t h hk=>?_)
 ·rintro s t h Q' kQ ⟨hs,h0,h1,h7,h8,h9⟩
  (have hb:=trivial;with_reducible repeat' (first|simp only[hb,Vc.down,seval,aDP.down,h0,h1,h7,h8,h9,acR,decide_false]|refine Bm ?_ ?_<;>intro hb|refine fd ?_|fail))
  exact kQ _ _ _ (by simp[Oy])
 ·rintro x rest i s t h J Q' kJ kQ hx hi ⟨hs,h0,h1,h7,h8,h9⟩
  have hd:decide ((i:Int)<(l.length:Int))=true:=by simpa using hi
  have kF:∀{p:Option Int},(Qy x 0 (IntKind.i64.wrap (b-1))&&(match p with|none=>true|some q=> !decide (x≤q)))=false→Oy b (x::rest) p=false:=fun h=>by simp[Oy,h]
  have kT:∀{p:Option Int},(Qy x 0 (IntKind.i64.wrap (b-1))&&(match p with|none=>true|some q=> !decide (x≤q)))=true→Oy b rest (some x)=Oy b (x::rest) p:=fun h=>by simp[Oy,h]
  have hw:=Bo hi hl
  rcases hs with⟨rfl,rfl⟩|⟨hpos,rfl⟩
  ·simp only[aOD,Int.zero_add]at hd h9 hw
   (have hb:=trivial;with_reducible repeat' (first|simp only[hb,Vc.down,seval,aDP.down,h0,h1,h7,h8,h9,hd,hx,iv,cA,hw,Int.toNat_zero,aAO,acR,decide_false]|refine Bm ?_ ?_<;>intro hb|refine fd ?_|fail))
   all_goals first
    |exact kQ _ _ _ (by rw[if_neg (by rw[kF (by simp_all)];simp)];exact⟨rfl,rfl⟩)
    |exact Bn (kJ _ _ (some x) ⟨.inr ⟨by omega,by simp[hx]⟩,by simp[up,h0],by simp[up,h1],by simp[up,h7],by simp[up,h8],by simp[up]<;>omega⟩ (kT (by simp_all)))
  ·obtain⟨j,rfl⟩:∃j,i=j+1:=⟨i-1,by omega⟩
   obtain⟨q,hq⟩:∃q,l[j]?=some q:=⟨l[j],aER (by omega)⟩
   have hj:IntKind.i64.wrap (((j+1:Nat):Int)-1)=(j:Int):=by unfold maxLen at hl;rw[Dz (by omega) (by omega)];omega
   have hg:decide (0<((j+1:Nat):Int))=true:=by rw[decide_eq_true_eq];omega
   simp only[aON,hq]at kJ kQ
   (have hb:=trivial;with_reducible repeat' (first|simp only[hb,Vc.down,seval,aDP.down,h0,h1,h7,h8,h9,hd,hx,iv,cA,hw,hj,hg,hq]|refine Bm ?_ ?_<;>intro hb|refine fd ?_|fail))
   all_goals first
    |exact kQ _ _ _ (by rw[if_neg (by rw[kF (by simp_all)];simp)];exact⟨rfl,rfl⟩)
    |exact Bn (kJ _ _ (some x) ⟨.inr ⟨by omega,by simp[hx]⟩,by simp[up,h0],by simp[up,h1],by simp[up,h7],by simp[up,h8],by simp[up]<;>omega⟩ (kT (by simp_all)))
 ·exact⟨.inl ⟨rfl,rfl⟩,by simp[up,Fe],by simp[up,Fe],by simp[up,Fe],by simp[up],by simp[up]⟩
 ·split at hk
  ·subst hk
   rename_i hr
   (have hb:=trivial;with_reducible repeat' (first|simp only[hb,Vc.down,seval,aDP.down]|refine Bm ?_ ?_<;>intro hb|refine fd ?_|fail))
   all_goals simp[hr]
  ·obtain⟨rfl,h2⟩:=hk
   rename_i hr
   (have hb:=trivial;with_reducible repeat' (first|simp only[hb,Vc.down,seval,aDP.down,h2]|refine Bm ?_ ?_<;>intro hb|refine fd ?_|fail))
   all_goals simp[hr]
def oN(ns:Int)(v:Au):Bool:=Oy ns v.sens none&&Qy v.need 1 v.sens.length&&mD v.level
theorem a9J(v:Au)(ns:Int)(hl:v.sens.length≤maxLen):Ec.call (.fn 47) [.agg [Ak 1 true v.nn (v.sens.map iv),.int .i64 v.need,.int .i64 v.level,.bool v.above],.int .i64 ns] []=some (.ret (.bool (oN ns v)),[]):=by
 (refine ce Try.func47 ?_;simp only[Try.f47];(have hb:=trivial;with_reducible repeat' (first|simp only[hb,Vc.down,seval,aUT.down,acL]|refine Bm ?_ ?_<;>intro hb|refine fd ?_|fail)))
 refine Eo (Wy 51 v.sens (fun i (s:Option Int) t h=>(i=0∧s=none∨0<i∧s=v.sens[i-1]?)∧h[0]?=some (.live 4 false false [[Ak 1 true v.nn (v.sens.map iv),.int .i64 v.need,.int .i64 v.level,.bool v.above]])∧t 1=.int .i64 ns∧t 2=.ptr 0 0 0∧t 5=.int .i64 i)
  (fun rest s=>Oy ns rest s) (fun r e t h=>if r=true then e=.exit 0∧h[0]?=some (.live 4 false false [[Ak 1 true v.nn (v.sens.map iv),.int .i64 v.need,.int .i64 v.level,.bool v.above]])∧t 2=.ptr 0 0 0 else e=.ret∧t 4=.bool false) ?_ ?_ none _ _ ?_) (fun e t h hk=>?_)
 ·rintro s t h Q' kQ ⟨hs,hh,h1,h2,h5⟩
  (have hb:=trivial;with_reducible repeat' (first|simp only[hb,Vc.down,seval,aUT.down,hh,h1,h2,h5,acL,acR,decide_false]|refine Bm ?_ ?_<;>intro hb|refine fd ?_|fail))
  exact kQ _ _ _ (by simp[Oy,up,h2,hh])
 ·rintro x rest i s t h J Q' kJ kQ hx hi ⟨hs,hh,h1,h2,h5⟩
  have hd:decide ((i:Int)<(v.sens.length:Int))=true:=by simpa using hi
  have hA:=Ae hh
  have kF:∀{p:Option Int},(Qy x 0 (IntKind.i64.wrap (ns-1))&&(match p with|none=>true|some q=> !decide (x≤q)))=false→Oy ns (x::rest) p=false:=fun h=>by simp[Oy,h]
  have kT:∀{p:Option Int},(Qy x 0 (IntKind.i64.wrap (ns-1))&&(match p with|none=>true|some q=> !decide (x≤q)))=true→Oy ns rest (some x)=Oy ns (x::rest) p:=fun h=>by simp[Oy,h]
  have hw:=Bo hi hl
  rcases hs with⟨rfl,rfl⟩|⟨hpos,rfl⟩
  ·simp only[aOD,Int.zero_add]at hd h5 hw
   (have hb:=trivial;with_reducible repeat' (first|simp only[hb,Vc.down,seval,aUT.down,hA,hh,h1,h2,h5,hd,hx,acL,iv,aEY,hw,Int.toNat_zero,aAO,acR,decide_false]|refine Bm ?_ ?_<;>intro hb|refine fd ?_|fail))
   all_goals first
    |exact kQ _ _ _ (by rw[if_neg (by rw[kF (by simp_all)];simp)];exact⟨rfl,rfl⟩)
    |exact Bn (kJ _ _ (some x) ⟨.inr ⟨by omega,by simp[hx]⟩,by simp[hh],by simp[up,h1],by simp[up,h2],by simp[up]<;>omega⟩ (kT (by simp_all)))
  ·obtain⟨j,rfl⟩:∃j,i=j+1:=⟨i-1,by omega⟩
   obtain⟨q,hq⟩:∃q,v.sens[j]?=some q:=⟨v.sens[j],aER (by omega)⟩
   have hj:IntKind.i64.wrap (((j+1:Nat):Int)-1)=(j:Int):=by unfold maxLen at hl;rw[Dz (by omega) (by omega)];omega
   have hg:decide (0<((j+1:Nat):Int))=true:=by rw[decide_eq_true_eq];omega
   simp only[aON,hq]at kJ kQ
   (have hb:=trivial;with_reducible repeat' (first|simp only[hb,Vc.down,seval,aUT.down,hA,hh,h1,h2,h5,hd,hx,acL,iv,aEY,hw,hj,hg,hq]|refine Bm ?_ ?_<;>intro hb|refine fd ?_|fail))
   all_goals first
    |exact kQ _ _ _ (by rw[if_neg (by rw[kF (by simp_all)];simp)];exact⟨rfl,rfl⟩)
    |exact Bn (kJ _ _ (some x) ⟨.inr ⟨by omega,by simp[hx]⟩,by simp[hh],by simp[up,h1],by simp[up,h2],by simp[up]<;>omega⟩ (kT (by simp_all)))
 ·exact⟨.inl ⟨rfl,rfl⟩,rfl,by simp[up,Fe],by simp[up],by simp[up]⟩
 ·split at hk
  ·obtain⟨rfl,hh,h2⟩:=hk
   have hA:=Ae hh
   rename_i hr
   (have hb:=trivial;with_reducible repeat' (first|simp only[hb,Vc.down,seval,aUT.down,hA,hh,h2,acL,aEY]|refine Bm ?_ ?_<;>intro hb|refine fd ?_|fail))
   all_goals simp_all[oN,mD]
  ·obtain⟨rfl,h2⟩:=hk
   rename_i hr
   (have hb:=trivial;with_reducible repeat' (first|simp only[hb,Vc.down,seval,aUT.down,h2]|refine Bm ?_ ?_<;>intro hb|refine fd ?_|fail))
   all_goals simp[oN,hr]
theorem aKR(o w:Bf):Ec.call (.fn 90) [.agg [.int .i64 o.vote,.bool o.is],.ptr 0 0 0] [.live 2 true false [[.int .i64 w.vote,.bool w.is]]]=some (.ret (.bool (o.vote==w.vote)),[.live 2 true false [[.int .i64 w.vote,.bool w.is]]]):=by
 (refine ce Try.func90 ?_;simp only[Try.f90];(have hb:=trivial;with_reducible repeat' (first|simp only[hb,Vc.down,seval,bc5.down]|refine Bm ?_ ?_<;>intro hb|refine fd ?_|fail)))
theorem aBY{l:List Bf}{nn:Bool}{g:Nat}{ww:Bf}{p:Bf→Bool}(hp:∀x∈l,Ec.call (.fn g) (.agg [.int .i64 x.vote,.bool x.is]::[.ptr 0 0 0]) [.live 2 true false [[.int .i64 ww.vote,.bool ww.is]]]=some (.ret (.bool (p x)),[.live 2 true false [[.int .i64 ww.vote,.bool ww.is]]]))(hl:l.length≤maxLen)(hgm:Ec.md g=false:=by exact rfl):
 Ec.call (.fn 98) [Ak 2 true nn (l.map Bf.cells),.func (.func g) [] [.ptr 0 0 0]] [.live 2 true false [[.int .i64 ww.vote,.bool ww.is]]]=some (.ret (.int .i64 (uR p l 0)),[.live 2 true false [[.int .i64 ww.vote,.bool ww.is]]]):=by
 (refine ce Try.func98 ?_;simp only[Try.f98];(have hb:=trivial;with_reducible repeat' (first|simp only[hb,Vc.down,seval,vP.down,acL]|refine Bm ?_ ?_<;>intro hb|refine fd ?_|fail)))
 refine Eo (Wy 19 l (fun i (s:Int) t h=>s=i∧h=[.live 2 true false [[.int .i64 ww.vote,.bool ww.is]]]∧t 0=Ak 2 true nn (l.map Bf.cells)∧t 1=.func (.func g) [] [.ptr 0 0 0]∧t 7=.int .i64 l.length∧t 8=.int .i64 i)
  (fun rest s=>uR p rest s) (fun r e t h=>h=[.live 2 true false [[.int .i64 ww.vote,.bool ww.is]]]∧((e=.exit 0∧r= -1)∨(e=.ret∧t 4=.int .i64 r))) ?_ ?_ 0 _ _ ?_) (fun e t h hk=>?_)
 ·rintro s t h Q' kQ ⟨rfl,rfl,h0,h1,h7,h8⟩
  (have hb:=trivial;with_reducible repeat' (first|simp only[hb,Vc.down,seval,vP.down,h0,h1,h7,h8,acR,decide_false]|refine Bm ?_ ?_<;>intro hb|refine fd ?_|fail))
  exact kQ _ _ _ ⟨rfl,.inl ⟨rfl,rfl⟩⟩
 ·rintro x rest i s t h J Q' kJ kQ hx hi ⟨rfl,rfl,h0,h1,h7,h8⟩
  have hgm2:=hgm
  simp only[adA,aIC,aID,aJZ]at hgm2
  have hpx:=hp x (acZ hx)
  have hd:decide ((i:Int)<(l.length:Int))=true:=by simpa using hi
  (have hb:=trivial;with_reducible repeat' (first|simp only[hb,Vc.down,seval,vP.down,h0,h1,h7,h8,hd,hx,Bf.cells,hpx,hgm2,Bo hi hl]|refine Bm ?_ ?_<;>intro hb|refine fd ?_|fail))
  ·exact kQ _ _ _ ⟨rfl,.inr ⟨rfl,by simp[up,uR,hb]⟩⟩
  ·exact Bn (kJ _ _ (i+1) ⟨by simp,rfl,by simp[up,h0],by simp[up,h1],by simp[up,h7],by simp[up]⟩ (by simp[uR,hb]))
 ·exact⟨rfl,rfl,by simp[up,Fe],by simp[up,Fe],by simp[up],by simp[up]⟩
 ·obtain⟨rfl,⟨rfl,hi⟩|⟨rfl,hi⟩⟩:=hk
  ·(have hb:=trivial;with_reducible repeat' (first|simp only[hb,Vc.down,seval,vP.down]|refine Bm ?_ ?_<;>intro hb|refine fd ?_|fail))
   rw[hi]
  ·(have hb:=trivial;with_reducible repeat' (first|simp only[hb,Vc.down,seval,vP.down,hi]|refine Bm ?_ ?_<;>intro hb|refine fd ?_|fail))
theorem am7{l:List Bf}{nn:Bool}{g:Nat}{ww:Bf}{p:Bf→Bool}(hp:∀x∈l,Ec.call (.fn g) (.agg [.int .i64 x.vote,.bool x.is]::[.ptr 0 0 0]) [.live 2 true false [[.int .i64 ww.vote,.bool ww.is]]]=some (.ret (.bool (p x)),[.live 2 true false [[.int .i64 ww.vote,.bool ww.is]]]))(hl:l.length≤maxLen)(hgm:Ec.md g=false:=by exact rfl):
 Ec.call (.fn 89) [Ak 2 true nn (l.map Bf.cells),.func (.func g) [] [.ptr 0 0 0]] [.live 2 true false [[.int .i64 ww.vote,.bool ww.is]]]=some (.ret (.bool (l.any p)),[.live 2 true false [[.int .i64 ww.vote,.bool ww.is]]]):=by
 (refine ce Try.func89 ?_;simp only[Try.f89];(have hb:=trivial;with_reducible repeat' (first|simp only[hb,Vc.down,seval,aBY hp hl hgm,Yf p l 0 (aAO 0)]|refine Bm ?_ ?_<;>intro hb|refine fd ?_|fail)))
def Qr(nv:Int):List Bf→List Bf→Bool
 |_,[]=>true
 |pre,w::l=>Qy w.vote 0 (IntKind.i64.wrap (nv-1))&& !(pre.any fun o=>o.vote==w.vote)&&Qr nv (pre++[w]) l
def Vo(m:Ah)(x:Bi):Bool:=Qr m.votes.length [] x.wants&&Qy x.frm 0 (IntKind.i64.wrap (m.states-1))&&Qy x.to 0 (IntKind.i64.wrap (m.states-1))&&decide (x.wants.length≤6)&&Qy x.cmd (-1) (IntKind.i64.wrap (m.cmds-1))&&Qy x.after 0 10
theorem aQA(m:Ah)(y:Bi)(hl:y.wants.length≤maxLen):Ec.call (.fn 72) [.agg [Ak 3 true m.nS (m.sens.map Db.cells),Ak 4 false m.nV (m.votes.map Au.cells),Ak 5 false m.nM (m.moves.map Bi.cells),.int .i64 m.states,.int .i64 m.cmds,.int .i64 m.bgn,Ak 1 true m.nO (m.opn.map iv)],.agg [.int .i64 y.frm,.int .i64 y.to,Ak 2 true y.nn (y.wants.map Bf.cells),.int .i64 y.cmd,.int .i64 y.after]] []=some (.ret (.bool (Vo m y)),[]):=by
 have l6:decide ((y.wants.length:Int)≤6)=decide (y.wants.length≤6):=by rw[decide_eq_decide];omega
 (refine ce Try.func72 ?_;simp only[Try.f72];(have hb:=trivial;with_reducible repeat' (first|simp only[hb,Vc.down,seval,atG.down,acL]|refine Bm ?_ ?_<;>intro hb|refine fd ?_|fail)))
 refine Eo (Wy 65 y.wants (fun i (zz:List Bf) t h=>t 2=.ptr 0 0 0∧t 3=.ptr 1 0 0∧t 8=Ak 2 true y.nn (y.wants.map Bf.cells)∧t 9=.int .i64 y.wants.length∧t 10=.int .i64 i∧(h[0]?=some (.live 7 false false [[Ak 3 true m.nS (m.sens.map Db.cells),Ak 4 false m.nV (m.votes.map Au.cells),Ak 5 false m.nM (m.moves.map Bi.cells),.int .i64 m.states,.int .i64 m.cmds,.int .i64 m.bgn,Ak 1 true m.nO (m.opn.map iv)]])∧h[1]?=some (.live 5 false false [[.int .i64 y.frm,.int .i64 y.to,Ak 2 true y.nn (y.wants.map Bf.cells),.int .i64 y.cmd,.int .i64 y.after]])∧zz=y.wants.take i)) (fun rest zz=>Qr m.votes.length zz rest) (fun r e t h=>(if r=true then e=.exit 0∧t 2=.ptr 0 0 0∧t 3=.ptr 1 0 0∧h[0]?=some (.live 7 false false [[Ak 3 true m.nS (m.sens.map Db.cells),Ak 4 false m.nV (m.votes.map Au.cells),Ak 5 false m.nM (m.moves.map Bi.cells),.int .i64 m.states,.int .i64 m.cmds,.int .i64 m.bgn,Ak 1 true m.nO (m.opn.map iv)]])∧h[1]?=some (.live 5 false false [[.int .i64 y.frm,.int .i64 y.to,Ak 2 true y.nn (y.wants.map Bf.cells),.int .i64 y.cmd,.int .i64 y.after]])else e=.ret∧t 4=.bool false)) ?_ ?_ ([]) _ _ ?_) (fun e t h hk=>?_)
 ·rintro p t h Q' kQ ⟨h2,h3,h8,h9,h10,⟨hA,hB,hp⟩⟩
  (have hb:=trivial;with_reducible repeat' (first|simp only[hb,Vc.down,seval,atG.down,h2,h3,h8,h9,h10,acR,decide_false]|refine Bm ?_ ?_<;>intro hb|refine fd ?_|fail))
  exact kQ _ _ _ (by rw[if_pos (by rfl)];exact⟨rfl,by simp[up,h2],by simp[up,h3],hA,hB⟩)
 ·rintro x rest i p t h J Q' kJ kQ hx hi ⟨h2,h3,h8,h9,h10,⟨hA,hB,hp⟩⟩
  have hd:decide ((i:Int)<(y.wants.length:Int))=true:=decide_eq_true (by omega)
  have hw:=Bo hi hl
  have hA1:=Ae hA
  have hB1:=Ae hB
  have hcW:=am7 (l:=y.wants.take i) (nn:=true) (ww:=x) (g:=90) (p:=fun o=>o.vote==x.vote) (fun o _=>aKR o x) (by simp;omega)
  have hsl:=aXC (P:=Try.prog) (ty:=57) (n:=2) ⟨_,Try.underlying57,by kernel_rfl⟩ true y.nn (rows:=y.wants.map Bf.cells) (i:=i) (by simpa using hi)
  rw[nT,List.map_take]at hcW
  subst hp
  cases c1:Qy x.vote 0 (IntKind.i64.wrap ((m.votes.length:Int)-1))with
  |false=>
   (have hb:=trivial;with_reducible repeat' (first|simp only[hb,Vc.down,seval,atG.down,h2,h3,h8,h9,h10,hd,hx,hw,hA1,hB1,cA,Bf.cells,acL,hcW,hsl,c1]|refine Bm ?_ ?_<;>intro hb|refine fd ?_|fail))
   exact kQ _ _ _ (by rw[if_neg (by simp[Qr,c1])];exact⟨rfl,by simp[up]⟩)
  |true=>
   cases c2:(y.wants.take i).any (fun o=>o.vote==x.vote)with
   |true=>
    rw[c2]at hcW
    (have hb:=trivial;with_reducible repeat' (first|simp only[hb,Vc.down,seval,atG.down,h2,h3,h8,h9,h10,hd,hx,hw,hA1,hB1,cA,Bf.cells,acL,hcW,hsl,c1]|refine Bm ?_ ?_<;>intro hb|refine fd ?_|fail))
    exact kQ _ _ _ (by rw[if_neg (by simp only[Qr,c1,c2,aqD,aG6,aAP];simp)];exact⟨rfl,by simp[up]⟩)
   |false=>
    rw[c2]at hcW
    (have hb:=trivial;with_reducible repeat' (first|simp only[hb,Vc.down,seval,atG.down,h2,h3,h8,h9,h10,hd,hx,hw,hA1,hB1,cA,Bf.cells,acL,hcW,hsl,c1]|refine Bm ?_ ?_<;>intro hb|refine fd ?_|fail))
    (refine Bn (kJ _ _ (y.wants.take i++[x]) ⟨?_,?_,?_,?_,?_,⟨hA1 _,hB1 _,by rw[aOW,hx];rfl⟩⟩ ?_);(simp[up,h2]);(simp[up,h3]);(simp[up,h8]);(simp[up,h9]);(simp[up]);(simp only[Qr,c1,c2,aAM,aHJ,aAN]))
 ·exact⟨by simp[up,Fe],by simp[up,Fe],by simp[up,Fe],by simp[up,Fe],by simp[up],⟨rfl,rfl,rfl⟩⟩
 ·split at hk
  ·obtain⟨rfl,h2,h3,hA,hB⟩:=hk
   rename_i hr
   have hA1:=Ae hA
   have hB1:=Ae hB
   (have hb:=trivial;with_reducible repeat' (first|simp only[hb,Vc.down,seval,atG.down,h2,h3,hA,hB,hA1,hB1,cA,acL,l6]|refine Bm ?_ ?_<;>intro hb|refine fd ?_|fail))
   all_goals (refine congrArg (fun b=>(Gw.ret (AV.bool b),([]:Aa))) ?_;symm;((try simp only[aKM,aqD,aAM]at *);simp only[Vo, *,aG6,aAP,aHJ,aAN,aLD,aLE,aqD,aAM,aLF,aLG]))
  ·obtain⟨rfl,h4⟩:=hk
   rename_i hr
   (have hb:=trivial;with_reducible repeat' (first|simp only[hb,Vc.down,seval,atG.down,h4]|refine Bm ?_ ?_<;>intro hb|refine fd ?_|fail))
   all_goals simp_all[Vo]
def aVG(w:Bf):List Bf→Bool
 | []=>true
 |o::l=> !(o.vote==w.vote)&&aVG w l
theorem aKQ(w:Bf):∀l,aVG w l= !(l.any fun o=>o.vote==w.vote)
 | []=>rfl
 |o::l=>by simp[aVG,aKQ w l]
theorem bbR(m:Ah)(y:Bi)(hl:y.wants.length≤maxLen):Ec.call (.fn 49) [.agg [Ak 3 true m.nS (m.sens.map Db.cells),Ak 4 false m.nV (m.votes.map Au.cells),Ak 5 false m.nM (m.moves.map Bi.cells),.int .i64 m.states,.int .i64 m.cmds,.int .i64 m.bgn,Ak 1 true m.nO (m.opn.map iv)],.agg [.int .i64 y.frm,.int .i64 y.to,Ak 2 true y.nn (y.wants.map Bf.cells),.int .i64 y.cmd,.int .i64 y.after]] []=some (.ret (.bool (Vo m y)),[]):=by
 have l6:decide ((y.wants.length:Int)≤6)=decide (y.wants.length≤6):=by rw[decide_eq_decide];omega
 (refine ce Try.func49 ?_;simp only[Try.f49];(have hb:=trivial;with_reducible repeat' (first|simp only[hb,Vc.down,seval,aG5.down,acL]|refine Bm ?_ ?_<;>intro hb|refine fd ?_|fail)))
 refine Eo (Wy 77 y.wants (fun i (zz:List Bf) t h=>t 2=.ptr 0 0 0∧t 3=.ptr 1 0 0∧t 5=.int .i64 i∧(h=[.live 7 false false [[Ak 3 true m.nS (m.sens.map Db.cells),Ak 4 false m.nV (m.votes.map Au.cells),Ak 5 false m.nM (m.moves.map Bi.cells),.int .i64 m.states,.int .i64 m.cmds,.int .i64 m.bgn,Ak 1 true m.nO (m.opn.map iv)]],.live 5 false false [[.int .i64 y.frm,.int .i64 y.to,Ak 2 true y.nn (y.wants.map Bf.cells),.int .i64 y.cmd,.int .i64 y.after]]]∧zz=y.wants.take i)) (fun rest zz=>Qr m.votes.length zz rest) (fun r e t h=>(if r=true then e=.exit 0∧t 2=.ptr 0 0 0∧t 3=.ptr 1 0 0∧h=[.live 7 false false [[Ak 3 true m.nS (m.sens.map Db.cells),Ak 4 false m.nV (m.votes.map Au.cells),Ak 5 false m.nM (m.moves.map Bi.cells),.int .i64 m.states,.int .i64 m.cmds,.int .i64 m.bgn,Ak 1 true m.nO (m.opn.map iv)]],.live 5 false false [[.int .i64 y.frm,.int .i64 y.to,Ak 2 true y.nn (y.wants.map Bf.cells),.int .i64 y.cmd,.int .i64 y.after]]]else e=.ret∧t 4=.bool false)) ?_ ?_ ([]) _ _ ?_) (fun e t h hk=>?_)
 ·rintro p t h Q' kQ ⟨h2,h3,h5,⟨rfl,hp⟩⟩
  (have hb:=trivial;with_reducible repeat' (first|simp only[hb,Vc.down,seval,aG5.down,h2,h3,h5,acR,decide_false,acL]|refine Bm ?_ ?_<;>intro hb|refine fd ?_|fail))
  exact kQ _ _ _ (by rw[if_pos (by rfl)];exact⟨rfl,by simp[up,h2],by simp[up,h3],rfl⟩)
 ·rintro x rest i p t h J Q' kJ kQ hx hi ⟨h2,h3,h5,⟨rfl,hp⟩⟩
  have hd:decide ((i:Int)<(y.wants.length:Int))=true:=decide_eq_true (by omega)
  have hw:=Bo hi hl
  subst hp
  cases c1:Qy x.vote 0 (IntKind.i64.wrap ((m.votes.length:Int)-1))with
  |false=>
   (have hb:=trivial;with_reducible repeat' (first|simp only[hb,Vc.down,seval,aG5.down,h2,h3,h5,hd,hx,hw,aEY,c1,Bf.cells,acL]|refine Bm ?_ ?_<;>intro hb|refine fd ?_|fail))
   exact kQ _ _ _ (by rw[if_neg (by simp[Qr,c1])];exact⟨rfl,by simp[up]⟩)
  |true=>
   obtain⟨w,rfl⟩:∃w,w=x:=⟨_,rfl⟩
   obtain⟨k,rfl⟩:∃k,k=i:=⟨_,rfl⟩
   have hlen:(y.wants.take k).length=k:=by simp;omega
   have hxk:=hx
   (have hb:=trivial;with_reducible repeat' (first|simp only[hb,Vc.down,seval,aG5.down,h2,h3,h5,hd,hx,hw,aEY,c1,Bf.cells,acL]|refine Bm ?_ ?_<;>intro hb|refine fd ?_|fail))
   refine Eo (Wy 77 (y.wants.take k) (fun i (zz:Unit) t h=>t 2=.ptr 0 0 0∧t 3=.ptr 1 0 0∧t 5=.int .i64 (k:Int)∧t 6=.int .i64 i∧h=[.live 7 false false [[Ak 3 true m.nS (m.sens.map Db.cells),Ak 4 false m.nV (m.votes.map Au.cells),Ak 5 false m.nM (m.moves.map Bi.cells),.int .i64 m.states,.int .i64 m.cmds,.int .i64 m.bgn,Ak 1 true m.nO (m.opn.map iv)]],.live 5 false false [[.int .i64 y.frm,.int .i64 y.to,Ak 2 true y.nn (y.wants.map Bf.cells),.int .i64 y.cmd,.int .i64 y.after]]]) (fun rest zz=>aVG w rest) (fun r e t h=>(if r=true then e=.exit 2∧t 2=.ptr 0 0 0∧t 3=.ptr 1 0 0∧t 5=.int .i64 (k:Int)∧h=[.live 7 false false [[Ak 3 true m.nS (m.sens.map Db.cells),Ak 4 false m.nV (m.votes.map Au.cells),Ak 5 false m.nM (m.moves.map Bi.cells),.int .i64 m.states,.int .i64 m.cmds,.int .i64 m.bgn,Ak 1 true m.nO (m.opn.map iv)]],.live 5 false false [[.int .i64 y.frm,.int .i64 y.to,Ak 2 true y.nn (y.wants.map Bf.cells),.int .i64 y.cmd,.int .i64 y.after]]]else e=.ret∧t 4=.bool false)) ?_ ?_ () _ _ ?_) (fun e tC hC hk=>?_)
   ·rintro _ t h Q' kQ ⟨h2,h3,h5,h6,rfl⟩
    (have hb:=trivial;with_reducible repeat' (first|simp only[hb,Vc.down,seval,aG5.down,h2,h3,h5,h6,acR,decide_false,hlen]|refine Bm ?_ ?_<;>intro hb|refine fd ?_|fail))
    exact kQ _ _ _ (by rw[if_pos (by rfl)];exact⟨rfl,by simp[up,h2],by simp[up,h3],by simp[up,h5],rfl⟩)
   ·rintro x rest i _ t h J Q' kJ kQ hx hi ⟨h2,h3,h5,h6,rfl⟩
    have hd:decide ((i:Int)<((y.wants.take k).length:Int))=true:=decide_eq_true (by omega)
    have hw:=Bo hi (by simp;omega)
    rw[hlen]at hd
    have hxi:y.wants[i]?=some x:=by rw[List.getElem?_take]at hx;split at hx;exact hx;cases hx
    cases c3:(x.vote==w.vote)with
    |true=>
     (have hb:=trivial;with_reducible repeat' (first|simp only[hb,Vc.down,seval,aG5.down,h2,h3,h5,h6,hd,hxi,hxk,hw,c3,Bf.cells]|refine Bm ?_ ?_<;>intro hb|refine fd ?_|fail))
     exact kQ _ _ _ (by rw[if_neg (by simp[aVG,c3])];exact⟨rfl,by simp[up]⟩)
    |false=>
     (have hb:=trivial;with_reducible repeat' (first|simp only[hb,Vc.down,seval,aG5.down,h2,h3,h5,h6,hd,hxi,hxk,hw,c3,Bf.cells]|refine Bm ?_ ?_<;>intro hb|refine fd ?_|fail))
     (refine Bn (kJ _ _ () ⟨?_,?_,?_,?_,rfl⟩ ?_);(simp[up,h2]);(simp[up,h3]);(simp[up,h5]);(simp[up]);(simp[aVG,c3]))
   ·exact⟨by simp[up,Fe,h2,h3,h5],by simp[up,Fe,h2,h3,h5],by simp[up,Fe,h2,h3,h5],by simp[up],rfl⟩
   ·split at hk
    ·rename_i hdup
     obtain⟨rfl,h2,h3,h5,rfl⟩:=hk
     (have hb:=trivial;with_reducible repeat' (first|simp only[hb,Vc.down,seval,aG5.down,h2,h3,h5,hw]|refine Bm ?_ ?_<;>intro hb|refine fd ?_|fail))
     rw[aKQ]at hdup
     (refine Bn (kJ _ _ (y.wants.take k++[w]) ⟨?_,?_,?_,⟨rfl,by rw[aOW,hxk];rfl⟩⟩ ?_);(simp[up,h2]);(simp[up,h3]);(simp[up]);(simp only[Qr,c1,hdup,aAN]))
    ·rename_i hdup
     obtain⟨rfl,h4⟩:=hk
     (have hb:=trivial;with_reducible repeat' (first|simp only[hb,Vc.down,seval,aG5.down,h4]|refine Bm ?_ ?_<;>intro hb|refine fd ?_|fail))
     rw[aKQ]at hdup
     exact kQ _ _ _ (by rw[if_neg (by simp only[Qr,c1,aAN,Bool.eq_false_iff.2 hdup,aAP];simp)];exact⟨rfl,by simp[up,h4]⟩)
 ·exact⟨by simp[up,Fe],by simp[up,Fe],by simp[up],⟨rfl,rfl⟩⟩
 ·split at hk
  ·obtain⟨rfl,h2,h3,rfl⟩:=hk
   rename_i hr
   (have hb:=trivial;with_reducible repeat' (first|simp only[hb,Vc.down,seval,aG5.down,h2,h3,aEY,acL,l6]|refine Bm ?_ ?_<;>intro hb|refine fd ?_|fail))
   all_goals (refine congrArg (fun b=>(Gw.ret (AV.bool b),([]:Aa))) ?_;symm;((try simp only[aKM,aqD,aAM]at *);simp only[Vo, *,aG6,aAP,aHJ,aAN,aLD,aLE,aqD,aAM,aLF,aLG]))
  ·obtain⟨rfl,h4⟩:=hk
   rename_i hr
   (have hb:=trivial;with_reducible repeat' (first|simp only[hb,Vc.down,seval,aG5.down,h4]|refine Bm ?_ ?_<;>intro hb|refine fd ?_|fail))
   all_goals simp_all[Vo]
end Go.Proofs.Ytfkokgjfpojeoaa
