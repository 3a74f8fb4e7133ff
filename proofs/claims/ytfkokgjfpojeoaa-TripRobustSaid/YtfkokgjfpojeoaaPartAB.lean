/- The functions of the layer, walked. -/
import Derived.Test.YtfkokgjfpojeoaaPartAA
import Derived.Test.YtfkokgjfpojeoaaLibD
open List renaming length_map→aaF,mem_of_getElem?→aaX,mem_cons→aa0,all_eq_true→aa3,all_cons→aa4,not_mem_nil→abG,length_cons→abH,getD→acC,getElem?_eq_getElem→acI,getElem?_eq_some_iff→ac8,getElem?_set_self→afE
open Bool renaming and_eq_true→aaV,true_and→aa5,not_true→abJ,not_false→abL,false_and→abP,not_eq_eq_eq_not→acN,and_false→acV,eq_false_iff→afP
open Int renaming lt_irrefl→aaY,reduceBEq→abR
open Option renaming bind_eq_some_iff→abC,map_eq_some_iff→abE
set_option linter.unusedSimpArgs false
set_option linter.unusedVariables false
namespace Go.Proofs.Ytfkokgjfpojeoaa
open Go.Ev Go
set_option maxRecDepth 100000
set_option maxHeartbeats 16000000
def rS(m:Ba)(k:Int):Bd:=m.sens.getD k.toNat ⟨0,0,false⟩
def zA(l:List Int)(k:Int):Int:=l.getD k.toNat 0
theorem aR{m:Ba}{k:Int}(h:k.toNat<m.sens.length):m.sens[k.toNat]?=some (rS m k):=by
 simp[rS,acC,acI h]
theorem qU{l:List Int}{k:Int}(h:k.toNat<l.length):l[k.toNat]?=some (zA l k):=by
 simp[zA,acC,acI h]
def gZ(m:Ba)(v:Ak)(l:List Int):List Int→Int→Int
 | [],c=>c
 |k::ks,c=>gZ m v l ks (if fA (rS m k) v (zA l k)=true then IntKind.i64.wrap (c+1)else c)
def tD(m:Ba)(l:List Int)(v:Ak):Bool:=decide (v.need≤gZ m v l v.sens 0)
def Idx(m:Ba)(l:List Int):Prop:=∀k∈l,0≤k∧k.toNat<m.sens.length
theorem fP{n:Nat}(hn:n≤6):∀{l:List Int} {p:Option Int},Jm n l p=true→∀k∈l,0≤k∧k.toNat<n
 | [],_,_,k,h=>by cases h
 |x::l,p,h,k,hk=>by
  simp only[Jm,aaV]at h
  rcases aa0.1 hk with rfl|hk
  ·have:=h.1.1
   rw[Hu (by omega) (by omega)]at this
   simp[Nb]at this
   omega
  ·exact fP hn h.2 k hk
theorem cB{m:Ba}(h:Do m=true):∀v∈m.votes,Idx m v.sens:=fun v hv=>by
 simp only[Do,Ns,aaV,decide_eq_true_eq,aa3]at h
 have h2:=h.1.1.2 v hv
 simp only[Oi,aaV]at h2
 exact fP h.1.1.1.1.1.1.1.1.1.1 h2.1.1
def orN(a b:Int):Int:=IntKind.i64.wrap ((BitVec.ofInt 64 a|||BitVec.ofInt 64 b).toNat:Int)
theorem zP(ty:TypeId)(a b:Int):Hg Try.prog .or ty (.int .i64 a) (.int .i64 b)=some (.int .i64 (orN a b)):=by
 show(if IntKind.i64=IntKind.i64 then Fj .or .i64 a b else none)=_
 rw[if_pos rfl];rfl
def Za(m:Ba)(l:List Int):List Ak→Nat→Int→Int
 | [],_,b=>b
 |v::vs,i,b=>Za m l vs (i+1) (if tD m l v=true then orN b (sB i)else b)
theorem rR(m:Ba){l:List Int}{nn:Bool}(hl:l.length=m.sens.length)(hs:m.small)(hi:∀v∈m.votes,Idx m v.sens):Fa.call (.fn 46) [.agg [Ag 3 true m.nS (m.sens.map Bd.cells),Ag 4 false m.nV (m.votes.map Ak.cells),Ag 5 false m.nM (m.moves.map Am.cells),.int .i64 m.states,.int .i64 m.cmds,.int .i64 m.bgn,Ag 1 true m.nO (m.opn.map iv)],Ag 1 true nn (l.map iv)] []=some (.ret (.int .i64 (Za m l m.votes 0 0)),[]):=by
 have hI:=hi
 clear hi
 (refine ce Try.func46 ?_;simp only[Try.f46];(have hb:=trivial;with_reducible repeat' (first|simp only[hb,Vc.down,seval,eK.down,aaF]|refine Be ?_ ?_<;>intro hb|refine fd ?_|fail)))
 refine Ft (Yg 50 m.votes (fun i (zz:Nat × Int) t h=>t 1=Ag 1 true nn (l.map iv)∧t 2=.ptr 0 0 0∧t 12=Ag 4 false m.nV (m.votes.map Ak.cells)∧t 13=.int .i64 m.votes.length∧t 14=.int .i64 i∧t 5=.int .i64 zz.2∧(h[0]?=some (.live 7 false false [[Ag 3 true m.nS (m.sens.map Bd.cells),Ag 4 false m.nV (m.votes.map Ak.cells),Ag 5 false m.nM (m.moves.map Am.cells),.int .i64 m.states,.int .i64 m.cmds,.int .i64 m.bgn,Ag 1 true m.nO (m.opn.map iv)]])∧i=zz.1)) (fun rest zz=>Za m l rest zz.1 zz.2) (fun r e t h=>e=.exit 0∧t 5=.int .i64 r) ?_ ?_ (0,0) _ _ ?_) (fun e t h hk=>?_)
 ·rintro⟨k,b⟩ t h Q' kQ ⟨h1,h2,h12,h13,h14,h5,⟨hA,rfl⟩⟩
  try dsimp only at *
  (have hb:=trivial;with_reducible repeat' (first|simp only[hb,Vc.down,seval,eK.down,h1,h2,h12,h13,h14,h5,aaY,decide_false]|refine Be ?_ ?_<;>intro hb|refine fd ?_|fail))
  exact kQ _ _ _ ⟨rfl,by simp[up,h5,Za]⟩
 ·rintro x rest i ⟨k,b⟩ t h J Q' kJ kQ hx hi ⟨h1,h2,h12,h13,h14,h5,⟨hA,rfl⟩⟩
  have hd:decide ((i:Int)<(m.votes.length:Int))=true:=decide_eq_true (by omega)
  have hw:=Aw hi hs.votes
  try dsimp only at *
  have hA1:=Bo hA
  have hvs:=hs.vs x (aaX hx)
  have hIx:=hI x (aaX hx)
  obtain⟨w,rfl⟩:∃w,w=x:=⟨_,rfl⟩
  obtain⟨k,rfl⟩:∃k,k=i:=⟨_,rfl⟩
  obtain⟨hL,hLe⟩:∃hL,hL=h.length:=⟨_,rfl⟩
  (have hb:=trivial;with_reducible repeat' (first|simp only[hb,Vc.down,seval,eK.down,h1,h2,h12,h13,h14,h5,hd,hx,hw,hA1,Ak.cells,aaF]|refine Be ?_ ?_<;>intro hb|refine fd ?_|fail))
  refine Ft (Yg 50 w.sens (fun i (zz:Int) t h=>t 1=Ag 1 true nn (l.map iv)∧t 2=.ptr 0 0 0∧t 12=Ag 4 false m.nV (m.votes.map Ak.cells)∧t 13=.int .i64 m.votes.length∧t 14=.int .i64 (k:Int)∧t 5=.int .i64 b∧t 6=.int .i64 (k:Int)∧t 7=.ptr hL 0 0∧t 20=Ag 1 true w.nn (w.sens.map iv)∧t 21=.int .i64 w.sens.length∧t 22=.int .i64 i∧t 8=.int .i64 zz∧(h[0]?=some (.live 7 false false [[Ag 3 true m.nS (m.sens.map Bd.cells),Ag 4 false m.nV (m.votes.map Ak.cells),Ag 5 false m.nM (m.moves.map Am.cells),.int .i64 m.states,.int .i64 m.cmds,.int .i64 m.bgn,Ag 1 true m.nO (m.opn.map iv)]])∧∃wf,h[hL]?=some (.live 4 false wf [[Ag 1 true w.nn (w.sens.map iv),.int .i64 w.need,.int .i64 w.level,.bool w.above]]))) (fun rest zz=>gZ m w l rest zz) (fun r e t h=>e=.exit 2∧t 1=Ag 1 true nn (l.map iv)∧t 2=.ptr 0 0 0∧t 12=Ag 4 false m.nV (m.votes.map Ak.cells)∧t 13=.int .i64 m.votes.length∧t 14=.int .i64 (k:Int)∧t 5=.int .i64 b∧t 6=.int .i64 (k:Int)∧t 7=.ptr hL 0 0∧t 8=.int .i64 r∧h[0]?=some (.live 7 false false [[Ag 3 true m.nS (m.sens.map Bd.cells),Ag 4 false m.nV (m.votes.map Ak.cells),Ag 5 false m.nM (m.moves.map Am.cells),.int .i64 m.states,.int .i64 m.cmds,.int .i64 m.bgn,Ag 1 true m.nO (m.opn.map iv)]])∧∃wf,h[hL]?=some (.live 4 false wf [[Ag 1 true w.nn (w.sens.map iv),.int .i64 w.need,.int .i64 w.level,.bool w.above]])) ?_ ?_ (0) _ _ ?_) (fun e tC hC hk=>?_)
  ·rintro c t h Q' kQ ⟨h1,h2,h12,h13,h14,h5,h6,h7,h20,h21,h22,h8,⟨hA,wf,hB⟩⟩
   (have hb:=trivial;with_reducible repeat' (first|simp only[hb,Vc.down,seval,eK.down,h1,h2,h12,h13,h14,h5,h6,h7,h20,h21,h22,h8,aaY,decide_false]|refine Be ?_ ?_<;>intro hb|refine fd ?_|fail))
   exact kQ _ _ _ ⟨rfl,by simp[up,h1],by simp[up,h2],by simp[up,h12],by simp[up,h13],by simp[up,h14],by simp[up,h5],by simp[up,h6],by simp[up,h7],by simp[up,h8,gZ],hA,wf,hB⟩
  ·rintro x rest i c t h J Q' kJ kQ hx hi ⟨h1,h2,h12,h13,h14,h5,h6,h7,h20,h21,h22,h8,⟨hA,wf,hB⟩⟩
   have hd:decide ((i:Int)<(w.sens.length:Int))=true:=decide_eq_true (by omega)
   have hw:=Aw hi hvs
   obtain⟨k0,k1⟩:=hIx x (aaX hx)
   have hrr:=qU (l:=l) (k:=x) (by omega)
   have hss:=aR k1
   have h0':(0≤x)=True:=eq_true k0
   have hS:=sU (rS m x) w (zA l x)
   generalize hq:fA (rS m x) w (zA l x)=q at hS
   generalize rS m x=s at hss hS
   (have hb:=trivial;with_reducible repeat' (first|simp only[hb,Vc.down,seval,eK.down,h1,h2,h7,h8,h20,h21,h22,hd,hx,hw,hrr,hss,h0',hA,hB,hS,iv,Bd.cells,aaF]|refine Be ?_ ?_<;>intro hb|refine fd ?_|fail))
   all_goals (refine Cj (kJ _ _ (if q=true then IntKind.i64.wrap (c+1)else c) ⟨?_,?_,?_,?_,?_,?_,?_,?_,?_,?_,?_,?_,⟨hA,wf,hB⟩⟩ ?_);(simp[up,h1]);(simp[up,h2]);(simp[up,h12]);(simp[up,h13]);(simp[up,h14]);(simp[up,h5]);(simp[up,h6]);(simp[up,h7]);(simp[up,h20]);(simp[up,h21]);(simp[up]);(simp[up,h8,hb]);(simp[gZ,hq]))
  ·exact⟨by simp[up,Eu,h1,h2,h12,h13,h14,h5,hLe],by simp[up,Eu,h1,h2,h12,h13,h14,h5,hLe],by simp[up,Eu,h1,h2,h12,h13,h14,h5,hLe],by simp[up,Eu,h1,h2,h12,h13,h14,h5,hLe],by simp[up,Eu,h1,h2,h12,h13,h14,h5,hLe],by simp[up,Eu,h1,h2,h12,h13,h14,h5,hLe],by simp[up,Eu,h1,h2,h12,h13,h14,h5,hLe],by simp[up,Eu,h1,h2,h12,h13,h14,h5,hLe],by simp[up,Eu,h1,h2,h12,h13,h14,h5,hLe],by simp[up,Eu,h1,h2,h12,h13,h14,h5,hLe],by simp[up],by simp[up,Eu,h1,h2,h12,h13,h14,h5,hLe],⟨hA1 _,true,by rw[hLe];simp⟩⟩
  ·obtain⟨rfl,h1,h2,h12,h13,h14,h5,h6,h7,h8,hA,wf,hB⟩:=hk
   have hy:decide (w.need≤gZ m w l w.sens 0)=tD m l w:=rfl
   (have hb:=trivial;with_reducible repeat' (first|simp only[hb,Vc.down,seval,eK.down,h1,h2,h12,h13,h14,h5,h6,h7,h8,hA,hB,hw,hy,zP]|refine Be ?_ ?_<;>intro hb|refine fd ?_|fail))
   all_goals (refine Cj (kJ _ _ (k+1,(if tD m l w=true then orN b (sB k)else b)) ⟨?_,?_,?_,?_,?_,?_,⟨hA,rfl⟩⟩ ?_);(simp[up,h1]);(simp[up,h2]);(simp[up,h12]);(simp[up,h13]);(simp[up]);(simp[up,h5,hb]);(simp[Za]))
 ·exact⟨by simp[up,Eu],by simp[up,Eu],by simp[up,Eu],by simp[up,Eu],by simp[up],by simp[up,Eu],⟨rfl,rfl⟩⟩
 obtain⟨rfl,h5⟩:=hk
 (have hb:=trivial;with_reducible repeat' (first|simp only[hb,Vc.down,seval,eK.down,h5]|refine Be ?_ ?_<;>intro hb|refine fd ?_|fail))
def bZ(b v:Int):Bool:=aaC (tL b v.toNat)==1
theorem uB(a b:Bool):Hg Try.prog .neq 4 (.bool a) (.bool b)=some (.bool (!(a==b))):=by cases a<;>cases b<;>kernel_rfl
structure Pm where
 frm:Int
 to:Int
 nn:Bool
 wants:List An
 cmd:Int
 after:Int
 st:Int
 ag:Int
 bits:Int
 com:Int
theorem wV(n:Pm):Fa.call (.fn 92) [.agg [.int .i64 n.frm,.int .i64 n.to,Ag 2 true n.nn (n.wants.map An.cells),.int .i64 n.cmd,.int .i64 n.after,.int .i64 n.st,.int .i64 n.ag,.int .i64 n.bits,.int .i64 n.com]] []=some (.ret (.bool (n.frm==n.st)),[]):=by
 (refine ce Try.func92 ?_;simp only[Try.f92];(have hb:=trivial;with_reducible repeat' (first|simp only[hb,Vc.down,seval,ahP.down]|refine Be ?_ ?_<;>intro hb|refine fd ?_|fail)))
theorem yD(n:Pm):Fa.call (.fn 93) [.agg [.int .i64 n.frm,.int .i64 n.to,Ag 2 true n.nn (n.wants.map An.cells),.int .i64 n.cmd,.int .i64 n.after,.int .i64 n.st,.int .i64 n.ag,.int .i64 n.bits,.int .i64 n.com]] []=some (.ret (.bool (decide (n.after≤n.ag))),[]):=by
 (refine ce Try.func93 ?_;simp only[Try.f93];(have hb:=trivial;with_reducible repeat' (first|simp only[hb,Vc.down,seval,aoG.down]|refine Be ?_ ?_<;>intro hb|refine fd ?_|fail)))
theorem uG(n:Pm):Fa.call (.fn 95) [.agg [.int .i64 n.frm,.int .i64 n.to,Ag 2 true n.nn (n.wants.map An.cells),.int .i64 n.cmd,.int .i64 n.after,.int .i64 n.st,.int .i64 n.ag,.int .i64 n.bits,.int .i64 n.com]] []=some (.ret (.bool (n.cmd== -1||n.cmd==n.com)),[]):=by
 (refine ce Try.func95 ?_;simp only[Try.f95];(have hb:=trivial;with_reducible repeat' (first|simp only[hb,Vc.down,seval,anQ.down]|refine Be ?_ ?_<;>intro hb|refine fd ?_|fail)))
 all_goals simp_all
theorem jK(n:Pm)(w:An)(h0:0≤w.vote):Fa.call (.fn 99) [.agg [.int .i64 w.vote,.bool w.is],.ptr 0 0 0] [.live 9 false false [[.int .i64 n.frm,.int .i64 n.to,Ag 2 true n.nn (n.wants.map An.cells),.int .i64 n.cmd,.int .i64 n.after,.int .i64 n.st,.int .i64 n.ag,.int .i64 n.bits,.int .i64 n.com]]]=some (.ret (.bool (!(bZ n.bits w.vote==w.is))),[.live 9 false false [[.int .i64 n.frm,.int .i64 n.to,Ag 2 true n.nn (n.wants.map An.cells),.int .i64 n.cmd,.int .i64 n.after,.int .i64 n.st,.int .i64 n.ag,.int .i64 n.bits,.int .i64 n.com]]]):=by
 obtain⟨v,is⟩:=w
 obtain⟨k,hk⟩:∃k:Nat,v=k:=⟨v.toNat,by simp at h0;omega⟩
 subst hk
 (refine ce Try.func99 ?_;simp only[Try.f99];(have hb:=trivial;with_reducible repeat' (first|simp only[hb,Vc.down,seval,ab2.down,uB]|refine Be ?_ ?_<;>intro hb|refine fd ?_|fail)))
 all_goals simp[bZ]
theorem dR{l:List An}{nn:Bool}{g:Nat}{ndq:Pm}{p:An→Bool}(hp:∀x∈l,Fa.call (.fn g) (.agg [.int .i64 x.vote,.bool x.is]::[.ptr 0 0 0]) [.live 9 false false [[.int .i64 ndq.frm,.int .i64 ndq.to,Ag 2 true ndq.nn (ndq.wants.map An.cells),.int .i64 ndq.cmd,.int .i64 ndq.after,.int .i64 ndq.st,.int .i64 ndq.ag,.int .i64 ndq.bits,.int .i64 ndq.com]]]=some (.ret (.bool (p x)),[.live 9 false false [[.int .i64 ndq.frm,.int .i64 ndq.to,Ag 2 true ndq.nn (ndq.wants.map An.cells),.int .i64 ndq.cmd,.int .i64 ndq.after,.int .i64 ndq.st,.int .i64 ndq.ag,.int .i64 ndq.bits,.int .i64 ndq.com]]]))(hl:l.length≤maxLen):
 Fa.call (.fn 98) [Ag 2 true nn (l.map An.cells),.func (.func g) [] [.ptr 0 0 0]] [.live 9 false false [[.int .i64 ndq.frm,.int .i64 ndq.to,Ag 2 true ndq.nn (ndq.wants.map An.cells),.int .i64 ndq.cmd,.int .i64 ndq.after,.int .i64 ndq.st,.int .i64 ndq.ag,.int .i64 ndq.bits,.int .i64 ndq.com]]]=some (.ret (.int .i64 (aN p l 0)),[.live 9 false false [[.int .i64 ndq.frm,.int .i64 ndq.to,Ag 2 true ndq.nn (ndq.wants.map An.cells),.int .i64 ndq.cmd,.int .i64 ndq.after,.int .i64 ndq.st,.int .i64 ndq.ag,.int .i64 ndq.bits,.int .i64 ndq.com]]]):=by
 (refine ce Try.func98 ?_;simp only[Try.f98];(have hb:=trivial;with_reducible repeat' (first|simp only[hb,Vc.down,seval,Yk.down,aaF]|refine Be ?_ ?_<;>intro hb|refine fd ?_|fail)))
 refine Ft (Yg 19 l (fun i (s:Int) t h=>s=i∧h=[.live 9 false false [[.int .i64 ndq.frm,.int .i64 ndq.to,Ag 2 true ndq.nn (ndq.wants.map An.cells),.int .i64 ndq.cmd,.int .i64 ndq.after,.int .i64 ndq.st,.int .i64 ndq.ag,.int .i64 ndq.bits,.int .i64 ndq.com]]]∧t 0=Ag 2 true nn (l.map An.cells)∧t 1=.func (.func g) [] [.ptr 0 0 0]∧t 7=.int .i64 l.length∧t 8=.int .i64 i)
  (fun rest s=>aN p rest s) (fun r e t h=>h=[.live 9 false false [[.int .i64 ndq.frm,.int .i64 ndq.to,Ag 2 true ndq.nn (ndq.wants.map An.cells),.int .i64 ndq.cmd,.int .i64 ndq.after,.int .i64 ndq.st,.int .i64 ndq.ag,.int .i64 ndq.bits,.int .i64 ndq.com]]]∧((e=.exit 0∧r= -1)∨(e=.ret∧t 4=.int .i64 r))) ?_ ?_ 0 _ _ ?_) (fun e t h hk=>?_)
 ·rintro s t h Q' kQ ⟨rfl,rfl,h0,h1,h7,h8⟩
  (have hb:=trivial;with_reducible repeat' (first|simp only[hb,Vc.down,seval,Yk.down,h0,h1,h7,h8,aaY,decide_false]|refine Be ?_ ?_<;>intro hb|refine fd ?_|fail))
  exact kQ _ _ _ ⟨rfl,.inl ⟨rfl,rfl⟩⟩
 ·rintro x rest i s t h J Q' kJ kQ hx hi ⟨rfl,rfl,h0,h1,h7,h8⟩
  have hpx:=hp x (aaX hx)
  have hd:decide ((i:Int)<(l.length:Int))=true:=by simpa using hi
  (have hb:=trivial;with_reducible repeat' (first|simp only[hb,Vc.down,seval,Yk.down,h0,h1,h7,h8,hd,hx,An.cells,hpx,Aw hi hl]|refine Be ?_ ?_<;>intro hb|refine fd ?_|fail))
  ·exact kQ _ _ _ ⟨rfl,.inr ⟨rfl,by simp[up,aN,hb]⟩⟩
  ·exact Cj (kJ _ _ (i+1) ⟨by simp,rfl,by simp[up,h0],by simp[up,h1],by simp[up,h7],by simp[up]⟩ (by simp[aN,hb]))
 ·exact⟨rfl,rfl,by simp[up,Eu],by simp[up,Eu],by simp[up],by simp[up]⟩
 ·obtain⟨rfl,⟨rfl,hi⟩|⟨rfl,hi⟩⟩:=hk
  ·(have hb:=trivial;with_reducible repeat' (first|simp only[hb,Vc.down,seval,Yk.down]|refine Be ?_ ?_<;>intro hb|refine fd ?_|fail))
   rw[hi]
  ·(have hb:=trivial;with_reducible repeat' (first|simp only[hb,Vc.down,seval,Yk.down,hi]|refine Be ?_ ?_<;>intro hb|refine fd ?_|fail))
theorem cK{l:List An}{nn:Bool}{g:Nat}{ndq:Pm}{p:An→Bool}(hp:∀x∈l,Fa.call (.fn g) (.agg [.int .i64 x.vote,.bool x.is]::[.ptr 0 0 0]) [.live 9 false false [[.int .i64 ndq.frm,.int .i64 ndq.to,Ag 2 true ndq.nn (ndq.wants.map An.cells),.int .i64 ndq.cmd,.int .i64 ndq.after,.int .i64 ndq.st,.int .i64 ndq.ag,.int .i64 ndq.bits,.int .i64 ndq.com]]]=some (.ret (.bool (p x)),[.live 9 false false [[.int .i64 ndq.frm,.int .i64 ndq.to,Ag 2 true ndq.nn (ndq.wants.map An.cells),.int .i64 ndq.cmd,.int .i64 ndq.after,.int .i64 ndq.st,.int .i64 ndq.ag,.int .i64 ndq.bits,.int .i64 ndq.com]]]))(hl:l.length≤maxLen):
 Fa.call (.fn 89) [Ag 2 true nn (l.map An.cells),.func (.func g) [] [.ptr 0 0 0]] [.live 9 false false [[.int .i64 ndq.frm,.int .i64 ndq.to,Ag 2 true ndq.nn (ndq.wants.map An.cells),.int .i64 ndq.cmd,.int .i64 ndq.after,.int .i64 ndq.st,.int .i64 ndq.ag,.int .i64 ndq.bits,.int .i64 ndq.com]]]=some (.ret (.bool (l.any p)),[.live 9 false false [[.int .i64 ndq.frm,.int .i64 ndq.to,Ag 2 true ndq.nn (ndq.wants.map An.cells),.int .i64 ndq.cmd,.int .i64 ndq.after,.int .i64 ndq.st,.int .i64 ndq.ag,.int .i64 ndq.bits,.int .i64 ndq.com]]]):=by
 (refine ce Try.func89 ?_;simp only[Try.f89];(have hb:=trivial;with_reducible repeat' (first|simp only[hb,Vc.down,seval,dR hp hl,Ry p l 0 (Int.le_refl 0)]|refine Be ?_ ?_<;>intro hb|refine fd ?_|fail)))
def aI(bits:Int)(l:List An):Bool:=l.all fun w=>bZ bits w.vote==w.is
theorem kD(n:Pm)(hl:n.wants.length≤maxLen)(h0:∀w∈n.wants,0≤w.vote):Fa.call (.fn 94) [.agg [.int .i64 n.frm,.int .i64 n.to,Ag 2 true n.nn (n.wants.map An.cells),.int .i64 n.cmd,.int .i64 n.after,.int .i64 n.st,.int .i64 n.ag,.int .i64 n.bits,.int .i64 n.com]] []=some (.ret (.bool (aI n.bits n.wants)),[]):=by
 have hc:=cK (ndq:=n) (l:=n.wants) (nn:=n.nn) (g:=99) (p:=fun w=> !(bZ n.bits w.vote==w.is)) (fun w hw=>jK n w (h0 w hw)) hl
 have q1:aI n.bits n.wants= !(n.wants.any fun w=> !(bZ n.bits w.vote==w.is)):=List.all_eq_not_any_not
 (refine ce Try.func94 ?_;simp only[Try.f94];(have hb:=trivial;with_reducible repeat' (first|simp only[hb,Vc.down,seval,afO.down,hc]|refine Be ?_ ?_<;>intro hb|refine fd ?_|fail)))
 all_goals simp[q1]
theorem aaK(f0 f1 f2 f3:Fn)(a0 a1 a2 a3 c0 c1 c2 c3:List AV):Qj Try.prog 155 [(0,.func f0 a0 c0),(1,.func f1 a1 c1),(2,.func f2 a2 c2),(3,.func f3 a3 c3)]=some (.agg [.func f0 a0 c0,.func f1 a1 c1,.func f2 a2 c2,.func f3 a3 c3]):=by kernel_rfl
theorem sP(a b c d:AV):Oo Try.prog 155 (.agg [a,b,c,d]) (.int .i64 0)=some a:=by kernel_rfl
theorem sF(a b c d:AV):Oo Try.prog 155 (.agg [a,b,c,d]) (.int .i64 1)=some b:=by kernel_rfl
theorem sL(a b c d:AV):Oo Try.prog 155 (.agg [a,b,c,d]) (.int .i64 2)=some c:=by kernel_rfl
theorem sQ(a b c d:AV):Oo Try.prog 155 (.agg [a,b,c,d]) (.int .i64 3)=some d:=by kernel_rfl
def rM(n:Pm):Bool:=(n.frm==n.st)&&decide (n.after≤n.ag)&&aI n.bits n.wants&&(n.cmd== -1||n.cmd==n.com)
theorem w2:IntKind.i64.wrap 2=2:=Eq.trans rfl rfl
theorem w3:IntKind.i64.wrap 3=3:=Eq.trans rfl rfl
theorem w4:IntKind.i64.wrap 4=4:=Eq.trans rfl rfl
theorem gU(n:Pm)(hl:n.wants.length≤maxLen)(h0:∀w∈n.wants,0≤w.vote):Fa.call (.fn 75) [.agg [.int .i64 n.frm,.int .i64 n.to,Ag 2 true n.nn (n.wants.map An.cells),.int .i64 n.cmd,.int .i64 n.after,.int .i64 n.st,.int .i64 n.ag,.int .i64 n.bits,.int .i64 n.com]] []=some (.ret (.bool (rM n)),[]):=by
 have q1:=wV n
 have q2:=yD n
 have q3:=kD n hl h0
 have q4:=uG n
 (refine ce Try.func75 ?_;simp only[Try.f75];(have hb:=trivial;with_reducible repeat' (first|simp only[hb,Vc.down,seval,yE.down,aaK,sP,sF,sL,sQ,q1,q2,q3,q4,w2,w3,w4]|refine Be ?_ ?_<;>intro hb|refine fd ?_|fail)))
 (have hb:=trivial;with_reducible repeat' (first|simp only[hb,Vc.down,seval,yE.down,aaK,sP,sF,sL,sQ,q1,q2,q3,q4,w2,w3,w4]|refine Be ?_ ?_<;>intro hb|refine fd ?_|refine an8 ?_|fail))
 all_goals (refine congrArg (fun b=>(Dv.ret (AV.bool b),([]:Aa))) ?_;symm;((try simp only[acN,abJ,abL]at *);simp only[rM, *,acV,abP,Bool.and_true,aa5,Bool.and_self,Bool.not_not,abJ,abL,aa4,List.all_nil]))
def nd(x:Am)(st ag bits com:Int):Pm:=⟨x.frm,x.to,x.nn,x.wants,x.cmd,x.after,st,ag,bits,com⟩
def vL(a:Int):Int:=if IntKind.i64.wrap (a+1)<10 then IntKind.i64.wrap (a+1)else 10
def Wv(st ag bits com:Int):List Am→Int × Int
 | []=>(st,vL ag)
 |x::l=>if rM (nd x st ag bits com)=true then(x.to,0)else Wv st ag bits com l
theorem sV(m:Ba)(st ag bits com:Int)(hs:m.small)(h0:∀x∈m.moves,∀w∈x.wants,0≤w.vote):
 Fa.call (.fn 45) [.agg [Ag 3 true m.nS (m.sens.map Bd.cells),Ag 4 false m.nV (m.votes.map Ak.cells),Ag 5 false m.nM (m.moves.map Am.cells),.int .i64 m.states,.int .i64 m.cmds,.int .i64 m.bgn,Ag 1 true m.nO (m.opn.map iv)],.agg [.int .i64 st,.int .i64 ag],.agg [.int .i64 bits,.int .i64 com]] []=some (.ret (.agg [.int .i64 (Wv st ag bits com m.moves).1,.int .i64 (Wv st ag bits com m.moves).2]),[]):=by
 (refine ce Try.func45 ?_;simp only[Try.f45];(have hb:=trivial;with_reducible repeat' (first|simp only[hb,Vc.down,seval,lN.down,aaF]|refine Be ?_ ?_<;>intro hb|refine fd ?_|fail)))
 refine Ft (Yg 32 m.moves (fun i (zz:Unit) t h=>t 4=.ptr 1 0 0∧t 5=.ptr 2 0 0∧t 6=.ptr 3 0 0∧t 10=Ag 5 false m.nM (m.moves.map Am.cells)∧t 11=.int .i64 m.moves.length∧t 12=.int .i64 i∧(h[1]?=some (.live 2 true false [[.int .i64 st,.int .i64 ag]])∧h[2]?=some (.live 2 true false [[.int .i64 bits,.int .i64 com]])∧h[3]?=some (.live 2 true false [[.int .i64 0,.int .i64 0]]))) (fun rest zz=>Wv st ag bits com rest) (fun r e t h=>(e=.exit 0∧t 4=.ptr 1 0 0∧t 6=.ptr 3 0 0∧h[1]?=some (.live 2 true false [[.int .i64 st,.int .i64 ag]])∧h[3]?=some (.live 2 true false [[.int .i64 0,.int .i64 0]])∧r=(st,vL ag))∨(e=.ret∧t 6=.ptr 3 0 0∧h[3]?=some (.live 2 true true [[.int .i64 r.1,.int .i64 r.2]]))) ?_ ?_ () _ _ ?_) (fun e t h hk=>?_)
 ·rintro _ t h Q' kQ ⟨h4,h5,h6,h10,h11,h12,⟨hA,hB,hC⟩⟩
  (have hb:=trivial;with_reducible repeat' (first|simp only[hb,Vc.down,seval,lN.down,h4,h5,h6,h10,h11,h12,aaY,decide_false]|refine Be ?_ ?_<;>intro hb|refine fd ?_|fail))
  exact kQ _ _ _ (.inl ⟨rfl,by simp[up,h4],by simp[up,h6],hA,hC,rfl⟩)
 ·rintro x rest i _ t h J Q' kJ kQ hx hi ⟨h4,h5,h6,h10,h11,h12,⟨hA,hB,hC⟩⟩
  have hd:decide ((i:Int)<(m.moves.length:Int))=true:=decide_eq_true (by omega)
  have hw:=Aw hi hs.moves
  have hA1:=Bo hA
  have hB1:=Bo hB
  have hC1:=Bo hC
  have hap:=gU (nd x st ag bits com) (hs.ws x (aaX hx)) (h0 x (aaX hx))
  have h3l:3<h.length:=(ac8.1 hC).1
  generalize hq:rM (nd x st ag bits com)=q at hap
  simp only[nd]at hap
  (have hb:=trivial;with_reducible repeat' (first|simp only[hb,Vc.down,seval,lN.down,h4,h5,h6,h10,h11,h12,hd,hx,hw,hA1,hB1,hC1,hap,Am.cells,aaF]|refine Be ?_ ?_<;>intro hb|refine fd ?_|fail))
  ·exact kQ _ _ _ (.inr ⟨rfl,by simp[up,h6],by rw[afE (by simp;omega)];simp[Wv,hq,hb]⟩)
  ·(refine Cj (kJ _ _ () ⟨?_,?_,?_,?_,?_,?_,⟨hA1 _,hB1 _,hC1 _⟩⟩ ?_);(simp[up,h4]);(simp[up,h5]);(simp[up,h6]);(simp[up,h10]);(simp[up,h11]);(simp[up]);(simp[Wv,hq,hb]))
 ·exact⟨by simp[up,Eu],by simp[up,Eu],by simp[up,Eu],by simp[up,Eu],by simp[up,Eu],by simp[up],⟨rfl,rfl,rfl⟩⟩
 rcases hk with⟨rfl,h4,h6,hA,hC,hr⟩|⟨rfl,h6,hC⟩
 ·have hA1:=Bo hA
  have hC1:=Bo hC
  have h3l:3<h.length:=(ac8.1 hC).1
  have hset:∀c:CB,(h.set 3 c)[3]?=some c:=fun c=>afE h3l
  have hmt:(if IntKind.i64.wrap (ag+1)<10 then IntKind.i64.wrap (ag+1)else 10)=vL ag:=rfl
  rw[hr]
  (have hb:=trivial;with_reducible repeat' (first|simp only[hb,Vc.down,seval,lN.down,h4,h6,hA,hC,hA1,hC1,hset,hmt]|refine Be ?_ ?_<;>intro hb|refine fd ?_|fail))
 ·(have hb:=trivial;with_reducible repeat' (first|simp only[hb,Vc.down,seval,lN.down,h6,hC]|refine Be ?_ ?_<;>intro hb|refine fd ?_|fail))
theorem fU{m:Ba}(h:Do m=true):m.votes.length≤6:=by
 simp only[Do,Ns,aaV,decide_eq_true_eq]at h
 exact h.1.1.1.1.1.1.1.1.1.2
def Xl(m:Ba):Bool:=m.votes.all (fun v=>decide (v.sens.length≤10))&&m.moves.all (fun x=>decide (x.wants.length≤10))&&decide (m.sens.length≤10)&&decide (m.votes.length≤10)&&decide (m.moves.length≤30)&&decide (m.opn.length≤20)
theorem qX(m:Ba)(hs:m.small):Fa.call (.fn 12) [.agg [Ag 3 true m.nS (m.sens.map Bd.cells),Ag 4 false m.nV (m.votes.map Ak.cells),Ag 5 false m.nM (m.moves.map Am.cells),.int .i64 m.states,.int .i64 m.cmds,.int .i64 m.bgn,Ag 1 true m.nO (m.opn.map iv)]] []=some (.ret (.bool (Xl m)),[]):=by
 have l1:decide ((m.sens.length:Int)≤10)=decide (m.sens.length≤10):=by rw[decide_eq_decide];omega
 have l2:decide ((m.votes.length:Int)≤10)=decide (m.votes.length≤10):=by rw[decide_eq_decide];omega
 have l3:decide ((m.moves.length:Int)≤30)=decide (m.moves.length≤30):=by rw[decide_eq_decide];omega
 have l4:decide ((m.opn.length:Int)≤20)=decide (m.opn.length≤20):=by rw[decide_eq_decide];omega
 (refine ce Try.func12 ?_;simp only[Try.f12];(have hb:=trivial;with_reducible repeat' (first|simp only[hb,Vc.down,seval,Wb.down,aaF]|refine Be ?_ ?_<;>intro hb|refine fd ?_|fail)))
 refine Ft (Yg 57 m.votes (fun i (zz:Unit) t h=>t 1=.ptr 0 0 0∧t 3=.int .i64 i∧(h=[.live 7 false false [[Ag 3 true m.nS (m.sens.map Bd.cells),Ag 4 false m.nV (m.votes.map Ak.cells),Ag 5 false m.nM (m.moves.map Am.cells),.int .i64 m.states,.int .i64 m.cmds,.int .i64 m.bgn,Ag 1 true m.nO (m.opn.map iv)]]])) (fun rest zz=>rest.all (fun v=>decide (v.sens.length≤10))) (fun r e t h=>(if r=true then e=.exit 0∧t 1=.ptr 0 0 0∧h=[.live 7 false false [[Ag 3 true m.nS (m.sens.map Bd.cells),Ag 4 false m.nV (m.votes.map Ak.cells),Ag 5 false m.nM (m.moves.map Am.cells),.int .i64 m.states,.int .i64 m.cmds,.int .i64 m.bgn,Ag 1 true m.nO (m.opn.map iv)]]]else e=.ret∧t 2=.bool false)) ?_ ?_ () _ _ ?_) (fun e t h hk=>?_)
 ·rintro _ t h Q' kQ ⟨h1,h3,rfl⟩
  (have hb:=trivial;with_reducible repeat' (first|simp only[hb,Vc.down,seval,Wb.down,h1,h3,aaY,decide_false,aaF]|refine Be ?_ ?_<;>intro hb|refine fd ?_|fail))
  exact kQ _ _ _ (by rw[if_pos (by rfl)];exact⟨rfl,by simp[up,h1],rfl⟩)
 ·rintro x rest i _ t h J Q' kJ kQ hx hi ⟨h1,h3,rfl⟩
  have hd:decide ((i:Int)<(m.votes.length:Int))=true:=decide_eq_true (by omega)
  have hw:=Aw hi hs.votes
  have lx:decide ((10:Int)<(x.sens.length:Int))= !decide (x.sens.length≤10):=by rw[←decide_not,decide_eq_decide];omega
  cases c1:decide (x.sens.length≤10)with
  |false=>
   (have hb:=trivial;with_reducible repeat' (first|simp only[hb,Vc.down,seval,Wb.down,h1,h3,hd,hx,hw,lx,c1,Ak.cells,aaF]|refine Be ?_ ?_<;>intro hb|refine fd ?_|fail))
   exact kQ _ _ _ (by rw[if_neg (by simp only[aa4,c1,abP];simp)];exact⟨rfl,by simp[up]⟩)
  |true=>
   (have hb:=trivial;with_reducible repeat' (first|simp only[hb,Vc.down,seval,Wb.down,h1,h3,hd,hx,hw,lx,c1,Ak.cells,aaF]|refine Be ?_ ?_<;>intro hb|refine fd ?_|fail))
   (refine Cj (kJ _ _ () ⟨?_,?_,rfl⟩ ?_);(simp[up,h1]);(simp[up]);(simp only[aa4,c1,aa5]))
 ·exact⟨by simp[up,Eu],by simp[up],rfl⟩
 split at hk
 rotate_left
 ·obtain⟨rfl,h2⟩:=hk
  rename_i hr1
  (have hb:=trivial;with_reducible repeat' (first|simp only[hb,Vc.down,seval,Wb.down,h2]|refine Be ?_ ?_<;>intro hb|refine fd ?_|fail))
  all_goals simp[Xl,afP.2 hr1]
 obtain⟨rfl,h1,rfl⟩:=hk
 rename_i hr1
 (have hb:=trivial;with_reducible repeat' (first|simp only[hb,Vc.down,seval,Wb.down,h1,aaF]|refine Be ?_ ?_<;>intro hb|refine fd ?_|fail))
 refine Ft (Yg 57 m.moves (fun i (zz:Unit) t h=>t 1=.ptr 0 0 0∧t 4=.int .i64 i∧(h=[.live 7 false false [[Ag 3 true m.nS (m.sens.map Bd.cells),Ag 4 false m.nV (m.votes.map Ak.cells),Ag 5 false m.nM (m.moves.map Am.cells),.int .i64 m.states,.int .i64 m.cmds,.int .i64 m.bgn,Ag 1 true m.nO (m.opn.map iv)]]])) (fun rest zz=>rest.all (fun x=>decide (x.wants.length≤10))) (fun r e t h=>(if r=true then e=.exit 2∧t 1=.ptr 0 0 0∧h=[.live 7 false false [[Ag 3 true m.nS (m.sens.map Bd.cells),Ag 4 false m.nV (m.votes.map Ak.cells),Ag 5 false m.nM (m.moves.map Am.cells),.int .i64 m.states,.int .i64 m.cmds,.int .i64 m.bgn,Ag 1 true m.nO (m.opn.map iv)]]]else e=.ret∧t 2=.bool false)) ?_ ?_ () _ _ ?_) (fun e t h hk=>?_)
 ·rintro _ t h Q' kQ ⟨h1,h4,rfl⟩
  (have hb:=trivial;with_reducible repeat' (first|simp only[hb,Vc.down,seval,Wb.down,h1,h4,aaY,decide_false,aaF]|refine Be ?_ ?_<;>intro hb|refine fd ?_|fail))
  exact kQ _ _ _ (by rw[if_pos (by rfl)];exact⟨rfl,by simp[up,h1],rfl⟩)
 ·rintro x rest i _ t h J Q' kJ kQ hx hi ⟨h1,h4,rfl⟩
  have hd:decide ((i:Int)<(m.moves.length:Int))=true:=decide_eq_true (by omega)
  have hw:=Aw hi hs.moves
  have lx:decide ((10:Int)<(x.wants.length:Int))= !decide (x.wants.length≤10):=by rw[←decide_not,decide_eq_decide];omega
  cases c1:decide (x.wants.length≤10)with
  |false=>
   (have hb:=trivial;with_reducible repeat' (first|simp only[hb,Vc.down,seval,Wb.down,h1,h4,hd,hx,hw,lx,c1,Am.cells,aaF]|refine Be ?_ ?_<;>intro hb|refine fd ?_|fail))
   exact kQ _ _ _ (by rw[if_neg (by simp only[aa4,c1,abP];simp)];exact⟨rfl,by simp[up]⟩)
  |true=>
   (have hb:=trivial;with_reducible repeat' (first|simp only[hb,Vc.down,seval,Wb.down,h1,h4,hd,hx,hw,lx,c1,Am.cells,aaF]|refine Be ?_ ?_<;>intro hb|refine fd ?_|fail))
   (refine Cj (kJ _ _ () ⟨?_,?_,rfl⟩ ?_);(simp[up,h1]);(simp[up]);(simp only[aa4,c1,aa5]))
 ·exact⟨by simp[up,Eu,h1],by simp[up],rfl⟩
 split at hk
 rotate_left
 ·obtain⟨rfl,h2⟩:=hk
  rename_i hr2
  (have hb:=trivial;with_reducible repeat' (first|simp only[hb,Vc.down,seval,Wb.down,h2]|refine Be ?_ ?_<;>intro hb|refine fd ?_|fail))
  all_goals simp[Xl,afP.2 hr2]
 obtain⟨rfl,h1,rfl⟩:=hk
 rename_i hr2
 (have hb:=trivial;with_reducible repeat' (first|simp only[hb,Vc.down,seval,Wb.down,h1,aaF,l1,l2,l3,l4]|refine Be ?_ ?_<;>intro hb|refine fd ?_|fail))
 all_goals (refine congrArg (fun b=>(Dv.ret (AV.bool b),([]:Aa))) ?_;symm;((try simp only[acN,abJ,abL]at *);simp only[Xl, *,acV,abP,Bool.and_true,aa5,Bool.and_self,Bool.not_not,abJ,abL,aa4,List.all_nil]))
theorem bV{α:Type}{d:List AV→Option α}{f:α→List AV}(hd:∀cs x,d cs=some x→cs=f x):∀{rows:List (List AV)} {l:List α},Bh d rows=some l→rows=l.map f
 | [],l,h=>by simp[Bh]at h;subst h;rfl
 |r::rows,l,h=>by
  simp only[Bh,abC,abE]at h
  obtain⟨x,h1,l',h2,rfl⟩:=h
  rw[hd r x h1,bV hd h2];rfl
def qB{α:Type}(n:Nat)(fl:Bool)(d:List AV→Option α):AV→Option (Bool × List α)
 | .nils=>some (false,[])
 | .imm n' fl' rows=>if n'=n∧fl'=fl then(Bh d rows).map fun l=>(true,l)else none
 |_=>none
theorem Qe{α:Type}{n:Nat}{fl:Bool}{d:List AV→Option α}{f:α→List AV}(hd:∀cs x,d cs=some x→cs=f x){v:AV}{x:Bool × List α}(h:qB n fl d v=some x):v=Ag n fl x.1 (x.2.map f):=by
 unfold qB at h
 split at h
 ·cases h;rfl
 ·split at h
  ·rename_i hq
   obtain⟨rfl,rfl⟩:=hq
   obtain⟨l,h1,rfl⟩:=abE.1 h
   rw[bV hd h1]
   cases l<;>rfl
  ·cases h
 ·cases h
def nC:List AV→Option Int
 | [.int .i64 a]=>some a
 |_=>none
theorem Zx(cs:List AV)(x:Int)(h:nC cs=some x):cs=iv x:=by
 unfold nC at h
 split at h
 ·cases h;rfl
 ·cases h
def tY:List AV→Option Bd
 | [.int .i64 a,.int .i64 b,.bool c]=>some ⟨a,b,c⟩
 |_=>none
theorem rW(cs:List AV)(x:Bd)(h:tY cs=some x):cs=x.cells:=by
 unfold tY at h
 split at h
 ·cases h;rfl
 ·cases h
def lZ:List AV→Option Ak
 | [l,.int .i64 a,.int .i64 b,.bool c]=>(qB 1 true nC l).map fun x=>⟨x.1,x.2,a,b,c⟩
 |_=>none
theorem kX(cs:List AV)(x:Ak)(h:lZ cs=some x):cs=x.cells:=by
 unfold lZ at h
 split at h
 ·obtain⟨y,h1,rfl⟩:=abE.1 h
  rw[Qe Zx h1];rfl
 ·cases h
def oJ:List AV→Option An
 | [.int .i64 a,.bool c]=>some ⟨a,c⟩
 |_=>none
theorem oP(cs:List AV)(x:An)(h:oJ cs=some x):cs=x.cells:=by
 unfold oJ at h
 split at h
 ·cases h;rfl
 ·cases h
def lT:List AV→Option Am
 | [.int .i64 a,.int .i64 b,l,.int .i64 c,.int .i64 d]=>(qB 2 true oJ l).map fun x=>⟨a,b,x.1,x.2,c,d⟩
 |_=>none
theorem lB(cs:List AV)(x:Am)(h:lT cs=some x):cs=x.cells:=by
 unfold lT at h
 split at h
 ·obtain⟨y,h1,rfl⟩:=abE.1 h
  rw[Qe oP h1];rfl
 ·cases h
def cY:List AV→Option Ba
 | [s,v,x,.int .i64 a,.int .i64 b,.int .i64 c,o]=>(qB 3 true tY s).bind fun s=>(qB 4 false lZ v).bind fun v=>(qB 5 false lT x).bind fun x=>(qB 1 true nC o).map fun o=>⟨s.1,s.2,v.1,v.2,x.1,x.2,a,b,c,o.1,o.2⟩
 |_=>none
theorem Wm(cs:List AV)(x:Ba)(h:cY cs=some x):cs=x.cells:=by
 unfold cY at h
 split at h
 ·simp only[abC,abE]at h
  obtain⟨s,h1,v,h2,y,h3,o,h4,rfl⟩:=h
  rw[Qe rW h1,Qe kX h2,Qe lB h3,Qe Zx h4]
 ·cases h
def Vv(m:Ba):Bool:=decide (m.sens.length≤1000)&&decide (m.votes.length≤1000)&&decide (m.moves.length≤1000)&&decide (m.opn.length≤1000)&&m.votes.all (fun v=>decide (v.sens.length≤1000))&&m.moves.all (fun x=>decide (x.wants.length≤1000))
theorem Tf{m:Ba}(h:Vv m=true):m.small:=by
 simp only[Vv,aaV,decide_eq_true_eq,aa3]at h
 obtain⟨⟨⟨⟨⟨a,b⟩,c⟩,d⟩,e⟩,f⟩:=h
 exact⟨by unfold maxLen;omega,by unfold maxLen;omega,by unfold maxLen;omega,by unfold maxLen;omega,fun v hv=>by have:=e v hv;unfold maxLen;omega,fun v hv=>by have:=f v hv;unfold maxLen;omega⟩
def nU:List AV→Aa→Option (Dv × Aa)
 | [.agg cs],[]=>(cY cs).bind fun m=>if Vv m=true then some (.ret (.bool (Do m)),[])else none
 |_,_=>none
def sO:List AV→Aa→Option (Dv × Aa)
 | [.agg cs,.agg [.int .i64 st,.int .i64 ag],.agg [.int .i64 bits,.int .i64 com]],[]=>(cY cs).bind fun m=>if(Vv m&&m.moves.all fun x=>x.wants.all fun w=>decide (0≤w.vote))=true then
     (match Wv st ag bits com m.moves with
       |(a,b)=>some (.ret (.agg [.int .i64 a,.int .i64 b]),[]))else none
 |_,_=>none
def kZ:List AV→Aa→Option (Dv × Aa)
 | [.agg cs,l],[]=>(cY cs).bind fun m=>(qB 1 true nC l).bind fun l=>if(Vv m&&decide (l.2.length=m.sens.length)&&m.votes.all fun v=>v.sens.all fun k=>decide (0≤k)&&decide (k.toNat<m.sens.length))=true then
     some (.ret (.int .i64 (Za m l.2 m.votes 0 0)),[])else none
 |_,_=>none
def pr2:Et:=⟨fun f=>if f=42 then some nU else if f=45 then some sO else if f=46 then some kZ else pr f,pr.md⟩
theorem Tu:∀f p,pr2 f=some p→∀a h r,p a h=some r→Fa.call (.fn f) a h=some r:=by
 intro f p hp a h r hr
 simp only[pr2]at hp
 split at hp
 ·rename_i hf
  subst hf
  cases hp
  unfold nU at hr
  split at hr
  ·rename_i cs
   obtain⟨s,h1,h2⟩:=abC.1 hr
   split at h2
   ·rename_i hs
    cases h2
    rw[Wm _ _ h1]
    exact fH s (Tf hs)
   ·cases h2
  ·cases hr
 ·split at hp
  ·rename_i hf
   subst hf
   cases hp
   unfold sO at hr
   split at hr
   ·rename_i cs st ag bits com
    obtain⟨s,h1,h2⟩:=abC.1 hr
    split at h2
    ·rename_i hs
     simp only[aaV,aa3,decide_eq_true_eq]at hs
     cases h2
     rw[Wm _ _ h1]
     exact sV s st ag bits com (Tf hs.1) hs.2
    ·cases h2
   ·cases hr
  ·split at hp
   ·rename_i hf
    subst hf
    cases hp
    unfold kZ at hr
    split at hr
    ·rename_i cs l
     simp only[abC]at hr
     obtain⟨s,h1,y,h2,h3⟩:=hr
     split at h3
     ·rename_i hs
      simp only[aaV,aa3,decide_eq_true_eq]at hs
      cases h3
      rw[Wm _ _ h1,Qe Zx h2]
      exact rR s hs.1.2 (Tf hs.1.1) (fun v hv k hk=>hs.2 v hv k hk)
     ·cases h3
    ·cases hr
   ·cases hp
def yO:AV:=.agg [.imm 3 true [[.int .i64 0,.int .i64 100,.bool false],[.int .i64 0,.int .i64 100,.bool false],[.int .i64 0,.int .i64 100,.bool false]],.imm 4 false [[.imm 1 true [[.int .i64 0],[.int .i64 1],[.int .i64 2]],.int .i64 2,.int .i64 80,.bool true]],.imm 5 false [[.int .i64 0,.int .i64 1,.imm 2 true [[.int .i64 0,.bool true]],.int .i64 (-1),.int .i64 0],[.int .i64 1,.int .i64 2,.nils,.int .i64 (-1),.int .i64 1],[.int .i64 2,.int .i64 0,.imm 2 true [[.int .i64 0,.bool false]],.int .i64 0,.int .i64 2]],.int .i64 3,.int .i64 1,.int .i64 0,.imm 1 true [[.int .i64 3],[.int .i64 1],[.int .i64 0]]]
def exS:AV:=.imm 2 true [[.int .i64 1,.int .i64 (-1)],[.int .i64 1,.int .i64 0],[.int .i64 0,.int .i64 (-1)],[.int .i64 0,.int .i64 0]]
def E0:sH:=⟨54,[yO],(.ret (.tup [.slr 2 0 0 4,.slr 2 1 0 4]),[.live 2 false false [[.slr 1 2 0 3,.int .i64 (-1)],[.slr 1 3 0 3,.int .i64 0],[.slr 1 4 0 3,.int .i64 (-1)],[.slr 1 5 0 3,.int .i64 0]],.live 2 true false [[.int .i64 1,.int .i64 (-1)],[.int .i64 1,.int .i64 0],[.int .i64 0,.int .i64 (-1)],[.int .i64 0,.int .i64 0]],.live 1 true false [[.int .i64 (-10000)],[.int .i64 (-10000)],[.int .i64 (-10000)]],.live 1 true false [[.int .i64 (-10000)],[.int .i64 (-10000)],[.int .i64 (-10000)]],.live 1 true false [[.int .i64 (-10000)],[.int .i64 0],[.int .i64 0]],.live 1 true false [[.int .i64 (-10000)],[.int .i64 0],[.int .i64 0]]])⟩
def E1:sH:=⟨55,[yO,exS],(.ret (.tup [.slr 2 0 0 24,.mapr 1]),[.live 2 true false [[.int .i64 0,.int .i64 0],[.int .i64 1,.int .i64 0],[.int .i64 0,.int .i64 1],[.int .i64 1,.int .i64 1],[.int .i64 0,.int .i64 2],[.int .i64 2,.int .i64 0],[.int .i64 0,.int .i64 3],[.int .i64 2,.int .i64 1],[.int .i64 0,.int .i64 4],[.int .i64 2,.int .i64 2],[.int .i64 0,.int .i64 5],[.int .i64 2,.int .i64 3],[.int .i64 0,.int .i64 6],[.int .i64 2,.int .i64 4],[.int .i64 0,.int .i64 7],[.int .i64 2,.int .i64 5],[.int .i64 0,.int .i64 8],[.int .i64 2,.int .i64 6],[.int .i64 0,.int .i64 9],[.int .i64 2,.int .i64 7],[.int .i64 0,.int .i64 10],[.int .i64 2,.int .i64 8],[.int .i64 2,.int .i64 9],[.int .i64 2,.int .i64 10]],.lp [] .skip .skip [.agg [.int .i64 0,.int .i64 0],.agg [.int .i64 0,.int .i64 0,.int .i64 (-1)],.agg [.int .i64 1,.int .i64 0],.agg [.int .i64 0,.int .i64 0,.int .i64 0],.agg [.int .i64 0,.int .i64 1],.agg [.int .i64 0,.int .i64 0,.int .i64 2],.agg [.int .i64 1,.int .i64 1],.agg [.int .i64 1,.int .i64 0,.int .i64 0],.agg [.int .i64 0,.int .i64 2],.agg [.int .i64 0,.int .i64 1,.int .i64 2],.agg [.int .i64 2,.int .i64 0],.agg [.int .i64 1,.int .i64 1,.int .i64 0],.agg [.int .i64 0,.int .i64 3],.agg [.int .i64 0,.int .i64 2,.int .i64 2],.agg [.int .i64 2,.int .i64 1],.agg [.int .i64 2,.int .i64 0,.int .i64 0],.agg [.int .i64 0,.int .i64 4],.agg [.int .i64 0,.int .i64 3,.int .i64 2],.agg [.int .i64 2,.int .i64 2],.agg [.int .i64 2,.int .i64 1,.int .i64 0],.agg [.int .i64 0,.int .i64 5],.agg [.int .i64 0,.int .i64 4,.int .i64 2],.agg [.int .i64 2,.int .i64 3],.agg [.int .i64 2,.int .i64 2,.int .i64 0],.agg [.int .i64 0,.int .i64 6],.agg [.int .i64 0,.int .i64 5,.int .i64 2],.agg [.int .i64 2,.int .i64 4],.agg [.int .i64 2,.int .i64 3,.int .i64 0],.agg [.int .i64 0,.int .i64 7],.agg [.int .i64 0,.int .i64 6,.int .i64 2],.agg [.int .i64 2,.int .i64 5],.agg [.int .i64 2,.int .i64 4,.int .i64 0],.agg [.int .i64 0,.int .i64 8],.agg [.int .i64 0,.int .i64 7,.int .i64 2],.agg [.int .i64 2,.int .i64 6],.agg [.int .i64 2,.int .i64 5,.int .i64 0],.agg [.int .i64 0,.int .i64 9],.agg [.int .i64 0,.int .i64 8,.int .i64 2],.agg [.int .i64 2,.int .i64 7],.agg [.int .i64 2,.int .i64 6,.int .i64 0],.agg [.int .i64 0,.int .i64 10],.agg [.int .i64 0,.int .i64 9,.int .i64 2],.agg [.int .i64 2,.int .i64 8],.agg [.int .i64 2,.int .i64 7,.int .i64 0],.agg [.int .i64 2,.int .i64 9],.agg [.int .i64 2,.int .i64 8,.int .i64 0],.agg [.int .i64 2,.int .i64 10],.agg [.int .i64 2,.int .i64 9,.int .i64 0]] .map])⟩
def E2:sH:=⟨30,[yO,.int .i64 2],(.ret (.tup [.slr 2 0 0 3,.int .i64 0]),[.live 2 false true [[.slr 1 1 0 3,.int .i64 (-1)],[.slr 1 2 0 3,.int .i64 (-1)],[.slr 1 3 0 3,.int .i64 (-1)]],.live 1 true false [[.int .i64 (-10000)],[.int .i64 (-10000)],[.int .i64 (-10000)]],.live 1 true false [[.int .i64 (-10000)],[.int .i64 (-10000)],[.int .i64 (-10000)]],.live 1 true false [[.int .i64 (-10000)],[.int .i64 (-10000)],[.int .i64 (-10000)]]])⟩
def E3:sH:=⟨21,[yO,.int .i64 0,.imm 1 true [[.int .i64 2]]],(.ret (.tup [.int .i64 3,.int .i64 0]),[])⟩
def E4:sH:=⟨21,[yO,.int .i64 0,.imm 1 true [[.int .i64 0]]],(.ret (.tup [.int .i64 0,.int .i64 5]),[])⟩
theorem Zg(f:Nat):pr f=none:=rfl
theorem uX:(Jb Try.prog pr2 400).call (.fn E0.f) E0.args []=some E0.res:=by kernel_rfl
theorem eX:Fa.call (.fn E0.f) E0.args []=some E0.res:=Kt (pr:=pr) (pr2:=pr2) rfl (fun f _=>Zg f) Tu uX
def T1:Et:=Wt pr2 [E0]
theorem zX:∀f p,T1 f=some p→∀a h r,p a h=some r→Fa.call (.fn f) a h=some r:=Oj Tu (fun e he=>by
 simp only[aa0,abG,or_false]at he
 rcases he with rfl
 ·exact eX)
theorem tU:(Jb Try.prog T1 400).call (.fn E1.f) E1.args []=some E1.res:=by kernel_rfl
theorem nQ:Fa.call (.fn E1.f) E1.args []=some E1.res:=Kt (pr:=pr) (pr2:=T1) rfl (fun f _=>Zg f) zX tU
def T2:Et:=Wt pr2 [E0,E1]
theorem yL:∀f p,T2 f=some p→∀a h r,p a h=some r→Fa.call (.fn f) a h=some r:=Oj Tu (fun e he=>by
 simp only[aa0,abG,or_false]at he
 rcases he with rfl|rfl
 ·exact eX
 ·exact nQ)
theorem vU:(Jb Try.prog T2 400).call (.fn E2.f) E2.args []=some E2.res:=by kernel_rfl
theorem yW:Fa.call (.fn E2.f) E2.args []=some E2.res:=Kt (pr:=pr) (pr2:=T2) rfl (fun f _=>Zg f) yL vU
def T3:Et:=Wt pr2 [E0,E1]
theorem zC:∀f p,T3 f=some p→∀a h r,p a h=some r→Fa.call (.fn f) a h=some r:=Oj Tu (fun e he=>by
 simp only[aa0,abG,or_false]at he
 rcases he with rfl|rfl
 ·exact eX
 ·exact nQ)
theorem vK:(Jb Try.prog T3 400).call (.fn E3.f) E3.args []=some E3.res:=by kernel_rfl
theorem xH:Fa.call (.fn E3.f) E3.args []=some E3.res:=Kt (pr:=pr) (pr2:=T3) rfl (fun f _=>Zg f) zC vK
def T4:Et:=Wt pr2 [E0,E1]
theorem xP:∀f p,T4 f=some p→∀a h r,p a h=some r→Fa.call (.fn f) a h=some r:=Oj Tu (fun e he=>by
 simp only[aa0,abG,or_false]at he
 rcases he with rfl|rfl
 ·exact eX
 ·exact nQ)
theorem vH:(Jb Try.prog T4 400).call (.fn E4.f) E4.args []=some E4.res:=by kernel_rfl
theorem yH:Fa.call (.fn E4.f) E4.args []=some E4.res:=Kt (pr:=pr) (pr2:=T4) rfl (fun f _=>Zg f) xP vH
def TK:Et:=Wt pr2 [E2,E3,E4]
theorem zM:∀f p,TK f=some p→∀a h r,p a h=some r→Fa.call (.fn f) a h=some r:=Oj Tu (fun e he=>by
 simp only[aa0,abG,or_false]at he
 rcases he with rfl|rfl|rfl
 ·exact yW
 ·exact xH
 ·exact yH)
theorem gG:(Jb Try.prog TK 400).call (.fn 13) [] []=some (.ret (.bool true),[]):=by kernel_rfl
theorem kK:Fa.call (.fn 13) [] []=some (.ret (.bool true),[]):=Kt (pr:=pr) (pr2:=TK) rfl (fun f _=>Zg f) zM gG
theorem Ov{α:Type}{f:α→List AV}{p:List AV→Prop}{q:α→Prop}(hf:∀r,p r→∃x,r=f x∧q x):∀{rows:List (List AV)},(∀r∈rows,p r)→∃l:List α,rows=l.map f∧∀x∈l,q x
 | [],_=>⟨[],rfl,fun x hx=>by simp at hx⟩
 |r::rows,h=>by
  obtain⟨x,rfl,hx⟩:=hf r (h r (List.mem_cons_self ..))
  obtain⟨l,rfl,hl⟩:=Ov hf (fun r hr=>h r (List.mem_cons_of_mem _ hr))
  exact⟨x::l,rfl,fun y hy=>by
   rcases aa0.1 hy with rfl|hy
   ·exact hx
   ·exact hl y hy⟩
def i64(n:Int):Prop:= -9223372036854775808≤n∧n≤9223372036854775807
theorem Gx{n:Nat}{r:List AV}(h:Ty Try.prog (n+1) 3 r):∃x,r=[.int .i64 x]∧i64 x:=by
 simp only[Ty,Try.underlying3]at h
 obtain⟨x,rfl,h1,h2⟩:=h
 exact⟨x,rfl,h1,h2⟩
theorem aJ{n:Nat}{r:List AV}(h:Ty Try.prog (n+1) 4 r):∃x,r=[.bool x]:=by
 simp only[Ty,Try.underlying4]at h
 exact h
theorem fB{n:Nat}{r:List AV}(h:Ty Try.prog (n+2) 25 r):∃(nn:Bool) (l:List Int),r=[Ag 1 true nn (l.map iv)]∧l.length≤maxLen∧∀x∈l,i64 x:=by
 unfold Ty at h
 simp only[Try.underlying25]at h
 obtain⟨nn,rows,rfl,hl,hrows⟩:=h
 obtain⟨l,rfl,hi⟩:=Ov (f:=iv) (q:=i64) (fun r hr=>by obtain⟨x,rfl,hx⟩:=Gx hr;exact⟨x,rfl,hx⟩) hrows
 have e1:Try.prog.cellsOf 3=1:=by kernel_rfl
 have e2:Vo Try.prog (n+1) 3=true:=by
  simp only[Vo,Try.underlying3]
 rw[e1,e2]
 exact⟨nn,l,rfl,by simpa using hl,hi⟩
theorem vA{n:Nat}{r:List AV}(h:Ty Try.prog (n+2) 50 r):∃x:Bd,r=x.cells∧True:=by
 unfold Ty at h
 simp only[Try.underlying50,cQ]at h
 obtain⟨a0,b0,rfl,h0,a1,b1,rfl,h1,a2,b2,rfl,h2,rfl⟩:=h
 obtain⟨x0,rfl,_⟩:=Gx h0
 obtain⟨x1,rfl,_⟩:=Gx h1
 obtain⟨x2,rfl⟩:=aJ h2
 exact⟨⟨x0,x1,x2⟩,rfl,trivial⟩
theorem pX{n:Nat}{r:List AV}(h:Ty Try.prog (n+2) 56 r):∃x:An,r=x.cells∧True:=by
 unfold Ty at h
 simp only[Try.underlying56,cQ]at h
 obtain⟨a0,b0,rfl,h0,a1,b1,rfl,h1,rfl⟩:=h
 obtain⟨x0,rfl,_⟩:=Gx h0
 obtain⟨x1,rfl⟩:=aJ h1
 exact⟨⟨x0,x1⟩,rfl,trivial⟩
theorem pI{n:Nat}{r:List AV}(h:Ty Try.prog (n+3) 48 r):∃x:Ak,r=x.cells∧x.sens.length≤maxLen:=by
 unfold Ty at h
 simp only[Try.underlying48,cQ]at h
 obtain⟨a0,b0,rfl,h0,a1,b1,rfl,h1,a2,b2,rfl,h2,a3,b3,rfl,h3,rfl⟩:=h
 obtain⟨nn,l,rfl,hl,_⟩:=fB h0
 obtain⟨x1,rfl,_⟩:=Gx h1
 obtain⟨x2,rfl,_⟩:=Gx h2
 obtain⟨x3,rfl⟩:=aJ h3
 exact⟨⟨nn,l,x1,x2,x3⟩,rfl,hl⟩
theorem qZ{n:Nat}{r:List AV}(h:Ty Try.prog (n+4) 59 r):∃x:Am,r=x.cells∧x.wants.length≤maxLen:=by
 unfold Ty at h
 simp only[Try.underlying59,cQ]at h
 obtain⟨a0,b0,rfl,h0,a1,b1,rfl,h1,a2,b2,rfl,h2,a3,b3,rfl,h3,a4,b4,rfl,h4,rfl⟩:=h
 obtain⟨x0,rfl,_⟩:=Gx h0
 obtain⟨x1,rfl,_⟩:=Gx h1
 obtain⟨x3,rfl,_⟩:=Gx h3
 obtain⟨x4,rfl,_⟩:=Gx h4
 unfold Ty at h2
 simp only[Try.underlying57]at h2
 obtain⟨nn,rows,rfl,hl,hrows⟩:=h2
 obtain⟨l,rfl,_⟩:=Ov (fun r hr=>pX hr) hrows
 have e1:Try.prog.cellsOf 56=2:=by kernel_rfl
 have e2:Vo Try.prog (n+2) 56=true:=by
  simp only[Vo,Try.underlying56,Try.underlying3,Try.underlying4];rfl
 rw[e1,e2]
 exact⟨⟨x0,x1,nn,l,x3,x4⟩,rfl,by simpa using hl⟩
theorem rO{n:Nat}{r:List AV}(h:Ty Try.prog (n+6) 27 r):∃m:Ba,r=m.cells∧m.small:=by
 unfold Ty at h
 simp only[Try.underlying27,cQ]at h
 obtain⟨a0,b0,rfl,h0,a1,b1,rfl,h1,a2,b2,rfl,h2,a3,b3,rfl,h3,a4,b4,rfl,h4,a5,b5,rfl,h5,a6,b6,rfl,h6,rfl⟩:=h
 obtain⟨x3,rfl,_⟩:=Gx h3
 obtain⟨x4,rfl,_⟩:=Gx h4
 obtain⟨x5,rfl,_⟩:=Gx h5
 obtain⟨n6,l6,rfl,hl6,_⟩:=fB h6
 unfold Ty at h0 h1 h2
 simp only[Try.underlying22]at h0
 simp only[Try.underlying23]at h1
 simp only[Try.underlying24]at h2
 obtain⟨n0,rows0,rfl,hl0,hrows0⟩:=h0
 obtain⟨n1,rows1,rfl,hl1,hrows1⟩:=h1
 obtain⟨n2,rows2,rfl,hl2,hrows2⟩:=h2
 obtain⟨l0,rfl,_⟩:=Ov (fun r hr=>vA hr) hrows0
 obtain⟨l1,rfl,hv⟩:=Ov (fun r hr=>pI hr) hrows1
 obtain⟨l2,rfl,hm⟩:=Ov (fun r hr=>qZ hr) hrows2
 have e0:Try.prog.cellsOf 50=3:=by kernel_rfl
 have e1:Try.prog.cellsOf 48=4:=by kernel_rfl
 have e2:Try.prog.cellsOf 59=5:=by kernel_rfl
 have f0:Vo Try.prog (n+4) 50=true:=by
  simp only[Vo,Try.underlying50,Try.underlying3,Try.underlying4];rfl
 have f1:Vo Try.prog (n+4) 48=false:=by
  simp only[Vo,Try.underlying48,Try.underlying25];simp
 have f2:Vo Try.prog (n+4) 59=false:=by
  simp only[Vo,Try.underlying59,Try.underlying57];simp
 rw[e0,e1,e2,f0,f1,f2]
 exact⟨⟨n0,l0,n1,l1,n2,l2,x3,x4,x5,n6,l6⟩,rfl,⟨by simpa using hl0,by simpa using hl1,by simpa using hl2,hl6,hv,hm⟩⟩
theorem pJ{av:AV}(h:eR Try.prog 7 27 av):∃m:Ba,av=.agg m.cells∧m.small:=by
 unfold eR at h
 simp only[Try.underlying27]at h
 obtain⟨cs,rfl,h⟩:=h
 obtain⟨s,rfl,hs⟩:=rO h
 exact⟨s,rfl,hs⟩
theorem wP{av:AV}(h:eR Try.prog 7 3 av):∃x,av=.int .i64 x∧i64 x:=by
 unfold eR at h
 simp only[Try.underlying3]at h
 obtain⟨x,hx,hi⟩:=Gx h
 simp only[List.cons.injEq,and_true]at hx
 exact⟨x,hx,hi⟩
theorem Qw(a:Int):(a==a)=true:=by simp
def Es(m:Ba):List Int→Int→Int
 | [],c=>c
 |k::ks,c=>Es m ks (if(rS m k).byp=true then c else IntKind.i64.wrap (c+1))
theorem Xs(m:Ba):∀(l:List Int) (c:Int),0≤c→c+l.length≤1000→c≤Es m l c∧Es m l c≤c+l.length
 | [],c,h0,h=>by simp[Es]
 |k::l,c,h0,h=>by
  simp only[abH]at h
  unfold Es
  split
  ·have:=Xs m l c h0 (by omega)
   simp only[abH];omega
  ·rw[Hu (by omega) (by omega)]
   have:=Xs m l (c+1) (by omega) (by omega)
   simp only[abH];omega
def pA(m:Ba)(k:Int):Ak:=m.votes.getD k.toNat ⟨false,[],0,0,false⟩
theorem eV{m:Ba}{k:Int}(h:k.toNat<m.votes.length):m.votes[k.toNat]?=some (pA m k):=by
 simp[pA,acC,acI h]
theorem iS{m:Ba}(h:Do m=true){v:Ak}(hv:v∈m.votes):1≤v.need∧v.need≤v.sens.length:=by
 simp only[Do,Ns,aaV,decide_eq_true_eq,aa3]at h
 have h2:=h.1.1.2 v hv
 simp only[Oi,aaV,Nb,decide_eq_true_eq]at h2
 omega
theorem fD{n:Nat}(hn:n≤6):∀{l:List Int} {p:Option Int},Jm n l p=true→(match p with|none=>(l.length:Int)≤n|some q=>0≤q→q<n→(l.length:Int)+q+1≤n)
 | [],none,_=>by simp
 | [],some q,_=>fun h0 h1=>by simp;omega
 |x::l,p,h=>by
  simp only[Jm,aaV]at h
  have:=h.1.1
  rw[Hu (by omega) (by omega)]at this
  simp[Nb]at this
  have h2:=fD hn h.2
  simp only at h2
  have h3:=h2 (by omega) (by omega)
  cases p with
  |none=>simp only[abH];omega
  |some q=>
   intro h0 h1
   have h4:=h.1.2
   simp at h4
   simp only[abH];omega
theorem hX{m:Ba}(h:Do m=true){v:Ak}(hv:v∈m.votes):v.sens.length≤6:=by
 simp only[Do,Ns,aaV,decide_eq_true_eq,aa3]at h
 have h2:=h.1.1.2 v hv
 simp only[Oi,aaV]at h2
 have h6:m.sens.length≤6:=h.1.1.1.1.1.1.1.1.1.1
 have:=fD h6 h2.1.1
 simp only at this
 omega
def We(m:Ba)(v:Ak):Int × Int:=if Es m v.sens 0<v.need then(-1,Es m v.sens 0)else(IntKind.i64.wrap (Es m v.sens 0-v.need),IntKind.i64.wrap (v.need-1))
theorem oC{m:Ba}{v:Ak}(hm:Do m=true)(hv:v∈m.votes):We m v=(if -1<IntKind.i64.wrap (Es m v.sens 0-v.need)then IntKind.i64.wrap (Es m v.sens 0-v.need)else -1,if IntKind.i64.wrap (v.need-1)<Es m v.sens 0 then IntKind.i64.wrap (v.need-1)else Es m v.sens 0):=by
 have h1:=iS hm hv
 have h2:=hX hm hv
 have h3:=Xs m v.sens 0 (by omega) (by omega)
 unfold We
 generalize Es m v.sens 0=n at *
 rw[Hu (by omega) (by omega),Hu (by omega) (by omega)]
 split
 ·rw[if_neg (by omega),if_neg (by omega)]
 ·rw[if_pos (by omega),if_pos (by omega)]
theorem iD(m:Ba)(v:Ak)(hv:v.sens.length≤maxLen)(hi:Idx m v.sens):Fa.call (.fn 51) [.agg [Ag 3 true m.nS (m.sens.map Bd.cells),Ag 4 false m.nV (m.votes.map Ak.cells),Ag 5 false m.nM (m.moves.map Am.cells),.int .i64 m.states,.int .i64 m.cmds,.int .i64 m.bgn,Ag 1 true m.nO (m.opn.map iv)],.agg [Ag 1 true v.nn (v.sens.map iv),.int .i64 v.need,.int .i64 v.level,.bool v.above]] []=some (.ret (.int .i64 (Es m v.sens 0)),[]):=by
 have hI:=hi
 clear hi
 (refine ce Try.func51 ?_;simp only[Try.f51];(have hb:=trivial;with_reducible repeat' (first|simp only[hb,Vc.down,seval,mR.down,aaF]|refine Be ?_ ?_<;>intro hb|refine fd ?_|fail)))
 refine Ft (Yg 28 v.sens (fun i (zz:Int) t h=>t 2=.ptr 0 0 0∧t 3=.ptr 1 0 0∧t 6=.int .i64 i∧t 5=.int .i64 zz∧(h=[.live 7 false false [[Ag 3 true m.nS (m.sens.map Bd.cells),Ag 4 false m.nV (m.votes.map Ak.cells),Ag 5 false m.nM (m.moves.map Am.cells),.int .i64 m.states,.int .i64 m.cmds,.int .i64 m.bgn,Ag 1 true m.nO (m.opn.map iv)]],.live 4 false false [[Ag 1 true v.nn (v.sens.map iv),.int .i64 v.need,.int .i64 v.level,.bool v.above]]])) (fun rest zz=>Es m rest zz) (fun r e t h=>e=.exit 0∧t 5=.int .i64 r) ?_ ?_ (0) _ _ ?_) (fun e t h hk=>?_)
 ·rintro c t h Q' kQ ⟨h2,h3,h6,h5,rfl⟩
  (have hb:=trivial;with_reducible repeat' (first|simp only[hb,Vc.down,seval,mR.down,h2,h3,h6,h5,aaY,decide_false,aaF]|refine Be ?_ ?_<;>intro hb|refine fd ?_|fail))
  exact kQ _ _ _ ⟨rfl,by simp[up,h5,Es]⟩
 ·rintro x rest i c t h J Q' kJ kQ hx hi ⟨h2,h3,h6,h5,rfl⟩
  have hd:decide ((i:Int)<(v.sens.length:Int))=true:=decide_eq_true (by omega)
  have hw:=Aw hi hv
  obtain⟨k0,k1⟩:=hI x (aaX hx)
  have h0':(0≤x)=True:=eq_true k0
  have hss:=aR k1
  cases c1:(rS m x).byp with
  |false=>
   (have hb:=trivial;with_reducible repeat' (first|simp only[hb,Vc.down,seval,mR.down,h2,h3,h5,h6,hd,hx,hw,h0',hss,iv,c1,Bd.cells,aaF]|refine Be ?_ ?_<;>intro hb|refine fd ?_|fail))
   (refine Cj (kJ _ _ (IntKind.i64.wrap (c+1)) ⟨?_,?_,?_,?_,rfl⟩ ?_);(simp[up,h2]);(simp[up,h3]);(simp[up]);(simp[up,h5]);(simp[Es,c1]))
  |true=>
   (have hb:=trivial;with_reducible repeat' (first|simp only[hb,Vc.down,seval,mR.down,h2,h3,h5,h6,hd,hx,hw,h0',hss,iv,c1,Bd.cells,aaF]|refine Be ?_ ?_<;>intro hb|refine fd ?_|fail))
   (refine Cj (kJ _ _ c ⟨?_,?_,?_,?_,rfl⟩ ?_);(simp[up,h2]);(simp[up,h3]);(simp[up]);(simp[up,h5]);(simp[Es,c1]))
 ·exact⟨by simp[up,Eu],by simp[up,Eu],by simp[up],by simp[up,Eu],rfl⟩
 obtain⟨rfl,h5⟩:=hk
 (have hb:=trivial;with_reducible repeat' (first|simp only[hb,Vc.down,seval,mR.down,h5]|refine Be ?_ ?_<;>intro hb|refine fd ?_|fail))
theorem kS(m:Ba)(k:Int)(hs:m.small)(hm:Do m=true)(h0:0≤k)(hk:k.toNat<m.votes.length):Fa.call (.fn 19) [.agg [Ag 3 true m.nS (m.sens.map Bd.cells),Ag 4 false m.nV (m.votes.map Ak.cells),Ag 5 false m.nM (m.moves.map Am.cells),.int .i64 m.states,.int .i64 m.cmds,.int .i64 m.bgn,Ag 1 true m.nO (m.opn.map iv)],.int .i64 k] []=some (.ret (.tup [.int .i64 (We m (pA m k)).1,.int .i64 (We m (pA m k)).2]),[]):=by
 have hv:=eV hk
 have hmem:=aaX hv
 rw[oC hm hmem]
 have h0':(0≤k)=True:=eq_true h0
 have hW:=iD m (pA m k) (hs.vs _ hmem) (cB hm _ hmem)
 generalize pA m k=v at *
 (refine ce Try.func19 ?_;simp only[Try.f19];(have hb:=trivial;with_reducible repeat' (first|simp only[hb,Vc.down,seval,acJ.down,hv,h0',hW,Ak.cells]|refine Be ?_ ?_<;>intro hb|refine fd ?_|fail)))
def rB(m:Ba)(k:Int):Bool:=Do m&&Nb k 0 (IntKind.i64.wrap ((m.votes.length:Int)-1))
theorem eT{m:Ba}{k:Int}(h:rB m k=true):Do m=true∧0≤k∧k.toNat<m.votes.length:=by
 simp only[rB,aaV]at h
 obtain⟨h1,h2⟩:=h
 have:=fU h1
 rw[Hu (by omega) (by omega)]at h2
 simp only[Nb,aaV,decide_eq_true_eq]at h2
 exact⟨h1,by omega,by omega⟩
theorem tV{m:Ba}{k:Int}(h1:Do m=true)(h2:0≤k)(h3:k<m.votes.length):rB m k=true:=by
 have:=fU h1
 simp only[rB,h1,aa5]
 rw[Hu (by omega) (by omega)]
 simp only[Nb,aaV,decide_eq_true_eq]
 omega
theorem nX(m:Ba)(k:Int)(hs:m.small):Fa.call (.fn 18) [.agg [Ag 3 true m.nS (m.sens.map Bd.cells),Ag 4 false m.nV (m.votes.map Ak.cells),Ag 5 false m.nM (m.moves.map Am.cells),.int .i64 m.states,.int .i64 m.cmds,.int .i64 m.bgn,Ag 1 true m.nO (m.opn.map iv)],.int .i64 k] []=
 some (.ret (if rB m k=true then .tup [.int .i64 (We m (pA m k)).1,.int .i64 (We m (pA m k)).2,.int .i64 0]else .tup [.int .i64 0,.int .i64 0,.int .i64 2]),[]):=by
 have hv:=fH m hs
 cases hok:rB m k with
 |false=>
  rw[if_neg (by simp)]
  cases c1:Do m with
  |false=>
   rw[c1]at hv
   (refine ce Try.func18 ?_;simp only[Try.f18];(have hb:=trivial;with_reducible repeat' (first|simp only[hb,Vc.down,seval,bB.down,hv]|refine Be ?_ ?_<;>intro hb|refine fd ?_|fail)))
  |true=>
   rw[c1]at hv
   have c2:Nb k 0 (IntKind.i64.wrap ((m.votes.length:Int)-1))=false:=by simpa [rB,c1]using hok
   (refine ce Try.func18 ?_;simp only[Try.f18];(have hb:=trivial;with_reducible repeat' (first|simp only[hb,Vc.down,seval,bB.down,hv,Rx,c2,aaF]|refine Be ?_ ?_<;>intro hb|refine fd ?_|fail)))
 |true=>
  rw[if_pos rfl]
  obtain⟨o1,o2,o3⟩:=eT hok
  have hvv:=eV o3
  have hmem:=aaX hvv
  rw[o1]at hv
  have c2:Nb k 0 (IntKind.i64.wrap ((m.votes.length:Int)-1))=true:=by simpa [rB,o1]using hok
  have h0':(0≤k)=True:=eq_true o2
  have hI:=cB o1 _ hmem
  have hl:=hs.vs _ hmem
  generalize pA m k=v at *
  (refine ce Try.func18 ?_;simp only[Try.f18];(have hb:=trivial;with_reducible repeat' (first|simp only[hb,Vc.down,seval,bB.down,hv,Rx,c2,h0',hvv,Ak.cells,aaF]|refine Be ?_ ?_<;>intro hb|refine fd ?_|fail)))
  refine Ft (Yg 57 v.sens (fun i (zz:Int) t h=>t 2=.ptr 0 0 0∧t 7=.ptr 1 0 0∧t 29=Ag 1 true v.nn (v.sens.map iv)∧t 30=.int .i64 v.sens.length∧t 31=.int .i64 i∧t 8=.int .i64 zz∧(h=[.live 7 false false [[Ag 3 true m.nS (m.sens.map Bd.cells),Ag 4 false m.nV (m.votes.map Ak.cells),Ag 5 false m.nM (m.moves.map Am.cells),.int .i64 m.states,.int .i64 m.cmds,.int .i64 m.bgn,Ag 1 true m.nO (m.opn.map iv)]],.live 4 false true [[Ag 1 true v.nn (v.sens.map iv),.int .i64 v.need,.int .i64 v.level,.bool v.above]]])) (fun rest zz=>Es m rest zz) (fun r e t h=>e=.exit 0∧t 7=.ptr 1 0 0∧t 8=.int .i64 r∧h=[.live 7 false false [[Ag 3 true m.nS (m.sens.map Bd.cells),Ag 4 false m.nV (m.votes.map Ak.cells),Ag 5 false m.nM (m.moves.map Am.cells),.int .i64 m.states,.int .i64 m.cmds,.int .i64 m.bgn,Ag 1 true m.nO (m.opn.map iv)]],.live 4 false true [[Ag 1 true v.nn (v.sens.map iv),.int .i64 v.need,.int .i64 v.level,.bool v.above]]]) ?_ ?_ (0) _ _ ?_) (fun e t h hk=>?_)
  ·rintro c t h Q' kQ ⟨h2,h7,h29,h30,h31,h8,rfl⟩
   (have hb:=trivial;with_reducible repeat' (first|simp only[hb,Vc.down,seval,bB.down,h2,h7,h29,h30,h31,h8,aaY,decide_false,aaF]|refine Be ?_ ?_<;>intro hb|refine fd ?_|fail))
   exact kQ _ _ _ ⟨rfl,by simp[up,h7],by simp[up,h8,Es],rfl⟩
  ·rintro x rest i c t h J Q' kJ kQ hx hi ⟨h2,h7,h29,h30,h31,h8,rfl⟩
   have hd:decide ((i:Int)<(v.sens.length:Int))=true:=decide_eq_true (by omega)
   have hw:=Aw hi hl
   obtain⟨k0,k1⟩:=hI x (aaX hx)
   have h0':(0≤x)=True:=eq_true k0
   have hss:=aR k1
   cases c1:(rS m x).byp with
   |false=>
    (have hb:=trivial;with_reducible repeat' (first|simp only[hb,Vc.down,seval,bB.down,h2,h7,h8,h29,h30,h31,hd,hx,hw,h0',hss,iv,c1,Bd.cells,aaF]|refine Be ?_ ?_<;>intro hb|refine fd ?_|fail))
    (refine Cj (kJ _ _ (IntKind.i64.wrap (c+1)) ⟨?_,?_,?_,?_,?_,?_,rfl⟩ ?_);(simp[up,h2]);(simp[up,h7]);(simp[up,h29]);(simp[up,h30]);(simp[up]);(simp[up,h8]);(simp[Es,c1]))
   |true=>
    (have hb:=trivial;with_reducible repeat' (first|simp only[hb,Vc.down,seval,bB.down,h2,h7,h8,h29,h30,h31,hd,hx,hw,h0',hss,iv,c1,Bd.cells,aaF]|refine Be ?_ ?_<;>intro hb|refine fd ?_|fail))
    (refine Cj (kJ _ _ c ⟨?_,?_,?_,?_,?_,?_,rfl⟩ ?_);(simp[up,h2]);(simp[up,h7]);(simp[up,h29]);(simp[up,h30]);(simp[up]);(simp[up,h8]);(simp[Es,c1]))
  ·exact⟨by simp[up,Eu],by simp[up,Eu],by simp[up,Eu],by simp[up,Eu],by simp[up],by simp[up,Eu],rfl⟩
  obtain⟨rfl,h7,h8,rfl⟩:=hk
  cases c5:decide (Es m v.sens 0<v.need)with
  |true=>
   have e5:We m v=(-1,Es m v.sens 0):=by rw[We,if_pos (of_decide_eq_true c5)]
   rw[e5]
   (have hb:=trivial;with_reducible repeat' (first|simp only[hb,Vc.down,seval,bB.down,h7,h8,c5]|refine Be ?_ ?_<;>intro hb|refine fd ?_|fail))
  |false=>
   have e5:We m v=(IntKind.i64.wrap (Es m v.sens 0-v.need),IntKind.i64.wrap (v.need-1)):=by rw[We,if_neg (of_decide_eq_false c5)]
   rw[e5]
   (have hb:=trivial;with_reducible repeat' (first|simp only[hb,Vc.down,seval,bB.down,h7,h8,c5]|refine Be ?_ ?_<;>intro hb|refine fd ?_|fail))
theorem aC(hk:Fa.call (.fn 13) [] []=some (.ret (.bool true),[]))(m:Ba)(k:Int)(hs:m.small):
 Fa.call (.fn 4) [.agg [Ag 3 true m.nS (m.sens.map Bd.cells),Ag 4 false m.nV (m.votes.map Ak.cells),Ag 5 false m.nM (m.moves.map Am.cells),.int .i64 m.states,.int .i64 m.cmds,.int .i64 m.bgn,Ag 1 true m.nO (m.opn.map iv)],.int .i64 k] []=some (.ret (.bool true),[]):=by
 have h1:=qX m hs
 have h2:=nX m k hs
 have h3:=jH m hs
 cases c1:Xl m with
 |false=>
  rw[c1]at h1
  (refine ce Try.func4 ?_;simp only[Try.f4];(have hb:=trivial;with_reducible repeat' (first|simp only[hb,Vc.down,seval,xY.down,h1,hk]|refine Be ?_ ?_<;>intro hb|refine fd ?_|fail)))
 |true=>
 rw[c1]at h1
 cases hok:rB m k with
 |false=>
  rw[if_neg (by simp[hok])]at h2
  cases c3:Do m with
  |false=>
   rw[c3]at h3
   (refine ce Try.func4 ?_;simp only[Try.f4];(have hb:=trivial;with_reducible repeat' (first|simp only[hb,Vc.down,seval,xY.down,h1,h2,h3,hk,Qw,abR,aaF]|refine Be ?_ ?_<;>intro hb|refine fd ?_|fail)))
  |true=>
  rw[c3]at h3
  cases d1:decide (k<0)with
  |true=>
   (refine ce Try.func4 ?_;simp only[Try.f4];(have hb:=trivial;with_reducible repeat' (first|simp only[hb,Vc.down,seval,xY.down,h1,h2,h3,hk,d1,Qw,abR,aaF]|refine Be ?_ ?_<;>intro hb|refine fd ?_|fail)))
  |false=>
  cases d2:decide ((m.votes.length:Int)≤k)with
  |true=>
   (refine ce Try.func4 ?_;simp only[Try.f4];(have hb:=trivial;with_reducible repeat' (first|simp only[hb,Vc.down,seval,xY.down,h1,h2,h3,hk,d1,d2,Qw,abR,aaF]|refine Be ?_ ?_<;>intro hb|refine fd ?_|fail)))
  |false=>
   simp only[decide_eq_false_iff_not]at d1 d2
   rw[tV c3 (by omega) (by omega)]at hok;cases hok
 |true=>
  rw[if_pos hok]at h2
  obtain⟨o1,o2,o3⟩:=eT hok
  have h5:=kS m k hs o1 o2 o3
  have d1:decide (k<0)=false:=by simp;omega
  have d2:decide ((m.votes.length:Int)≤k)=false:=by simp;omega
  rw[o1]at h3
  generalize We m (pA m k)=q at *
  (refine ce Try.func4 ?_;simp only[Try.f4];(have hb:=trivial;with_reducible repeat' (first|simp only[hb,Vc.down,seval,xY.down,h1,h2,h3,h5,hk,d1,d2,Qw,abR,aaF]|refine Be ?_ ?_<;>intro hb|refine fd ?_|fail)))
theorem aH(hk:Fa.call (.fn 13) [] []=some (.ret (.bool true),[])):∀avs,jN Try.prog 7 Try.f4.params.toList avs→Fa.call (.fn 4) avs []=some (.ret (.bool true),[]):=by
 intro avs h
 rw[show Try.f4.params.toList=[27,3]from rfl]at h
 match avs,h with
 | [a,b],h=>
   obtain⟨h1,h2,_⟩:=h
   obtain⟨s,rfl,hs⟩:=pJ h1
   obtain⟨x,rfl,_⟩:=wP h2
   exact aC hk s x hs
 | [],h=>exact h.elim
 | [_],h=>exact h.2.elim
 |_::_::_::_,h=>exact h.2.2.elim
end Go.Proofs.Ytfkokgjfpojeoaa
