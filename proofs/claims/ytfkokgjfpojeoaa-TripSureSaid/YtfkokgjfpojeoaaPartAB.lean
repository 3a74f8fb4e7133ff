/- The functions of the layer, walked. -/
import Derived.Test.YtfkokgjfpojeoaaPartAA
import Derived.Test.YtfkokgjfpojeoaaLibD
open List renaming length_map→afR,mem_cons→agI,all_eq_true→ag9,mem_of_getElem?→ahJ,length_cons→ahP,all_cons→aiI,getD→aiV,not_mem_nil→aoM,getElem?_eq_some_iff→aoV,mem_cons_self→auB,getElem?_eq_getElem→aAK,length_set→aB0,mem_cons_of_mem→aE8,all_eq_not_any_not→aFG,getElem?_set_ne→aFI,getElem?_set_self→aFU,getElem?_eq_none→aF8,length_eq_zero_iff→aGJ,nodup_cons→aGL
open Bool renaming and_eq_true→af1,true_and→ah6,false_and→aiO,not_true→apF,not_false→atL,eq_false_iff→awG,and_true→aC6,not_eq_eq_eq_not→aFM,and_false→aFR
open Int renaming lt_irrefl→agD
open Option renaming bind_eq_some_iff→akD,map_eq_some_iff→ak5
set_option linter.unusedSimpArgs false
set_option linter.unusedVariables false
namespace Go.Proofs.Ytfkokgjfpojeoaa
open Go.Ev Go
set_option maxRecDepth 100000
set_option maxHeartbeats 16000000
def Ls(m:Ax)(l:List Int):Bool:=((l.length:Int)==(m.sens.length:Int))&&l.all Jm
theorem xU(m:Ax){l:List Int}{nn:Bool}(hl:l.length≤maxLen):Fg.call (.fn 62) [.agg [Af 3 true m.nS (m.sens.map Bd.cells),Af 4 false m.nV (m.votes.map Ag.cells),Af 5 false m.nM (m.moves.map Am.cells),.int .i64 m.states,.int .i64 m.cmds,.int .i64 m.bgn,Af 1 true m.nO (m.opn.map iv)],Af 1 true nn (l.map iv)] []=some (.ret (.bool (Ls m l)),[]):=by
 have hc:=aD (l:=l) (nn:=nn) (g:=82) (cap:=[]) (p:=fun x=> !Jm x) rfl rfl (fun x _=>uR x) hl
 have q2:l.all Jm= !(l.any fun x=> !Jm x):=aFG
 (refine ce Try.func62 ?_;simp only[Try.f62];(have hb:=trivial;with_reducible repeat' (first|simp only[hb,Vc.down,seval,aIL.down,afR,hc]|refine Aw ?_ ?_<;>intro hb|refine fd ?_|fail)))
 all_goals simp only[Ls,q2,hb,ah6,aiO]
theorem gX(m:Ax){l:List Int}{nn:Bool}(hl:l.length≤maxLen):Fg.call (.fn 24) [.agg [Af 3 true m.nS (m.sens.map Bd.cells),Af 4 false m.nV (m.votes.map Ag.cells),Af 5 false m.nM (m.moves.map Am.cells),.int .i64 m.states,.int .i64 m.cmds,.int .i64 m.bgn,Af 1 true m.nO (m.opn.map iv)],Af 1 true nn (l.map iv)] []=some (.ret (.bool (Ls m l)),[]):=by
 (refine ce Try.func24 ?_;simp only[Try.f24];(have hb:=trivial;with_reducible repeat' (first|simp only[hb,Vc.down,seval,mN.down,afR]|refine Aw ?_ ?_<;>intro hb|refine fd ?_|fail)))
 refine Ff (Xa 24 l (fun i (zz:Unit) t h=>t 1=Af 1 true nn (l.map iv)∧t 2=.ptr 0 0 0∧t 5=.int .i64 i∧(h[0]?=some (.live 7 false false [[Af 3 true m.nS (m.sens.map Bd.cells),Af 4 false m.nV (m.votes.map Ag.cells),Af 5 false m.nM (m.moves.map Am.cells),.int .i64 m.states,.int .i64 m.cmds,.int .i64 m.bgn,Af 1 true m.nO (m.opn.map iv)]]))) (fun rest zz=>rest.all Jm) (fun r e t h=>(if r=true then e=.exit 0∧t 1=Af 1 true nn (l.map iv)∧t 2=.ptr 0 0 0∧h[0]?=some (.live 7 false false [[Af 3 true m.nS (m.sens.map Bd.cells),Af 4 false m.nV (m.votes.map Ag.cells),Af 5 false m.nM (m.moves.map Am.cells),.int .i64 m.states,.int .i64 m.cmds,.int .i64 m.bgn,Af 1 true m.nO (m.opn.map iv)]])else e=.ret∧t 4=.bool false)) ?_ ?_ () _ _ ?_) (fun e t h hk=>?_)
 ·rintro _ t h Q' kQ ⟨h1,h2,h5,hA⟩
  (have hb:=trivial;with_reducible repeat' (first|simp only[hb,Vc.down,seval,mN.down,h1,h2,h5,agD,decide_false,afR]|refine Aw ?_ ?_<;>intro hb|refine fd ?_|fail))
  exact kQ _ _ _ (by rw[if_pos (by rfl)];exact⟨rfl,by simp[up,h1],by simp[up,h2],hA⟩)
 ·rintro x rest i _ t h J Q' kJ kQ hx hi ⟨h1,h2,h5,hA⟩
  have hd:decide ((i:Int)<(l.length:Int))=true:=decide_eq_true (by omega)
  have hw:=Av hi hl
  have hv:Iw x (-10000) 10000=Jm x:=rfl
  (have hb:=trivial;with_reducible repeat' (first|simp only[hb,Vc.down,seval,mN.down,h1,h2,h5,hd,hx,hw,Zt,hv,iv,afR]|refine Aw ?_ ?_<;>intro hb|refine fd ?_|fail))
  all_goals first
   |exact kQ _ _ _ (by rw[if_neg (by simp_all)];exact⟨rfl,by simp[up]⟩)
   |(refine Bt (kJ _ _ () ⟨?_,?_,?_,hA⟩ ?_);(simp[up,h1]);(simp[up,h2]);(simp[up]);(simp_all))
 ·exact⟨by simp[up,Ef],by simp[up,Ef],by simp[up],rfl⟩
 split at hk
 ·obtain⟨rfl,h1,h2,hA⟩:=hk
  rename_i hr1
  have hA1:=Bc hA
  (have hb:=trivial;with_reducible repeat' (first|simp only[hb,Vc.down,seval,mN.down,h1,h2,hA,hA1,afR]|refine Aw ?_ ?_<;>intro hb|refine fd ?_|fail))
  all_goals simp[Ls,hr1]
 ·obtain⟨rfl,h2⟩:=hk
  rename_i hr1
  (have hb:=trivial;with_reducible repeat' (first|simp only[hb,Vc.down,seval,mN.down,h2]|refine Aw ?_ ?_<;>intro hb|refine fd ?_|fail))
  all_goals simp[Ls,awG.2 hr1]
def Vs(m:Ax)(k:Int):Bd:=m.sens.getD k.toNat ⟨0,0,false⟩
def dW(l:List Int)(k:Int):Int:=l.getD k.toNat 0
theorem bY{m:Ax}{k:Int}(h:k.toNat<m.sens.length):m.sens[k.toNat]?=some (Vs m k):=by
 simp[Vs,aiV,aAK h]
theorem iL{l:List Int}{k:Int}(h:k.toNat<l.length):l[k.toNat]?=some (dW l k):=by
 simp[dW,aiV,aAK h]
def Ip(m:Ax)(v:Ag)(l:List Int):List Int→Int→Int
 | [],c=>c
 |k::ks,c=>Ip m v l ks (if Qo (Vs m k) v (dW l k)=true then IntKind.i64.wrap (c+1)else c)
def Yw(m:Ax)(l:List Int)(v:Ag):Bool:=decide (v.need≤Ip m v l v.sens 0)
def Idx(m:Ax)(l:List Int):Prop:=∀k∈l,0≤k∧k.toNat<m.sens.length
theorem iQ{n:Nat}(hn:n≤6):∀{l:List Int} {p:Option Int},Jk n l p=true→∀k∈l,0≤k∧k.toNat<n
 | [],_,_,k,h=>by cases h
 |x::l,p,h,k,hk=>by
  simp only[Jk,af1]at h
  rcases agI.1 hk with rfl|hk
  ·have:=h.1.1
   rw[Ar (by omega) (by omega)]at this
   simp[Iw]at this
   omega
  ·exact iQ hn h.2 k hk
theorem Ud{m:Ax}(h:Dk m=true):∀v∈m.votes,Idx m v.sens:=fun v hv=>by
 simp only[Dk,Lh,af1,decide_eq_true_eq,ag9]at h
 have h2:=h.1.1.2 v hv
 simp only[Ny,af1]at h2
 exact iQ h.1.1.1.1.1.1.1.1.1.1 h2.1.1
def orN(a b:Int):Int:=IntKind.i64.wrap ((BitVec.ofInt 64 a|||BitVec.ofInt 64 b).toNat:Int)
theorem aqO(ty:TypeId)(a b:Int):Hh Try.prog .or ty (.int .i64 a) (.int .i64 b)=some (.int .i64 (orN a b)):=by
 show(if IntKind.i64=IntKind.i64 then Gg .or .i64 a b else none)=_
 rw[if_pos rfl];rfl
def Qr(m:Ax)(l:List Int):List Ag→Nat→Int→Int
 | [],_,b=>b
 |v::vs,i,b=>Qr m l vs (i+1) (if Yw m l v=true then orN b (pG i)else b)
theorem iI(m:Ax){l:List Int}{nn:Bool}(hl:l.length=m.sens.length)(hs:m.small)(hi:∀v∈m.votes,Idx m v.sens):Fg.call (.fn 46) [.agg [Af 3 true m.nS (m.sens.map Bd.cells),Af 4 false m.nV (m.votes.map Ag.cells),Af 5 false m.nM (m.moves.map Am.cells),.int .i64 m.states,.int .i64 m.cmds,.int .i64 m.bgn,Af 1 true m.nO (m.opn.map iv)],Af 1 true nn (l.map iv)] []=some (.ret (.int .i64 (Qr m l m.votes 0 0)),[]):=by
 have hI:=hi
 clear hi
 (refine ce Try.func46 ?_;simp only[Try.f46];(have hb:=trivial;with_reducible repeat' (first|simp only[hb,Vc.down,seval,gB.down,afR]|refine Aw ?_ ?_<;>intro hb|refine fd ?_|fail)))
 refine Ff (Xa 50 m.votes (fun i (zz:Nat × Int) t h=>t 1=Af 1 true nn (l.map iv)∧t 2=.ptr 0 0 0∧t 12=Af 4 false m.nV (m.votes.map Ag.cells)∧t 13=.int .i64 m.votes.length∧t 14=.int .i64 i∧t 5=.int .i64 zz.2∧(h[0]?=some (.live 7 false false [[Af 3 true m.nS (m.sens.map Bd.cells),Af 4 false m.nV (m.votes.map Ag.cells),Af 5 false m.nM (m.moves.map Am.cells),.int .i64 m.states,.int .i64 m.cmds,.int .i64 m.bgn,Af 1 true m.nO (m.opn.map iv)]])∧i=zz.1)) (fun rest zz=>Qr m l rest zz.1 zz.2) (fun r e t h=>e=.exit 0∧t 5=.int .i64 r) ?_ ?_ (0,0) _ _ ?_) (fun e t h hk=>?_)
 ·rintro⟨k,b⟩ t h Q' kQ ⟨h1,h2,h12,h13,h14,h5,⟨hA,rfl⟩⟩
  try dsimp only at *
  (have hb:=trivial;with_reducible repeat' (first|simp only[hb,Vc.down,seval,gB.down,h1,h2,h12,h13,h14,h5,agD,decide_false]|refine Aw ?_ ?_<;>intro hb|refine fd ?_|fail))
  exact kQ _ _ _ ⟨rfl,by simp[up,h5,Qr]⟩
 ·rintro x rest i ⟨k,b⟩ t h J Q' kJ kQ hx hi ⟨h1,h2,h12,h13,h14,h5,⟨hA,rfl⟩⟩
  have hd:decide ((i:Int)<(m.votes.length:Int))=true:=decide_eq_true (by omega)
  have hw:=Av hi hs.votes
  try dsimp only at *
  have hA1:=Bc hA
  have hvs:=hs.vs x (ahJ hx)
  have hIx:=hI x (ahJ hx)
  obtain⟨w,rfl⟩:∃w,w=x:=⟨_,rfl⟩
  obtain⟨k,rfl⟩:∃k,k=i:=⟨_,rfl⟩
  obtain⟨hL,hLe⟩:∃hL,hL=h.length:=⟨_,rfl⟩
  (have hb:=trivial;with_reducible repeat' (first|simp only[hb,Vc.down,seval,gB.down,h1,h2,h12,h13,h14,h5,hd,hx,hw,hA1,Ag.cells,afR]|refine Aw ?_ ?_<;>intro hb|refine fd ?_|fail))
  refine Ff (Xa 50 w.sens (fun i (zz:Int) t h=>t 1=Af 1 true nn (l.map iv)∧t 2=.ptr 0 0 0∧t 12=Af 4 false m.nV (m.votes.map Ag.cells)∧t 13=.int .i64 m.votes.length∧t 14=.int .i64 (k:Int)∧t 5=.int .i64 b∧t 6=.int .i64 (k:Int)∧t 7=.ptr hL 0 0∧t 20=Af 1 true w.nn (w.sens.map iv)∧t 21=.int .i64 w.sens.length∧t 22=.int .i64 i∧t 8=.int .i64 zz∧(h[0]?=some (.live 7 false false [[Af 3 true m.nS (m.sens.map Bd.cells),Af 4 false m.nV (m.votes.map Ag.cells),Af 5 false m.nM (m.moves.map Am.cells),.int .i64 m.states,.int .i64 m.cmds,.int .i64 m.bgn,Af 1 true m.nO (m.opn.map iv)]])∧∃wf,h[hL]?=some (.live 4 false wf [[Af 1 true w.nn (w.sens.map iv),.int .i64 w.need,.int .i64 w.level,.bool w.above]]))) (fun rest zz=>Ip m w l rest zz) (fun r e t h=>e=.exit 2∧t 1=Af 1 true nn (l.map iv)∧t 2=.ptr 0 0 0∧t 12=Af 4 false m.nV (m.votes.map Ag.cells)∧t 13=.int .i64 m.votes.length∧t 14=.int .i64 (k:Int)∧t 5=.int .i64 b∧t 6=.int .i64 (k:Int)∧t 7=.ptr hL 0 0∧t 8=.int .i64 r∧h[0]?=some (.live 7 false false [[Af 3 true m.nS (m.sens.map Bd.cells),Af 4 false m.nV (m.votes.map Ag.cells),Af 5 false m.nM (m.moves.map Am.cells),.int .i64 m.states,.int .i64 m.cmds,.int .i64 m.bgn,Af 1 true m.nO (m.opn.map iv)]])∧∃wf,h[hL]?=some (.live 4 false wf [[Af 1 true w.nn (w.sens.map iv),.int .i64 w.need,.int .i64 w.level,.bool w.above]])) ?_ ?_ (0) _ _ ?_) (fun e tC hC hk=>?_)
  ·rintro c t h Q' kQ ⟨h1,h2,h12,h13,h14,h5,h6,h7,h20,h21,h22,h8,⟨hA,wf,hB⟩⟩
   (have hb:=trivial;with_reducible repeat' (first|simp only[hb,Vc.down,seval,gB.down,h1,h2,h12,h13,h14,h5,h6,h7,h20,h21,h22,h8,agD,decide_false]|refine Aw ?_ ?_<;>intro hb|refine fd ?_|fail))
   exact kQ _ _ _ ⟨rfl,by simp[up,h1],by simp[up,h2],by simp[up,h12],by simp[up,h13],by simp[up,h14],by simp[up,h5],by simp[up,h6],by simp[up,h7],by simp[up,h8,Ip],hA,wf,hB⟩
  ·rintro x rest i c t h J Q' kJ kQ hx hi ⟨h1,h2,h12,h13,h14,h5,h6,h7,h20,h21,h22,h8,⟨hA,wf,hB⟩⟩
   have hd:decide ((i:Int)<(w.sens.length:Int))=true:=decide_eq_true (by omega)
   have hw:=Av hi hvs
   obtain⟨k0,k1⟩:=hIx x (ahJ hx)
   have hrr:=iL (l:=l) (k:=x) (by omega)
   have hss:=bY k1
   have h0':(0≤x)=True:=eq_true k0
   have hS:=zR (Vs m x) w (dW l x)
   generalize hq:Qo (Vs m x) w (dW l x)=q at hS
   generalize Vs m x=s at hss hS
   (have hb:=trivial;with_reducible repeat' (first|simp only[hb,Vc.down,seval,gB.down,h1,h2,h7,h8,h20,h21,h22,hd,hx,hw,hrr,hss,h0',hA,hB,hS,iv,Bd.cells,afR]|refine Aw ?_ ?_<;>intro hb|refine fd ?_|fail))
   all_goals (refine Bt (kJ _ _ (if q=true then IntKind.i64.wrap (c+1)else c) ⟨?_,?_,?_,?_,?_,?_,?_,?_,?_,?_,?_,?_,⟨hA,wf,hB⟩⟩ ?_);(simp[up,h1]);(simp[up,h2]);(simp[up,h12]);(simp[up,h13]);(simp[up,h14]);(simp[up,h5]);(simp[up,h6]);(simp[up,h7]);(simp[up,h20]);(simp[up,h21]);(simp[up]);(simp[up,h8,hb]);(simp[Ip,hq]))
  ·exact⟨by simp[up,Ef,h1,h2,h12,h13,h14,h5,hLe],by simp[up,Ef,h1,h2,h12,h13,h14,h5,hLe],by simp[up,Ef,h1,h2,h12,h13,h14,h5,hLe],by simp[up,Ef,h1,h2,h12,h13,h14,h5,hLe],by simp[up,Ef,h1,h2,h12,h13,h14,h5,hLe],by simp[up,Ef,h1,h2,h12,h13,h14,h5,hLe],by simp[up,Ef,h1,h2,h12,h13,h14,h5,hLe],by simp[up,Ef,h1,h2,h12,h13,h14,h5,hLe],by simp[up,Ef,h1,h2,h12,h13,h14,h5,hLe],by simp[up,Ef,h1,h2,h12,h13,h14,h5,hLe],by simp[up],by simp[up,Ef,h1,h2,h12,h13,h14,h5,hLe],⟨hA1 _,true,by rw[hLe];simp⟩⟩
  ·obtain⟨rfl,h1,h2,h12,h13,h14,h5,h6,h7,h8,hA,wf,hB⟩:=hk
   have hy:decide (w.need≤Ip m w l w.sens 0)=Yw m l w:=rfl
   (have hb:=trivial;with_reducible repeat' (first|simp only[hb,Vc.down,seval,gB.down,h1,h2,h12,h13,h14,h5,h6,h7,h8,hA,hB,hw,hy,aqO]|refine Aw ?_ ?_<;>intro hb|refine fd ?_|fail))
   all_goals (refine Bt (kJ _ _ (k+1,(if Yw m l w=true then orN b (pG k)else b)) ⟨?_,?_,?_,?_,?_,?_,⟨hA,rfl⟩⟩ ?_);(simp[up,h1]);(simp[up,h2]);(simp[up,h12]);(simp[up,h13]);(simp[up]);(simp[up,h5,hb]);(simp[Qr]))
 ·exact⟨by simp[up,Ef],by simp[up,Ef],by simp[up,Ef],by simp[up,Ef],by simp[up],by simp[up,Ef],⟨rfl,rfl⟩⟩
 obtain⟨rfl,h5⟩:=hk
 (have hb:=trivial;with_reducible repeat' (first|simp only[hb,Vc.down,seval,gB.down,h5]|refine Aw ?_ ?_<;>intro hb|refine fd ?_|fail))
def bv(b:Bool):List AV:=[.bool b]
theorem iY{h:Aa}{b:Nat}(hb:b<h.length)(l:Aa)(c:CB):(h++l).set b c=h.set b c++l:=List.set_append_left _ _ hb
theorem dI{h:Aa}{b:Nat}(c:CB)(l:Aa)(k:Nat):(h.set b c++l)[h.length+k]?=l[k]?:=by
 have:=hQ (h.set b c) l k
 rwa[aB0]at this
theorem bO{h:Aa}{b b':Nat}{x:CB}(c:CB)(hne:b≠b')(hb:h[b']?=some x)(l:Aa):(h.set b c++l)[b']?=some x:=by
 rw[List.getElem?_append_left (by rw[aB0];exact(aoV.1 hb).1),aFI hne];exact hb
def wE(v:AV)(i:Nat)(rows:List (List AV))(h:Aa):Prop:=(i=0∧v=.nils)∨(0<i∧∃b,0<b∧v=.slr 1 b 0 i∧h[b]?=some (.live 1 true false rows))
def Qw:List Bool→Nat→Int→Int
 | [],_,b=>b
 |v::vs,i,b=>Qw vs (i+1) (if v=true then orN b (pG i)else b)
theorem iZ(m:Ax)(l:List Int):∀(vs:List Ag) (i:Nat) (b:Int),Qr m l vs i b=Qw (vs.map (Yw m l)) i b
 | [],_,_=>rfl
 |v::vs,i,b=>by simp only[Qr,List.map_cons,Qw];exact iZ m l vs _ _
def Fb(b v:Int):Bool:=uP (lC b v.toNat)==1
theorem aaC:∀(l:List Bool),l.length≤6→∀i:Nat,i<l.length→l[i]?=some (Fb (Qw l 0 0) i)
 | [],_,i,h=>by simp at h
 | [a],_,i,h=>by
   have:∀a:Bool,∀i:Fin 1,[a][i.val]?=some (Fb (Qw [a] 0 0) (i.val:Nat)):=by decide+kernel
   exact this a ⟨i,h⟩
 | [a,b],_,i,h=>by
   have:∀a b:Bool,∀i:Fin 2,[a,b][i.val]?=some (Fb (Qw [a,b] 0 0) (i.val:Nat)):=by decide+kernel
   exact this a b ⟨i,h⟩
 | [a,b,c],_,i,h=>by
   have:∀a b c:Bool,∀i:Fin 3,[a,b,c][i.val]?=some (Fb (Qw [a,b,c] 0 0) (i.val:Nat)):=by decide+kernel
   exact this a b c ⟨i,h⟩
 | [a,b,c,d],_,i,h=>by
   have:∀a b c d:Bool,∀i:Fin 4,[a,b,c,d][i.val]?=some (Fb (Qw [a,b,c,d] 0 0) (i.val:Nat)):=by decide+kernel
   exact this a b c d ⟨i,h⟩
 | [a,b,c,d,e],_,i,h=>by
   have:∀a b c d e:Bool,∀i:Fin 5,[a,b,c,d,e][i.val]?=some (Fb (Qw [a,b,c,d,e] 0 0) (i.val:Nat)):=by decide+kernel
   exact this a b c d e ⟨i,h⟩
 | [a,b,c,d,e,f],_,i,h=>by
   have:∀a b c d e f:Bool,∀i:Fin 6,[a,b,c,d,e,f][i.val]?=some (Fb (Qw [a,b,c,d,e,f] 0 0) (i.val:Nat)):=by decide+kernel
   exact this a b c d e f ⟨i,h⟩
 |_::_::_::_::_::_::_::_,h,_,_=>by simp only[ahP]at h;omega
theorem abO(a b:Bool):Hh Try.prog .neq 4 (.bool a) (.bool b)=some (.bool (!(a==b))):=by cases a<;>cases b<;>kernel_rfl
structure Ql where
 frm:Int
 to:Int
 nn:Bool
 wants:List Ao
 cmd:Int
 after:Int
 st:Int
 ag:Int
 bits:Int
 com:Int
theorem yC(n:Ql):Fg.call (.fn 92) [.agg [.int .i64 n.frm,.int .i64 n.to,Af 2 true n.nn (n.wants.map Ao.cells),.int .i64 n.cmd,.int .i64 n.after,.int .i64 n.st,.int .i64 n.ag,.int .i64 n.bits,.int .i64 n.com]] []=some (.ret (.bool (n.frm==n.st)),[]):=by
 (refine ce Try.func92 ?_;simp only[Try.f92];(have hb:=trivial;with_reducible repeat' (first|simp only[hb,Vc.down,seval,aHE.down]|refine Aw ?_ ?_<;>intro hb|refine fd ?_|fail)))
theorem arC(n:Ql):Fg.call (.fn 93) [.agg [.int .i64 n.frm,.int .i64 n.to,Af 2 true n.nn (n.wants.map Ao.cells),.int .i64 n.cmd,.int .i64 n.after,.int .i64 n.st,.int .i64 n.ag,.int .i64 n.bits,.int .i64 n.com]] []=some (.ret (.bool (decide (n.after≤n.ag))),[]):=by
 (refine ce Try.func93 ?_;simp only[Try.f93];(have hb:=trivial;with_reducible repeat' (first|simp only[hb,Vc.down,seval,aG7.down]|refine Aw ?_ ?_<;>intro hb|refine fd ?_|fail)))
theorem yV(n:Ql):Fg.call (.fn 95) [.agg [.int .i64 n.frm,.int .i64 n.to,Af 2 true n.nn (n.wants.map Ao.cells),.int .i64 n.cmd,.int .i64 n.after,.int .i64 n.st,.int .i64 n.ag,.int .i64 n.bits,.int .i64 n.com]] []=some (.ret (.bool (n.cmd== -1||n.cmd==n.com)),[]):=by
 (refine ce Try.func95 ?_;simp only[Try.f95];(have hb:=trivial;with_reducible repeat' (first|simp only[hb,Vc.down,seval,aJQ.down]|refine Aw ?_ ?_<;>intro hb|refine fd ?_|fail)))
 all_goals simp_all
theorem kE(n:Ql)(w:Ao)(h0:0≤w.vote):Fg.call (.fn 99) [.agg [.int .i64 w.vote,.bool w.is],.ptr 0 0 0] [.live 9 false false [[.int .i64 n.frm,.int .i64 n.to,Af 2 true n.nn (n.wants.map Ao.cells),.int .i64 n.cmd,.int .i64 n.after,.int .i64 n.st,.int .i64 n.ag,.int .i64 n.bits,.int .i64 n.com]]]=some (.ret (.bool (!(Fb n.bits w.vote==w.is))),[.live 9 false false [[.int .i64 n.frm,.int .i64 n.to,Af 2 true n.nn (n.wants.map Ao.cells),.int .i64 n.cmd,.int .i64 n.after,.int .i64 n.st,.int .i64 n.ag,.int .i64 n.bits,.int .i64 n.com]]]):=by
 obtain⟨v,is⟩:=w
 obtain⟨k,hk⟩:∃k:Nat,v=k:=⟨v.toNat,by simp at h0;omega⟩
 subst hk
 (refine ce Try.func99 ?_;simp only[Try.f99];(have hb:=trivial;with_reducible repeat' (first|simp only[hb,Vc.down,seval,aGZ.down,abO]|refine Aw ?_ ?_<;>intro hb|refine fd ?_|fail)))
 all_goals simp[Fb]
theorem gQ{l:List Ao}{nn:Bool}{g:Nat}{ndq:Ql}{p:Ao→Bool}(hp:∀x∈l,Fg.call (.fn g) (.agg [.int .i64 x.vote,.bool x.is]::[.ptr 0 0 0]) [.live 9 false false [[.int .i64 ndq.frm,.int .i64 ndq.to,Af 2 true ndq.nn (ndq.wants.map Ao.cells),.int .i64 ndq.cmd,.int .i64 ndq.after,.int .i64 ndq.st,.int .i64 ndq.ag,.int .i64 ndq.bits,.int .i64 ndq.com]]]=some (.ret (.bool (p x)),[.live 9 false false [[.int .i64 ndq.frm,.int .i64 ndq.to,Af 2 true ndq.nn (ndq.wants.map Ao.cells),.int .i64 ndq.cmd,.int .i64 ndq.after,.int .i64 ndq.st,.int .i64 ndq.ag,.int .i64 ndq.bits,.int .i64 ndq.com]]]))(hl:l.length≤maxLen):
 Fg.call (.fn 98) [Af 2 true nn (l.map Ao.cells),.func (.func g) [] [.ptr 0 0 0]] [.live 9 false false [[.int .i64 ndq.frm,.int .i64 ndq.to,Af 2 true ndq.nn (ndq.wants.map Ao.cells),.int .i64 ndq.cmd,.int .i64 ndq.after,.int .i64 ndq.st,.int .i64 ndq.ag,.int .i64 ndq.bits,.int .i64 ndq.com]]]=some (.ret (.int .i64 (bP p l 0)),[.live 9 false false [[.int .i64 ndq.frm,.int .i64 ndq.to,Af 2 true ndq.nn (ndq.wants.map Ao.cells),.int .i64 ndq.cmd,.int .i64 ndq.after,.int .i64 ndq.st,.int .i64 ndq.ag,.int .i64 ndq.bits,.int .i64 ndq.com]]]):=by
 (refine ce Try.func98 ?_;simp only[Try.f98];(have hb:=trivial;with_reducible repeat' (first|simp only[hb,Vc.down,seval,Zp.down,afR]|refine Aw ?_ ?_<;>intro hb|refine fd ?_|fail)))
 refine Ff (Xa 19 l (fun i (s:Int) t h=>s=i∧h=[.live 9 false false [[.int .i64 ndq.frm,.int .i64 ndq.to,Af 2 true ndq.nn (ndq.wants.map Ao.cells),.int .i64 ndq.cmd,.int .i64 ndq.after,.int .i64 ndq.st,.int .i64 ndq.ag,.int .i64 ndq.bits,.int .i64 ndq.com]]]∧t 0=Af 2 true nn (l.map Ao.cells)∧t 1=.func (.func g) [] [.ptr 0 0 0]∧t 7=.int .i64 l.length∧t 8=.int .i64 i)
  (fun rest s=>bP p rest s) (fun r e t h=>h=[.live 9 false false [[.int .i64 ndq.frm,.int .i64 ndq.to,Af 2 true ndq.nn (ndq.wants.map Ao.cells),.int .i64 ndq.cmd,.int .i64 ndq.after,.int .i64 ndq.st,.int .i64 ndq.ag,.int .i64 ndq.bits,.int .i64 ndq.com]]]∧((e=.exit 0∧r= -1)∨(e=.ret∧t 4=.int .i64 r))) ?_ ?_ 0 _ _ ?_) (fun e t h hk=>?_)
 ·rintro s t h Q' kQ ⟨rfl,rfl,h0,h1,h7,h8⟩
  (have hb:=trivial;with_reducible repeat' (first|simp only[hb,Vc.down,seval,Zp.down,h0,h1,h7,h8,agD,decide_false]|refine Aw ?_ ?_<;>intro hb|refine fd ?_|fail))
  exact kQ _ _ _ ⟨rfl,.inl ⟨rfl,rfl⟩⟩
 ·rintro x rest i s t h J Q' kJ kQ hx hi ⟨rfl,rfl,h0,h1,h7,h8⟩
  have hpx:=hp x (ahJ hx)
  have hd:decide ((i:Int)<(l.length:Int))=true:=by simpa using hi
  (have hb:=trivial;with_reducible repeat' (first|simp only[hb,Vc.down,seval,Zp.down,h0,h1,h7,h8,hd,hx,Ao.cells,hpx,Av hi hl]|refine Aw ?_ ?_<;>intro hb|refine fd ?_|fail))
  ·exact kQ _ _ _ ⟨rfl,.inr ⟨rfl,by simp[up,bP,hb]⟩⟩
  ·exact Bt (kJ _ _ (i+1) ⟨by simp,rfl,by simp[up,h0],by simp[up,h1],by simp[up,h7],by simp[up]⟩ (by simp[bP,hb]))
 ·exact⟨rfl,rfl,by simp[up,Ef],by simp[up,Ef],by simp[up],by simp[up]⟩
 ·obtain⟨rfl,⟨rfl,hi⟩|⟨rfl,hi⟩⟩:=hk
  ·(have hb:=trivial;with_reducible repeat' (first|simp only[hb,Vc.down,seval,Zp.down]|refine Aw ?_ ?_<;>intro hb|refine fd ?_|fail))
   rw[hi]
  ·(have hb:=trivial;with_reducible repeat' (first|simp only[hb,Vc.down,seval,Zp.down,hi]|refine Aw ?_ ?_<;>intro hb|refine fd ?_|fail))
theorem eQ{l:List Ao}{nn:Bool}{g:Nat}{ndq:Ql}{p:Ao→Bool}(hp:∀x∈l,Fg.call (.fn g) (.agg [.int .i64 x.vote,.bool x.is]::[.ptr 0 0 0]) [.live 9 false false [[.int .i64 ndq.frm,.int .i64 ndq.to,Af 2 true ndq.nn (ndq.wants.map Ao.cells),.int .i64 ndq.cmd,.int .i64 ndq.after,.int .i64 ndq.st,.int .i64 ndq.ag,.int .i64 ndq.bits,.int .i64 ndq.com]]]=some (.ret (.bool (p x)),[.live 9 false false [[.int .i64 ndq.frm,.int .i64 ndq.to,Af 2 true ndq.nn (ndq.wants.map Ao.cells),.int .i64 ndq.cmd,.int .i64 ndq.after,.int .i64 ndq.st,.int .i64 ndq.ag,.int .i64 ndq.bits,.int .i64 ndq.com]]]))(hl:l.length≤maxLen):
 Fg.call (.fn 89) [Af 2 true nn (l.map Ao.cells),.func (.func g) [] [.ptr 0 0 0]] [.live 9 false false [[.int .i64 ndq.frm,.int .i64 ndq.to,Af 2 true ndq.nn (ndq.wants.map Ao.cells),.int .i64 ndq.cmd,.int .i64 ndq.after,.int .i64 ndq.st,.int .i64 ndq.ag,.int .i64 ndq.bits,.int .i64 ndq.com]]]=some (.ret (.bool (l.any p)),[.live 9 false false [[.int .i64 ndq.frm,.int .i64 ndq.to,Af 2 true ndq.nn (ndq.wants.map Ao.cells),.int .i64 ndq.cmd,.int .i64 ndq.after,.int .i64 ndq.st,.int .i64 ndq.ag,.int .i64 ndq.bits,.int .i64 ndq.com]]]):=by
 (refine ce Try.func89 ?_;simp only[Try.f89];(have hb:=trivial;with_reducible repeat' (first|simp only[hb,Vc.down,seval,gQ hp hl,Ti p l 0 (Int.le_refl 0)]|refine Aw ?_ ?_<;>intro hb|refine fd ?_|fail)))
def bZ(bits:Int)(l:List Ao):Bool:=l.all fun w=>Fb bits w.vote==w.is
theorem qH(n:Ql)(hl:n.wants.length≤maxLen)(h0:∀w∈n.wants,0≤w.vote):Fg.call (.fn 94) [.agg [.int .i64 n.frm,.int .i64 n.to,Af 2 true n.nn (n.wants.map Ao.cells),.int .i64 n.cmd,.int .i64 n.after,.int .i64 n.st,.int .i64 n.ag,.int .i64 n.bits,.int .i64 n.com]] []=some (.ret (.bool (bZ n.bits n.wants)),[]):=by
 have hc:=eQ (ndq:=n) (l:=n.wants) (nn:=n.nn) (g:=99) (p:=fun w=> !(Fb n.bits w.vote==w.is)) (fun w hw=>kE n w (h0 w hw)) hl
 have q1:bZ n.bits n.wants= !(n.wants.any fun w=> !(Fb n.bits w.vote==w.is)):=aFG
 (refine ce Try.func94 ?_;simp only[Try.f94];(have hb:=trivial;with_reducible repeat' (first|simp only[hb,Vc.down,seval,aG2.down,hc]|refine Aw ?_ ?_<;>intro hb|refine fd ?_|fail)))
 all_goals simp[q1]
theorem akF(f0 f1 f2 f3:Fn)(a0 a1 a2 a3 c0 c1 c2 c3:List AV):Rb Try.prog 155 [(0,.func f0 a0 c0),(1,.func f1 a1 c1),(2,.func f2 a2 c2),(3,.func f3 a3 c3)]=some (.agg [.func f0 a0 c0,.func f1 a1 c1,.func f2 a2 c2,.func f3 a3 c3]):=by kernel_rfl
theorem wO(a b c d:AV):Oi Try.prog 155 (.agg [a,b,c,d]) (.int .i64 0)=some a:=by kernel_rfl
theorem vX(a b c d:AV):Oi Try.prog 155 (.agg [a,b,c,d]) (.int .i64 1)=some b:=by kernel_rfl
theorem vW(a b c d:AV):Oi Try.prog 155 (.agg [a,b,c,d]) (.int .i64 2)=some c:=by kernel_rfl
theorem vY(a b c d:AV):Oi Try.prog 155 (.agg [a,b,c,d]) (.int .i64 3)=some d:=by kernel_rfl
def vC(n:Ql):Bool:=(n.frm==n.st)&&decide (n.after≤n.ag)&&bZ n.bits n.wants&&(n.cmd== -1||n.cmd==n.com)
theorem w2:IntKind.i64.wrap 2=2:=Eq.trans rfl rfl
theorem w3:IntKind.i64.wrap 3=3:=Eq.trans rfl rfl
theorem w4:IntKind.i64.wrap 4=4:=Eq.trans rfl rfl
theorem kV(n:Ql)(hl:n.wants.length≤maxLen)(h0:∀w∈n.wants,0≤w.vote):Fg.call (.fn 75) [.agg [.int .i64 n.frm,.int .i64 n.to,Af 2 true n.nn (n.wants.map Ao.cells),.int .i64 n.cmd,.int .i64 n.after,.int .i64 n.st,.int .i64 n.ag,.int .i64 n.bits,.int .i64 n.com]] []=some (.ret (.bool (vC n)),[]):=by
 have q1:=yC n
 have q2:=arC n
 have q3:=qH n hl h0
 have q4:=yV n
 (refine ce Try.func75 ?_;simp only[Try.f75];(have hb:=trivial;with_reducible repeat' (first|simp only[hb,Vc.down,seval,aoG.down,akF,wO,vX,vW,vY,q1,q2,q3,q4,w2,w3,w4]|refine Aw ?_ ?_<;>intro hb|refine fd ?_|fail)))
 (have hb:=trivial;with_reducible repeat' (first|simp only[hb,Vc.down,seval,aoG.down,akF,wO,vX,vW,vY,q1,q2,q3,q4,w2,w3,w4]|refine Aw ?_ ?_<;>intro hb|refine fd ?_|refine aJO ?_|fail))
 all_goals (refine congrArg (fun b=>(Du.ret (AV.bool b),([]:Aa))) ?_;symm;((try simp only[aFM,apF,atL]at *);simp only[vC, *,aFR,aiO,aC6,ah6,Bool.and_self,Bool.not_not,apF,atL,aiI,List.all_nil]))
def nd(x:Am)(st ag bits com:Int):Ql:=⟨x.frm,x.to,x.nn,x.wants,x.cmd,x.after,st,ag,bits,com⟩
def acB(a:Int):Int:=if IntKind.i64.wrap (a+1)<10 then IntKind.i64.wrap (a+1)else 10
def Zi(st ag bits com:Int):List Am→Int × Int
 | []=>(st,acB ag)
 |x::l=>if vC (nd x st ag bits com)=true then(x.to,0)else Zi st ag bits com l
theorem yQ(m:Ax)(st ag bits com:Int)(hs:m.small)(h0:∀x∈m.moves,∀w∈x.wants,0≤w.vote):
 Fg.call (.fn 45) [.agg [Af 3 true m.nS (m.sens.map Bd.cells),Af 4 false m.nV (m.votes.map Ag.cells),Af 5 false m.nM (m.moves.map Am.cells),.int .i64 m.states,.int .i64 m.cmds,.int .i64 m.bgn,Af 1 true m.nO (m.opn.map iv)],.agg [.int .i64 st,.int .i64 ag],.agg [.int .i64 bits,.int .i64 com]] []=some (.ret (.agg [.int .i64 (Zi st ag bits com m.moves).1,.int .i64 (Zi st ag bits com m.moves).2]),[]):=by
 (refine ce Try.func45 ?_;simp only[Try.f45];(have hb:=trivial;with_reducible repeat' (first|simp only[hb,Vc.down,seval,qJ.down,afR]|refine Aw ?_ ?_<;>intro hb|refine fd ?_|fail)))
 refine Ff (Xa 32 m.moves (fun i (zz:Unit) t h=>t 4=.ptr 1 0 0∧t 5=.ptr 2 0 0∧t 6=.ptr 3 0 0∧t 10=Af 5 false m.nM (m.moves.map Am.cells)∧t 11=.int .i64 m.moves.length∧t 12=.int .i64 i∧(h[1]?=some (.live 2 true false [[.int .i64 st,.int .i64 ag]])∧h[2]?=some (.live 2 true false [[.int .i64 bits,.int .i64 com]])∧h[3]?=some (.live 2 true false [[.int .i64 0,.int .i64 0]]))) (fun rest zz=>Zi st ag bits com rest) (fun r e t h=>(e=.exit 0∧t 4=.ptr 1 0 0∧t 6=.ptr 3 0 0∧h[1]?=some (.live 2 true false [[.int .i64 st,.int .i64 ag]])∧h[3]?=some (.live 2 true false [[.int .i64 0,.int .i64 0]])∧r=(st,acB ag))∨(e=.ret∧t 6=.ptr 3 0 0∧h[3]?=some (.live 2 true true [[.int .i64 r.1,.int .i64 r.2]]))) ?_ ?_ () _ _ ?_) (fun e t h hk=>?_)
 ·rintro _ t h Q' kQ ⟨h4,h5,h6,h10,h11,h12,⟨hA,hB,hC⟩⟩
  (have hb:=trivial;with_reducible repeat' (first|simp only[hb,Vc.down,seval,qJ.down,h4,h5,h6,h10,h11,h12,agD,decide_false]|refine Aw ?_ ?_<;>intro hb|refine fd ?_|fail))
  exact kQ _ _ _ (.inl ⟨rfl,by simp[up,h4],by simp[up,h6],hA,hC,rfl⟩)
 ·rintro x rest i _ t h J Q' kJ kQ hx hi ⟨h4,h5,h6,h10,h11,h12,⟨hA,hB,hC⟩⟩
  have hd:decide ((i:Int)<(m.moves.length:Int))=true:=decide_eq_true (by omega)
  have hw:=Av hi hs.moves
  have hA1:=Bc hA
  have hB1:=Bc hB
  have hC1:=Bc hC
  have hap:=kV (nd x st ag bits com) (hs.ws x (ahJ hx)) (h0 x (ahJ hx))
  have h3l:3<h.length:=(aoV.1 hC).1
  generalize hq:vC (nd x st ag bits com)=q at hap
  simp only[nd]at hap
  (have hb:=trivial;with_reducible repeat' (first|simp only[hb,Vc.down,seval,qJ.down,h4,h5,h6,h10,h11,h12,hd,hx,hw,hA1,hB1,hC1,hap,Am.cells,afR]|refine Aw ?_ ?_<;>intro hb|refine fd ?_|fail))
  ·exact kQ _ _ _ (.inr ⟨rfl,by simp[up,h6],by rw[aFU (by simp;omega)];simp[Zi,hq,hb]⟩)
  ·(refine Bt (kJ _ _ () ⟨?_,?_,?_,?_,?_,?_,⟨hA1 _,hB1 _,hC1 _⟩⟩ ?_);(simp[up,h4]);(simp[up,h5]);(simp[up,h6]);(simp[up,h10]);(simp[up,h11]);(simp[up]);(simp[Zi,hq,hb]))
 ·exact⟨by simp[up,Ef],by simp[up,Ef],by simp[up,Ef],by simp[up,Ef],by simp[up,Ef],by simp[up],⟨rfl,rfl,rfl⟩⟩
 rcases hk with⟨rfl,h4,h6,hA,hC,hr⟩|⟨rfl,h6,hC⟩
 ·have hA1:=Bc hA
  have hC1:=Bc hC
  have h3l:3<h.length:=(aoV.1 hC).1
  have hset:∀c:CB,(h.set 3 c)[3]?=some c:=fun c=>aFU h3l
  have hmt:(if IntKind.i64.wrap (ag+1)<10 then IntKind.i64.wrap (ag+1)else 10)=acB ag:=rfl
  rw[hr]
  (have hb:=trivial;with_reducible repeat' (first|simp only[hb,Vc.down,seval,qJ.down,h4,h6,hA,hC,hA1,hC1,hset,hmt]|refine Aw ?_ ?_<;>intro hb|refine fd ?_|fail))
 ·(have hb:=trivial;with_reducible repeat' (first|simp only[hb,Vc.down,seval,qJ.down,h6,hC]|refine Aw ?_ ?_<;>intro hb|refine fd ?_|fail))
theorem Tc{m:Ax}{l:List Int}(h:Ls m l=true):l.length=m.sens.length:=by
 simp only[Ls,af1,beq_iff_eq]at h
 omega
theorem Xb{m:Ax}(h:Dk m=true):m.votes.length≤6:=by
 simp only[Dk,Lh,af1,decide_eq_true_eq]at h
 exact h.1.1.1.1.1.1.1.1.1.2
def Xh(m:Ax):Bool:=m.votes.all (fun v=>decide (v.sens.length≤10))&&m.moves.all (fun x=>decide (x.wants.length≤10))&&decide (m.sens.length≤10)&&decide (m.votes.length≤10)&&decide (m.moves.length≤30)&&decide (m.opn.length≤20)
theorem uC(m:Ax)(hs:m.small):Fg.call (.fn 12) [.agg [Af 3 true m.nS (m.sens.map Bd.cells),Af 4 false m.nV (m.votes.map Ag.cells),Af 5 false m.nM (m.moves.map Am.cells),.int .i64 m.states,.int .i64 m.cmds,.int .i64 m.bgn,Af 1 true m.nO (m.opn.map iv)]] []=some (.ret (.bool (Xh m)),[]):=by
 have l1:decide ((m.sens.length:Int)≤10)=decide (m.sens.length≤10):=by rw[decide_eq_decide];omega
 have l2:decide ((m.votes.length:Int)≤10)=decide (m.votes.length≤10):=by rw[decide_eq_decide];omega
 have l3:decide ((m.moves.length:Int)≤30)=decide (m.moves.length≤30):=by rw[decide_eq_decide];omega
 have l4:decide ((m.opn.length:Int)≤20)=decide (m.opn.length≤20):=by rw[decide_eq_decide];omega
 (refine ce Try.func12 ?_;simp only[Try.f12];(have hb:=trivial;with_reducible repeat' (first|simp only[hb,Vc.down,seval,Yo.down,afR]|refine Aw ?_ ?_<;>intro hb|refine fd ?_|fail)))
 refine Ff (Xa 57 m.votes (fun i (zz:Unit) t h=>t 1=.ptr 0 0 0∧t 3=.int .i64 i∧(h=[.live 7 false false [[Af 3 true m.nS (m.sens.map Bd.cells),Af 4 false m.nV (m.votes.map Ag.cells),Af 5 false m.nM (m.moves.map Am.cells),.int .i64 m.states,.int .i64 m.cmds,.int .i64 m.bgn,Af 1 true m.nO (m.opn.map iv)]]])) (fun rest zz=>rest.all (fun v=>decide (v.sens.length≤10))) (fun r e t h=>(if r=true then e=.exit 0∧t 1=.ptr 0 0 0∧h=[.live 7 false false [[Af 3 true m.nS (m.sens.map Bd.cells),Af 4 false m.nV (m.votes.map Ag.cells),Af 5 false m.nM (m.moves.map Am.cells),.int .i64 m.states,.int .i64 m.cmds,.int .i64 m.bgn,Af 1 true m.nO (m.opn.map iv)]]]else e=.ret∧t 2=.bool false)) ?_ ?_ () _ _ ?_) (fun e t h hk=>?_)
 ·rintro _ t h Q' kQ ⟨h1,h3,rfl⟩
  (have hb:=trivial;with_reducible repeat' (first|simp only[hb,Vc.down,seval,Yo.down,h1,h3,agD,decide_false,afR]|refine Aw ?_ ?_<;>intro hb|refine fd ?_|fail))
  exact kQ _ _ _ (by rw[if_pos (by rfl)];exact⟨rfl,by simp[up,h1],rfl⟩)
 ·rintro x rest i _ t h J Q' kJ kQ hx hi ⟨h1,h3,rfl⟩
  have hd:decide ((i:Int)<(m.votes.length:Int))=true:=decide_eq_true (by omega)
  have hw:=Av hi hs.votes
  have lx:decide ((10:Int)<(x.sens.length:Int))= !decide (x.sens.length≤10):=by rw[←decide_not,decide_eq_decide];omega
  cases c1:decide (x.sens.length≤10)with
  |false=>
   (have hb:=trivial;with_reducible repeat' (first|simp only[hb,Vc.down,seval,Yo.down,h1,h3,hd,hx,hw,lx,c1,Ag.cells,afR]|refine Aw ?_ ?_<;>intro hb|refine fd ?_|fail))
   exact kQ _ _ _ (by rw[if_neg (by simp only[aiI,c1,aiO];simp)];exact⟨rfl,by simp[up]⟩)
  |true=>
   (have hb:=trivial;with_reducible repeat' (first|simp only[hb,Vc.down,seval,Yo.down,h1,h3,hd,hx,hw,lx,c1,Ag.cells,afR]|refine Aw ?_ ?_<;>intro hb|refine fd ?_|fail))
   (refine Bt (kJ _ _ () ⟨?_,?_,rfl⟩ ?_);(simp[up,h1]);(simp[up]);(simp only[aiI,c1,ah6]))
 ·exact⟨by simp[up,Ef],by simp[up],rfl⟩
 split at hk
 rotate_left
 ·obtain⟨rfl,h2⟩:=hk
  rename_i hr1
  (have hb:=trivial;with_reducible repeat' (first|simp only[hb,Vc.down,seval,Yo.down,h2]|refine Aw ?_ ?_<;>intro hb|refine fd ?_|fail))
  all_goals simp[Xh,awG.2 hr1]
 obtain⟨rfl,h1,rfl⟩:=hk
 rename_i hr1
 (have hb:=trivial;with_reducible repeat' (first|simp only[hb,Vc.down,seval,Yo.down,h1,afR]|refine Aw ?_ ?_<;>intro hb|refine fd ?_|fail))
 refine Ff (Xa 57 m.moves (fun i (zz:Unit) t h=>t 1=.ptr 0 0 0∧t 4=.int .i64 i∧(h=[.live 7 false false [[Af 3 true m.nS (m.sens.map Bd.cells),Af 4 false m.nV (m.votes.map Ag.cells),Af 5 false m.nM (m.moves.map Am.cells),.int .i64 m.states,.int .i64 m.cmds,.int .i64 m.bgn,Af 1 true m.nO (m.opn.map iv)]]])) (fun rest zz=>rest.all (fun x=>decide (x.wants.length≤10))) (fun r e t h=>(if r=true then e=.exit 2∧t 1=.ptr 0 0 0∧h=[.live 7 false false [[Af 3 true m.nS (m.sens.map Bd.cells),Af 4 false m.nV (m.votes.map Ag.cells),Af 5 false m.nM (m.moves.map Am.cells),.int .i64 m.states,.int .i64 m.cmds,.int .i64 m.bgn,Af 1 true m.nO (m.opn.map iv)]]]else e=.ret∧t 2=.bool false)) ?_ ?_ () _ _ ?_) (fun e t h hk=>?_)
 ·rintro _ t h Q' kQ ⟨h1,h4,rfl⟩
  (have hb:=trivial;with_reducible repeat' (first|simp only[hb,Vc.down,seval,Yo.down,h1,h4,agD,decide_false,afR]|refine Aw ?_ ?_<;>intro hb|refine fd ?_|fail))
  exact kQ _ _ _ (by rw[if_pos (by rfl)];exact⟨rfl,by simp[up,h1],rfl⟩)
 ·rintro x rest i _ t h J Q' kJ kQ hx hi ⟨h1,h4,rfl⟩
  have hd:decide ((i:Int)<(m.moves.length:Int))=true:=decide_eq_true (by omega)
  have hw:=Av hi hs.moves
  have lx:decide ((10:Int)<(x.wants.length:Int))= !decide (x.wants.length≤10):=by rw[←decide_not,decide_eq_decide];omega
  cases c1:decide (x.wants.length≤10)with
  |false=>
   (have hb:=trivial;with_reducible repeat' (first|simp only[hb,Vc.down,seval,Yo.down,h1,h4,hd,hx,hw,lx,c1,Am.cells,afR]|refine Aw ?_ ?_<;>intro hb|refine fd ?_|fail))
   exact kQ _ _ _ (by rw[if_neg (by simp only[aiI,c1,aiO];simp)];exact⟨rfl,by simp[up]⟩)
  |true=>
   (have hb:=trivial;with_reducible repeat' (first|simp only[hb,Vc.down,seval,Yo.down,h1,h4,hd,hx,hw,lx,c1,Am.cells,afR]|refine Aw ?_ ?_<;>intro hb|refine fd ?_|fail))
   (refine Bt (kJ _ _ () ⟨?_,?_,rfl⟩ ?_);(simp[up,h1]);(simp[up]);(simp only[aiI,c1,ah6]))
 ·exact⟨by simp[up,Ef,h1],by simp[up],rfl⟩
 split at hk
 rotate_left
 ·obtain⟨rfl,h2⟩:=hk
  rename_i hr2
  (have hb:=trivial;with_reducible repeat' (first|simp only[hb,Vc.down,seval,Yo.down,h2]|refine Aw ?_ ?_<;>intro hb|refine fd ?_|fail))
  all_goals simp[Xh,awG.2 hr2]
 obtain⟨rfl,h1,rfl⟩:=hk
 rename_i hr2
 (have hb:=trivial;with_reducible repeat' (first|simp only[hb,Vc.down,seval,Yo.down,h1,afR,l1,l2,l3,l4]|refine Aw ?_ ?_<;>intro hb|refine fd ?_|fail))
 all_goals (refine congrArg (fun b=>(Du.ret (AV.bool b),([]:Aa))) ?_;symm;((try simp only[aFM,apF,atL]at *);simp only[Xh, *,aFR,aiO,aC6,ah6,Bool.and_self,Bool.not_not,apF,atL,aiI,List.all_nil]))
theorem eL{α:Type}{d:List AV→Option α}{f:α→List AV}(hd:∀cs x,d cs=some x→cs=f x):∀{rows:List (List AV)} {l:List α},Bh d rows=some l→rows=l.map f
 | [],l,h=>by simp[Bh]at h;subst h;rfl
 |r::rows,l,h=>by
  simp only[Bh,akD,ak5]at h
  obtain⟨x,h1,l',h2,rfl⟩:=h
  rw[hd r x h1,eL hd h2];rfl
def uM{α:Type}(n:Nat)(fl:Bool)(d:List AV→Option α):AV→Option (Bool × List α)
 | .nils=>some (false,[])
 | .imm n' fl' rows=>if n'=n∧fl'=fl then(Bh d rows).map fun l=>(true,l)else none
 |_=>none
theorem Rl{α:Type}{n:Nat}{fl:Bool}{d:List AV→Option α}{f:α→List AV}(hd:∀cs x,d cs=some x→cs=f x){v:AV}{x:Bool × List α}(h:uM n fl d v=some x):v=Af n fl x.1 (x.2.map f):=by
 unfold uM at h
 split at h
 ·cases h;rfl
 ·split at h
  ·rename_i hq
   obtain⟨rfl,rfl⟩:=hq
   obtain⟨l,h1,rfl⟩:=ak5.1 h
   rw[eL hd h1]
   cases l<;>rfl
  ·cases h
 ·cases h
def qT:List AV→Option Int
 | [.int .i64 a]=>some a
 |_=>none
theorem bM(cs:List AV)(x:Int)(h:qT cs=some x):cs=iv x:=by
 unfold qT at h
 split at h
 ·cases h;rfl
 ·cases h
def yA:List AV→Option Bd
 | [.int .i64 a,.int .i64 b,.bool c]=>some ⟨a,b,c⟩
 |_=>none
theorem uU(cs:List AV)(x:Bd)(h:yA cs=some x):cs=x.cells:=by
 unfold yA at h
 split at h
 ·cases h;rfl
 ·cases h
def rM:List AV→Option Ag
 | [l,.int .i64 a,.int .i64 b,.bool c]=>(uM 1 true qT l).map fun x=>⟨x.1,x.2,a,b,c⟩
 |_=>none
theorem mO(cs:List AV)(x:Ag)(h:rM cs=some x):cs=x.cells:=by
 unfold rM at h
 split at h
 ·obtain⟨y,h1,rfl⟩:=ak5.1 h
  rw[Rl bM h1];rfl
 ·cases h
def pH:List AV→Option Ao
 | [.int .i64 a,.bool c]=>some ⟨a,c⟩
 |_=>none
theorem mH(cs:List AV)(x:Ao)(h:pH cs=some x):cs=x.cells:=by
 unfold pH at h
 split at h
 ·cases h;rfl
 ·cases h
def mG:List AV→Option Am
 | [.int .i64 a,.int .i64 b,l,.int .i64 c,.int .i64 d]=>(uM 2 true pH l).map fun x=>⟨a,b,x.1,x.2,c,d⟩
 |_=>none
theorem mX(cs:List AV)(x:Am)(h:mG cs=some x):cs=x.cells:=by
 unfold mG at h
 split at h
 ·obtain⟨y,h1,rfl⟩:=ak5.1 h
  rw[Rl mH h1];rfl
 ·cases h
def cZ:List AV→Option Ax
 | [s,v,x,.int .i64 a,.int .i64 b,.int .i64 c,o]=>(uM 3 true yA s).bind fun s=>(uM 4 false rM v).bind fun v=>(uM 5 false mG x).bind fun x=>(uM 1 true qT o).map fun o=>⟨s.1,s.2,v.1,v.2,x.1,x.2,a,b,c,o.1,o.2⟩
 |_=>none
theorem Xi(cs:List AV)(x:Ax)(h:cZ cs=some x):cs=x.cells:=by
 unfold cZ at h
 split at h
 ·simp only[akD,ak5]at h
  obtain⟨s,h1,v,h2,y,h3,o,h4,rfl⟩:=h
  rw[Rl uU h1,Rl mO h2,Rl mX h3,Rl bM h4]
 ·cases h
def Yf(m:Ax):Bool:=decide (m.sens.length≤1000)&&decide (m.votes.length≤1000)&&decide (m.moves.length≤1000)&&decide (m.opn.length≤1000)&&m.votes.all (fun v=>decide (v.sens.length≤1000))&&m.moves.all (fun x=>decide (x.wants.length≤1000))
theorem Ve{m:Ax}(h:Yf m=true):m.small:=by
 simp only[Yf,af1,decide_eq_true_eq,ag9]at h
 obtain⟨⟨⟨⟨⟨a,b⟩,c⟩,d⟩,e⟩,f⟩:=h
 exact⟨by unfold maxLen;omega,by unfold maxLen;omega,by unfold maxLen;omega,by unfold maxLen;omega,fun v hv=>by have:=e v hv;unfold maxLen;omega,fun v hv=>by have:=f v hv;unfold maxLen;omega⟩
def qS:List AV→Aa→Option (Du × Aa)
 | [.agg cs],[]=>(cZ cs).bind fun m=>if Yf m=true then some (.ret (.bool (Dk m)),[])else none
 |_,_=>none
def wN:List AV→Aa→Option (Du × Aa)
 | [.agg cs,.agg [.int .i64 st,.int .i64 ag],.agg [.int .i64 bits,.int .i64 com]],[]=>(cZ cs).bind fun m=>if(Yf m&&m.moves.all fun x=>x.wants.all fun w=>decide (0≤w.vote))=true then
     (match Zi st ag bits com m.moves with
       |(a,b)=>some (.ret (.agg [.int .i64 a,.int .i64 b]),[]))else none
 |_,_=>none
def mE:List AV→Aa→Option (Du × Aa)
 | [.agg cs,l],[]=>(cZ cs).bind fun m=>(uM 1 true qT l).bind fun l=>if(Yf m&&decide (l.2.length=m.sens.length)&&m.votes.all fun v=>v.sens.all fun k=>decide (0≤k)&&decide (k.toNat<m.sens.length))=true then
     some (.ret (.int .i64 (Qr m l.2 m.votes 0 0)),[])else none
 |_,_=>none
def pr2:Fa:=⟨fun f=>if f=42 then some qS else if f=45 then some wN else if f=46 then some mE else pr f,pr.md⟩
theorem Ut:∀f p,pr2 f=some p→∀a h r,p a h=some r→Fg.call (.fn f) a h=some r:=by
 intro f p hp a h r hr
 simp only[pr2]at hp
 split at hp
 ·rename_i hf
  subst hf
  cases hp
  unfold qS at hr
  split at hr
  ·rename_i cs
   obtain⟨s,h1,h2⟩:=akD.1 hr
   split at h2
   ·rename_i hs
    cases h2
    rw[Xi _ _ h1]
    exact bU s (Ve hs)
   ·cases h2
  ·cases hr
 ·split at hp
  ·rename_i hf
   subst hf
   cases hp
   unfold wN at hr
   split at hr
   ·rename_i cs st ag bits com
    obtain⟨s,h1,h2⟩:=akD.1 hr
    split at h2
    ·rename_i hs
     simp only[af1,ag9,decide_eq_true_eq]at hs
     cases h2
     rw[Xi _ _ h1]
     exact yQ s st ag bits com (Ve hs.1) hs.2
    ·cases h2
   ·cases hr
  ·split at hp
   ·rename_i hf
    subst hf
    cases hp
    unfold mE at hr
    split at hr
    ·rename_i cs l
     simp only[akD]at hr
     obtain⟨s,h1,y,h2,h3⟩:=hr
     split at h3
     ·rename_i hs
      simp only[af1,ag9,decide_eq_true_eq]at hs
      cases h3
      rw[Xi _ _ h1,Rl bM h2]
      exact iI s hs.1.2 (Ve hs.1.1) (fun v hv k hk=>hs.2 v hv k hk)
     ·cases h3
    ·cases hr
   ·cases hp
def exA:AV:=.agg [.imm 3 true [[.int .i64 0,.int .i64 100,.bool false],[.int .i64 0,.int .i64 100,.bool false],[.int .i64 0,.int .i64 100,.bool false]],.imm 4 false [[.imm 1 true [[.int .i64 0],[.int .i64 1],[.int .i64 2]],.int .i64 2,.int .i64 80,.bool true]],.imm 5 false [[.int .i64 0,.int .i64 1,.imm 2 true [[.int .i64 0,.bool true]],.int .i64 (-1),.int .i64 0],[.int .i64 1,.int .i64 2,.nils,.int .i64 (-1),.int .i64 1],[.int .i64 2,.int .i64 0,.imm 2 true [[.int .i64 0,.bool false]],.int .i64 0,.int .i64 2]],.int .i64 3,.int .i64 1,.int .i64 0,.imm 1 true [[.int .i64 3],[.int .i64 1],[.int .i64 0]]]
def exS:AV:=.imm 2 true [[.int .i64 1,.int .i64 (-1)],[.int .i64 1,.int .i64 0],[.int .i64 0,.int .i64 (-1)],[.int .i64 0,.int .i64 0]]
def E0:vU:=⟨54,[exA],(.ret (.tup [.slr 2 0 0 4,.slr 2 1 0 4]),[.live 2 false false [[.slr 1 2 0 3,.int .i64 (-1)],[.slr 1 3 0 3,.int .i64 0],[.slr 1 4 0 3,.int .i64 (-1)],[.slr 1 5 0 3,.int .i64 0]],.live 2 true false [[.int .i64 1,.int .i64 (-1)],[.int .i64 1,.int .i64 0],[.int .i64 0,.int .i64 (-1)],[.int .i64 0,.int .i64 0]],.live 1 true false [[.int .i64 (-10000)],[.int .i64 (-10000)],[.int .i64 (-10000)]],.live 1 true false [[.int .i64 (-10000)],[.int .i64 (-10000)],[.int .i64 (-10000)]],.live 1 true false [[.int .i64 (-10000)],[.int .i64 0],[.int .i64 0]],.live 1 true false [[.int .i64 (-10000)],[.int .i64 0],[.int .i64 0]]])⟩
def E1:vU:=⟨55,[exA,exS],(.ret (.tup [.slr 2 0 0 24,.mapr 1]),[.live 2 true false [[.int .i64 0,.int .i64 0],[.int .i64 1,.int .i64 0],[.int .i64 0,.int .i64 1],[.int .i64 1,.int .i64 1],[.int .i64 0,.int .i64 2],[.int .i64 2,.int .i64 0],[.int .i64 0,.int .i64 3],[.int .i64 2,.int .i64 1],[.int .i64 0,.int .i64 4],[.int .i64 2,.int .i64 2],[.int .i64 0,.int .i64 5],[.int .i64 2,.int .i64 3],[.int .i64 0,.int .i64 6],[.int .i64 2,.int .i64 4],[.int .i64 0,.int .i64 7],[.int .i64 2,.int .i64 5],[.int .i64 0,.int .i64 8],[.int .i64 2,.int .i64 6],[.int .i64 0,.int .i64 9],[.int .i64 2,.int .i64 7],[.int .i64 0,.int .i64 10],[.int .i64 2,.int .i64 8],[.int .i64 2,.int .i64 9],[.int .i64 2,.int .i64 10]],.lp [] .skip .skip [.agg [.int .i64 0,.int .i64 0],.agg [.int .i64 0,.int .i64 0,.int .i64 (-1)],.agg [.int .i64 1,.int .i64 0],.agg [.int .i64 0,.int .i64 0,.int .i64 0],.agg [.int .i64 0,.int .i64 1],.agg [.int .i64 0,.int .i64 0,.int .i64 2],.agg [.int .i64 1,.int .i64 1],.agg [.int .i64 1,.int .i64 0,.int .i64 0],.agg [.int .i64 0,.int .i64 2],.agg [.int .i64 0,.int .i64 1,.int .i64 2],.agg [.int .i64 2,.int .i64 0],.agg [.int .i64 1,.int .i64 1,.int .i64 0],.agg [.int .i64 0,.int .i64 3],.agg [.int .i64 0,.int .i64 2,.int .i64 2],.agg [.int .i64 2,.int .i64 1],.agg [.int .i64 2,.int .i64 0,.int .i64 0],.agg [.int .i64 0,.int .i64 4],.agg [.int .i64 0,.int .i64 3,.int .i64 2],.agg [.int .i64 2,.int .i64 2],.agg [.int .i64 2,.int .i64 1,.int .i64 0],.agg [.int .i64 0,.int .i64 5],.agg [.int .i64 0,.int .i64 4,.int .i64 2],.agg [.int .i64 2,.int .i64 3],.agg [.int .i64 2,.int .i64 2,.int .i64 0],.agg [.int .i64 0,.int .i64 6],.agg [.int .i64 0,.int .i64 5,.int .i64 2],.agg [.int .i64 2,.int .i64 4],.agg [.int .i64 2,.int .i64 3,.int .i64 0],.agg [.int .i64 0,.int .i64 7],.agg [.int .i64 0,.int .i64 6,.int .i64 2],.agg [.int .i64 2,.int .i64 5],.agg [.int .i64 2,.int .i64 4,.int .i64 0],.agg [.int .i64 0,.int .i64 8],.agg [.int .i64 0,.int .i64 7,.int .i64 2],.agg [.int .i64 2,.int .i64 6],.agg [.int .i64 2,.int .i64 5,.int .i64 0],.agg [.int .i64 0,.int .i64 9],.agg [.int .i64 0,.int .i64 8,.int .i64 2],.agg [.int .i64 2,.int .i64 7],.agg [.int .i64 2,.int .i64 6,.int .i64 0],.agg [.int .i64 0,.int .i64 10],.agg [.int .i64 0,.int .i64 9,.int .i64 2],.agg [.int .i64 2,.int .i64 8],.agg [.int .i64 2,.int .i64 7,.int .i64 0],.agg [.int .i64 2,.int .i64 9],.agg [.int .i64 2,.int .i64 8,.int .i64 0],.agg [.int .i64 2,.int .i64 10],.agg [.int .i64 2,.int .i64 9,.int .i64 0]] .map])⟩
def E2:vU:=⟨30,[exA,.int .i64 2],(.ret (.tup [.slr 2 0 0 3,.int .i64 0]),[.live 2 false true [[.slr 1 1 0 3,.int .i64 (-1)],[.slr 1 2 0 3,.int .i64 (-1)],[.slr 1 3 0 3,.int .i64 (-1)]],.live 1 true false [[.int .i64 (-10000)],[.int .i64 (-10000)],[.int .i64 (-10000)]],.live 1 true false [[.int .i64 (-10000)],[.int .i64 (-10000)],[.int .i64 (-10000)]],.live 1 true false [[.int .i64 (-10000)],[.int .i64 (-10000)],[.int .i64 (-10000)]]])⟩
def E3:vU:=⟨21,[exA,.int .i64 0,.imm 1 true [[.int .i64 2]]],(.ret (.tup [.int .i64 3,.int .i64 0]),[])⟩
def E4:vU:=⟨21,[exA,.int .i64 0,.imm 1 true [[.int .i64 0]]],(.ret (.tup [.int .i64 0,.int .i64 5]),[])⟩
theorem bD(f:Nat):pr f=none:=rfl
theorem afP:(Jl Try.prog pr2 400).call (.fn E0.f) E0.args []=some E0.res:=by kernel_rfl
theorem jD:Fg.call (.fn E0.f) E0.args []=some E0.res:=Kw (pr:=pr) (pr2:=pr2) rfl (fun f _=>bD f) Ut afP
def T1:Fa:=Xv pr2 [E0]
theorem auE:∀f p,T1 f=some p→∀a h r,p a h=some r→Fg.call (.fn f) a h=some r:=Oq Ut (fun e he=>by
 simp only[agI,aoM,or_false]at he
 rcases he with rfl
 ·exact jD)
theorem zV:(Jl Try.prog T1 400).call (.fn E1.f) E1.args []=some E1.res:=by kernel_rfl
theorem qV:Fg.call (.fn E1.f) E1.args []=some E1.res:=Kw (pr:=pr) (pr2:=T1) rfl (fun f _=>bD f) auE zV
def T2:Fa:=Xv pr2 [E0,E1]
theorem al7:∀f p,T2 f=some p→∀a h r,p a h=some r→Fg.call (.fn f) a h=some r:=Oq Ut (fun e he=>by
 simp only[agI,aoM,or_false]at he
 rcases he with rfl|rfl
 ·exact jD
 ·exact qV)
theorem abY:(Jl Try.prog T2 400).call (.fn E2.f) E2.args []=some E2.res:=by kernel_rfl
theorem alH:Fg.call (.fn E2.f) E2.args []=some E2.res:=Kw (pr:=pr) (pr2:=T2) rfl (fun f _=>bD f) al7 abY
def T3:Fa:=Xv pr2 [E0,E1]
theorem aAN:∀f p,T3 f=some p→∀a h r,p a h=some r→Fg.call (.fn f) a h=some r:=Oq Ut (fun e he=>by
 simp only[agI,aoM,or_false]at he
 rcases he with rfl|rfl
 ·exact jD
 ·exact qV)
theorem xZ:(Jl Try.prog T3 400).call (.fn E3.f) E3.args []=some E3.res:=by kernel_rfl
theorem ayS:Fg.call (.fn E3.f) E3.args []=some E3.res:=Kw (pr:=pr) (pr2:=T3) rfl (fun f _=>bD f) aAN xZ
def T4:Fa:=Xv pr2 [E0,E1]
theorem av6:∀f p,T4 f=some p→∀a h r,p a h=some r→Fg.call (.fn f) a h=some r:=Oq Ut (fun e he=>by
 simp only[agI,aoM,or_false]at he
 rcases he with rfl|rfl
 ·exact jD
 ·exact qV)
theorem xN:(Jl Try.prog T4 400).call (.fn E4.f) E4.args []=some E4.res:=by kernel_rfl
theorem ax0:Fg.call (.fn E4.f) E4.args []=some E4.res:=Kw (pr:=pr) (pr2:=T4) rfl (fun f _=>bD f) av6 xN
def TK:Fa:=Xv pr2 [E2,E3,E4]
theorem aqF:∀f p,TK f=some p→∀a h r,p a h=some r→Fg.call (.fn f) a h=some r:=Oq Ut (fun e he=>by
 simp only[agI,aoM,or_false]at he
 rcases he with rfl|rfl|rfl
 ·exact alH
 ·exact ayS
 ·exact ax0)
theorem kL:(Jl Try.prog TK 400).call (.fn 13) [] []=some (.ret (.bool true),[]):=by kernel_rfl
theorem rS:Fg.call (.fn 13) [] []=some (.ret (.bool true),[]):=Kw (pr:=pr) (pr2:=TK) rfl (fun f _=>bD f) aqF kL
theorem Py{α:Type}{f:α→List AV}{p:List AV→Prop}{q:α→Prop}(hf:∀r,p r→∃x,r=f x∧q x):∀{rows:List (List AV)},(∀r∈rows,p r)→∃l:List α,rows=l.map f∧∀x∈l,q x
 | [],_=>⟨[],rfl,fun x hx=>by simp at hx⟩
 |r::rows,h=>by
  obtain⟨x,rfl,hx⟩:=hf r (h r (auB ..))
  obtain⟨l,rfl,hl⟩:=Py hf (fun r hr=>h r (aE8 _ hr))
  exact⟨x::l,rfl,fun y hy=>by
   rcases agI.1 hy with rfl|hy
   ·exact hx
   ·exact hl y hy⟩
def i64(n:Int):Prop:= -9223372036854775808≤n∧n≤9223372036854775807
theorem Hl{n:Nat}{r:List AV}(h:Ty Try.prog (n+1) 3 r):∃x,r=[.int .i64 x]∧i64 x:=by
 simp only[Ty,Try.underlying3]at h
 obtain⟨x,rfl,h1,h2⟩:=h
 exact⟨x,rfl,h1,h2⟩
theorem bK{n:Nat}{r:List AV}(h:Ty Try.prog (n+1) 4 r):∃x,r=[.bool x]:=by
 simp only[Ty,Try.underlying4]at h
 exact h
theorem bL{n:Nat}{r:List AV}(h:Ty Try.prog (n+2) 25 r):∃(nn:Bool) (l:List Int),r=[Af 1 true nn (l.map iv)]∧l.length≤maxLen∧∀x∈l,i64 x:=by
 unfold Ty at h
 simp only[Try.underlying25]at h
 obtain⟨nn,rows,rfl,hl,hrows⟩:=h
 obtain⟨l,rfl,hi⟩:=Py (f:=iv) (q:=i64) (fun r hr=>by obtain⟨x,rfl,hx⟩:=Hl hr;exact⟨x,rfl,hx⟩) hrows
 have e1:Try.prog.cellsOf 3=1:=by kernel_rfl
 have e2:Ww Try.prog (n+1) 3=true:=by
  simp only[Ww,Try.underlying3]
 rw[e1,e2]
 exact⟨nn,l,rfl,by simpa using hl,hi⟩
theorem afM{n:Nat}{r:List AV}(h:Ty Try.prog (n+2) 50 r):∃x:Bd,r=x.cells∧True:=by
 unfold Ty at h
 simp only[Try.underlying50,dL]at h
 obtain⟨a0,b0,rfl,h0,a1,b1,rfl,h1,a2,b2,rfl,h2,rfl⟩:=h
 obtain⟨x0,rfl,_⟩:=Hl h0
 obtain⟨x1,rfl,_⟩:=Hl h1
 obtain⟨x2,rfl⟩:=bK h2
 exact⟨⟨x0,x1,x2⟩,rfl,trivial⟩
theorem sN{n:Nat}{r:List AV}(h:Ty Try.prog (n+2) 56 r):∃x:Ao,r=x.cells∧True:=by
 unfold Ty at h
 simp only[Try.underlying56,dL]at h
 obtain⟨a0,b0,rfl,h0,a1,b1,rfl,h1,rfl⟩:=h
 obtain⟨x0,rfl,_⟩:=Hl h0
 obtain⟨x1,rfl⟩:=bK h1
 exact⟨⟨x0,x1⟩,rfl,trivial⟩
theorem rZ{n:Nat}{r:List AV}(h:Ty Try.prog (n+3) 48 r):∃x:Ag,r=x.cells∧x.sens.length≤maxLen:=by
 unfold Ty at h
 simp only[Try.underlying48,dL]at h
 obtain⟨a0,b0,rfl,h0,a1,b1,rfl,h1,a2,b2,rfl,h2,a3,b3,rfl,h3,rfl⟩:=h
 obtain⟨nn,l,rfl,hl,_⟩:=bL h0
 obtain⟨x1,rfl,_⟩:=Hl h1
 obtain⟨x2,rfl,_⟩:=Hl h2
 obtain⟨x3,rfl⟩:=bK h3
 exact⟨⟨nn,l,x1,x2,x3⟩,rfl,hl⟩
theorem tX{n:Nat}{r:List AV}(h:Ty Try.prog (n+4) 59 r):∃x:Am,r=x.cells∧x.wants.length≤maxLen:=by
 unfold Ty at h
 simp only[Try.underlying59,dL]at h
 obtain⟨a0,b0,rfl,h0,a1,b1,rfl,h1,a2,b2,rfl,h2,a3,b3,rfl,h3,a4,b4,rfl,h4,rfl⟩:=h
 obtain⟨x0,rfl,_⟩:=Hl h0
 obtain⟨x1,rfl,_⟩:=Hl h1
 obtain⟨x3,rfl,_⟩:=Hl h3
 obtain⟨x4,rfl,_⟩:=Hl h4
 unfold Ty at h2
 simp only[Try.underlying57]at h2
 obtain⟨nn,rows,rfl,hl,hrows⟩:=h2
 obtain⟨l,rfl,_⟩:=Py (fun r hr=>sN hr) hrows
 have e1:Try.prog.cellsOf 56=2:=by kernel_rfl
 have e2:Ww Try.prog (n+2) 56=true:=by
  simp only[Ww,Try.underlying56,Try.underlying3,Try.underlying4];rfl
 rw[e1,e2]
 exact⟨⟨x0,x1,nn,l,x3,x4⟩,rfl,by simpa using hl⟩
theorem uT{n:Nat}{r:List AV}(h:Ty Try.prog (n+6) 27 r):∃m:Ax,r=m.cells∧m.small:=by
 unfold Ty at h
 simp only[Try.underlying27,dL]at h
 obtain⟨a0,b0,rfl,h0,a1,b1,rfl,h1,a2,b2,rfl,h2,a3,b3,rfl,h3,a4,b4,rfl,h4,a5,b5,rfl,h5,a6,b6,rfl,h6,rfl⟩:=h
 obtain⟨x3,rfl,_⟩:=Hl h3
 obtain⟨x4,rfl,_⟩:=Hl h4
 obtain⟨x5,rfl,_⟩:=Hl h5
 obtain⟨n6,l6,rfl,hl6,_⟩:=bL h6
 unfold Ty at h0 h1 h2
 simp only[Try.underlying22]at h0
 simp only[Try.underlying23]at h1
 simp only[Try.underlying24]at h2
 obtain⟨n0,rows0,rfl,hl0,hrows0⟩:=h0
 obtain⟨n1,rows1,rfl,hl1,hrows1⟩:=h1
 obtain⟨n2,rows2,rfl,hl2,hrows2⟩:=h2
 obtain⟨l0,rfl,_⟩:=Py (fun r hr=>afM hr) hrows0
 obtain⟨l1,rfl,hv⟩:=Py (fun r hr=>rZ hr) hrows1
 obtain⟨l2,rfl,hm⟩:=Py (fun r hr=>tX hr) hrows2
 have e0:Try.prog.cellsOf 50=3:=by kernel_rfl
 have e1:Try.prog.cellsOf 48=4:=by kernel_rfl
 have e2:Try.prog.cellsOf 59=5:=by kernel_rfl
 have f0:Ww Try.prog (n+4) 50=true:=by
  simp only[Ww,Try.underlying50,Try.underlying3,Try.underlying4];rfl
 have f1:Ww Try.prog (n+4) 48=false:=by
  simp only[Ww,Try.underlying48,Try.underlying25];simp
 have f2:Ww Try.prog (n+4) 59=false:=by
  simp only[Ww,Try.underlying59,Try.underlying57];simp
 rw[e0,e1,e2,f0,f1,f2]
 exact⟨⟨n0,l0,n1,l1,n2,l2,x3,x4,x5,n6,l6⟩,rfl,⟨by simpa using hl0,by simpa using hl1,by simpa using hl2,hl6,hv,hm⟩⟩
theorem tM{av:AV}(h:eZ Try.prog 7 27 av):∃m:Ax,av=.agg m.cells∧m.small:=by
 unfold eZ at h
 simp only[Try.underlying27]at h
 obtain⟨cs,rfl,h⟩:=h
 obtain⟨s,rfl,hs⟩:=uT h
 exact⟨s,rfl,hs⟩
theorem fB{av:AV}(h:eZ Try.prog 7 3 av):∃x,av=.int .i64 x∧i64 x:=by
 unfold eZ at h
 simp only[Try.underlying3]at h
 obtain⟨x,hx,hi⟩:=Hl h
 simp only[List.cons.injEq,and_true]at hx
 exact⟨x,hx,hi⟩
theorem uD{av:AV}(h:eZ Try.prog 7 25 av):∃(nn:Bool) (l:List Int),av=Af 1 true nn (l.map iv)∧l.length≤maxLen∧∀x∈l,i64 x:=by
 unfold eZ at h
 simp only[Try.underlying25]at h
 obtain⟨nn,l,hx,hl⟩:=bL h
 simp only[List.cons.injEq,and_true]at hx
 exact⟨nn,l,hx,hl⟩
theorem Dl(a:Int):(a==a)=true:=by simp
def Eh(m:Ax):List Int→Int→Int
 | [],c=>c
 |k::ks,c=>Eh m ks (if(Vs m k).byp=true then c else IntKind.i64.wrap (c+1))
theorem Xl(m:Ax):∀(l:List Int) (c:Int),0≤c→c+l.length≤1000→c≤Eh m l c∧Eh m l c≤c+l.length
 | [],c,h0,h=>by simp[Eh]
 |k::l,c,h0,h=>by
  simp only[ahP]at h
  unfold Eh
  split
  ·have:=Xl m l c h0 (by omega)
   simp only[ahP];omega
  ·rw[Ar (by omega) (by omega)]
   have:=Xl m l (c+1) (by omega) (by omega)
   simp only[ahP];omega
def fA(m:Ax)(k:Int):Ag:=m.votes.getD k.toNat ⟨false,[],0,0,false⟩
theorem iW{m:Ax}{k:Int}(h:k.toNat<m.votes.length):m.votes[k.toNat]?=some (fA m k):=by
 simp[fA,aiV,aAK h]
theorem aH{m:Ax}(h:Dk m=true){v:Ag}(hv:v∈m.votes):1≤v.need∧v.need≤v.sens.length:=by
 simp only[Dk,Lh,af1,decide_eq_true_eq,ag9]at h
 have h2:=h.1.1.2 v hv
 simp only[Ny,af1,Iw,decide_eq_true_eq]at h2
 omega
theorem jA{n:Nat}(hn:n≤6):∀{l:List Int} {p:Option Int},Jk n l p=true→(match p with|none=>(l.length:Int)≤n|some q=>0≤q→q<n→(l.length:Int)+q+1≤n)
 | [],none,_=>by simp
 | [],some q,_=>fun h0 h1=>by simp;omega
 |x::l,p,h=>by
  simp only[Jk,af1]at h
  have:=h.1.1
  rw[Ar (by omega) (by omega)]at this
  simp[Iw]at this
  have h2:=jA hn h.2
  simp only at h2
  have h3:=h2 (by omega) (by omega)
  cases p with
  |none=>simp only[ahP];omega
  |some q=>
   intro h0 h1
   have h4:=h.1.2
   simp at h4
   simp only[ahP];omega
theorem aJ{m:Ax}(h:Dk m=true){v:Ag}(hv:v∈m.votes):v.sens.length≤6:=by
 simp only[Dk,Lh,af1,decide_eq_true_eq,ag9]at h
 have h2:=h.1.1.2 v hv
 simp only[Ny,af1]at h2
 have h6:m.sens.length≤6:=h.1.1.1.1.1.1.1.1.1.1
 have:=jA h6 h2.1.1
 simp only at this
 omega
def Wu(m:Ax)(v:Ag):Int × Int:=if Eh m v.sens 0<v.need then(-1,Eh m v.sens 0)else(IntKind.i64.wrap (Eh m v.sens 0-v.need),IntKind.i64.wrap (v.need-1))
def uH(m:Ax)(k:Int):Bool:=Dk m&&Iw k 0 (IntKind.i64.wrap ((m.votes.length:Int)-1))
theorem uN{m:Ax}{k:Int}(h:uH m k=true):Dk m=true∧0≤k∧k.toNat<m.votes.length:=by
 simp only[uH,af1]at h
 obtain⟨h1,h2⟩:=h
 have:=Xb h1
 rw[Ar (by omega) (by omega)]at h2
 simp only[Iw,af1,decide_eq_true_eq]at h2
 exact⟨h1,by omega,by omega⟩
theorem zD{m:Ax}{k:Int}(h1:Dk m=true)(h2:0≤k)(h3:k<m.votes.length):uH m k=true:=by
 have:=Xb h1
 simp only[uH,h1,ah6]
 rw[Ar (by omega) (by omega)]
 simp only[Iw,af1,decide_eq_true_eq]
 omega
theorem rK(m:Ax)(k:Int)(hs:m.small):Fg.call (.fn 18) [.agg [Af 3 true m.nS (m.sens.map Bd.cells),Af 4 false m.nV (m.votes.map Ag.cells),Af 5 false m.nM (m.moves.map Am.cells),.int .i64 m.states,.int .i64 m.cmds,.int .i64 m.bgn,Af 1 true m.nO (m.opn.map iv)],.int .i64 k] []=
 some (.ret (if uH m k=true then .tup [.int .i64 (Wu m (fA m k)).1,.int .i64 (Wu m (fA m k)).2,.int .i64 0]else .tup [.int .i64 0,.int .i64 0,.int .i64 2]),[]):=by
 have hv:=bU m hs
 cases hok:uH m k with
 |false=>
  rw[if_neg (by simp)]
  cases c1:Dk m with
  |false=>
   rw[c1]at hv
   (refine ce Try.func18 ?_;simp only[Try.f18];(have hb:=trivial;with_reducible repeat' (first|simp only[hb,Vc.down,seval,dD.down,hv]|refine Aw ?_ ?_<;>intro hb|refine fd ?_|fail)))
  |true=>
   rw[c1]at hv
   have c2:Iw k 0 (IntKind.i64.wrap ((m.votes.length:Int)-1))=false:=by simpa [uH,c1]using hok
   (refine ce Try.func18 ?_;simp only[Try.f18];(have hb:=trivial;with_reducible repeat' (first|simp only[hb,Vc.down,seval,dD.down,hv,Ua,c2,afR]|refine Aw ?_ ?_<;>intro hb|refine fd ?_|fail)))
 |true=>
  rw[if_pos rfl]
  obtain⟨o1,o2,o3⟩:=uN hok
  have hvv:=iW o3
  have hmem:=ahJ hvv
  rw[o1]at hv
  have c2:Iw k 0 (IntKind.i64.wrap ((m.votes.length:Int)-1))=true:=by simpa [uH,o1]using hok
  have h0':(0≤k)=True:=eq_true o2
  have hI:=Ud o1 _ hmem
  have hl:=hs.vs _ hmem
  generalize fA m k=v at *
  (refine ce Try.func18 ?_;simp only[Try.f18];(have hb:=trivial;with_reducible repeat' (first|simp only[hb,Vc.down,seval,dD.down,hv,Ua,c2,h0',hvv,Ag.cells,afR]|refine Aw ?_ ?_<;>intro hb|refine fd ?_|fail)))
  refine Ff (Xa 57 v.sens (fun i (zz:Int) t h=>t 2=.ptr 0 0 0∧t 7=.ptr 1 0 0∧t 29=Af 1 true v.nn (v.sens.map iv)∧t 30=.int .i64 v.sens.length∧t 31=.int .i64 i∧t 8=.int .i64 zz∧(h=[.live 7 false false [[Af 3 true m.nS (m.sens.map Bd.cells),Af 4 false m.nV (m.votes.map Ag.cells),Af 5 false m.nM (m.moves.map Am.cells),.int .i64 m.states,.int .i64 m.cmds,.int .i64 m.bgn,Af 1 true m.nO (m.opn.map iv)]],.live 4 false true [[Af 1 true v.nn (v.sens.map iv),.int .i64 v.need,.int .i64 v.level,.bool v.above]]])) (fun rest zz=>Eh m rest zz) (fun r e t h=>e=.exit 0∧t 7=.ptr 1 0 0∧t 8=.int .i64 r∧h=[.live 7 false false [[Af 3 true m.nS (m.sens.map Bd.cells),Af 4 false m.nV (m.votes.map Ag.cells),Af 5 false m.nM (m.moves.map Am.cells),.int .i64 m.states,.int .i64 m.cmds,.int .i64 m.bgn,Af 1 true m.nO (m.opn.map iv)]],.live 4 false true [[Af 1 true v.nn (v.sens.map iv),.int .i64 v.need,.int .i64 v.level,.bool v.above]]]) ?_ ?_ (0) _ _ ?_) (fun e t h hk=>?_)
  ·rintro c t h Q' kQ ⟨h2,h7,h29,h30,h31,h8,rfl⟩
   (have hb:=trivial;with_reducible repeat' (first|simp only[hb,Vc.down,seval,dD.down,h2,h7,h29,h30,h31,h8,agD,decide_false,afR]|refine Aw ?_ ?_<;>intro hb|refine fd ?_|fail))
   exact kQ _ _ _ ⟨rfl,by simp[up,h7],by simp[up,h8,Eh],rfl⟩
  ·rintro x rest i c t h J Q' kJ kQ hx hi ⟨h2,h7,h29,h30,h31,h8,rfl⟩
   have hd:decide ((i:Int)<(v.sens.length:Int))=true:=decide_eq_true (by omega)
   have hw:=Av hi hl
   obtain⟨k0,k1⟩:=hI x (ahJ hx)
   have h0':(0≤x)=True:=eq_true k0
   have hss:=bY k1
   cases c1:(Vs m x).byp with
   |false=>
    (have hb:=trivial;with_reducible repeat' (first|simp only[hb,Vc.down,seval,dD.down,h2,h7,h8,h29,h30,h31,hd,hx,hw,h0',hss,iv,c1,Bd.cells,afR]|refine Aw ?_ ?_<;>intro hb|refine fd ?_|fail))
    (refine Bt (kJ _ _ (IntKind.i64.wrap (c+1)) ⟨?_,?_,?_,?_,?_,?_,rfl⟩ ?_);(simp[up,h2]);(simp[up,h7]);(simp[up,h29]);(simp[up,h30]);(simp[up]);(simp[up,h8]);(simp[Eh,c1]))
   |true=>
    (have hb:=trivial;with_reducible repeat' (first|simp only[hb,Vc.down,seval,dD.down,h2,h7,h8,h29,h30,h31,hd,hx,hw,h0',hss,iv,c1,Bd.cells,afR]|refine Aw ?_ ?_<;>intro hb|refine fd ?_|fail))
    (refine Bt (kJ _ _ c ⟨?_,?_,?_,?_,?_,?_,rfl⟩ ?_);(simp[up,h2]);(simp[up,h7]);(simp[up,h29]);(simp[up,h30]);(simp[up]);(simp[up,h8]);(simp[Eh,c1]))
  ·exact⟨by simp[up,Ef],by simp[up,Ef],by simp[up,Ef],by simp[up,Ef],by simp[up],by simp[up,Ef],rfl⟩
  obtain⟨rfl,h7,h8,rfl⟩:=hk
  cases c5:decide (Eh m v.sens 0<v.need)with
  |true=>
   have e5:Wu m v=(-1,Eh m v.sens 0):=by rw[Wu,if_pos (of_decide_eq_true c5)]
   rw[e5]
   (have hb:=trivial;with_reducible repeat' (first|simp only[hb,Vc.down,seval,dD.down,h7,h8,c5]|refine Aw ?_ ?_<;>intro hb|refine fd ?_|fail))
  |false=>
   have e5:Wu m v=(IntKind.i64.wrap (Eh m v.sens 0-v.need),IntKind.i64.wrap (v.need-1)):=by rw[Wu,if_neg (of_decide_eq_false c5)]
   rw[e5]
   (have hb:=trivial;with_reducible repeat' (first|simp only[hb,Vc.down,seval,dD.down,h7,h8,c5]|refine Aw ?_ ?_<;>intro hb|refine fd ?_|fail))
def bl(b:Int):Nat→Nat→List Bool
 |_,0=>[]
 |k,n+1=>Fb b (k:Int)::bl b (k+1) n
theorem oO(b:Int):∀n k,(bl b k n).length=n
 |0,_=>rfl
 |n+1,k=>by simp[bl,oO b n]
theorem nE(b:Int):∀n k i,i<n→(bl b k n)[i]?=some (Fb b ((k+i:Nat):Int))
 |n+1,k,0,_=>by simp[bl]
 |n+1,k,i+1,h=>by
  simp only[bl,List.getElem?_cons_succ]
  rw[nE b n (k+1) i (by omega)]
  congr 3;omega
theorem qW{m:Ax}{l:List Int}(h6:m.votes.length≤6):bl (Qr m l m.votes 0 0) 0 m.votes.length=m.votes.map (Yw m l):=by
 apply List.ext_getElem?
 intro i
 by_cases hi:i<m.votes.length
 ·rw[nE _ _ _ _ hi,iZ,aaC _ (by simpa using h6) i (by simpa using hi)]
  simp
 ·rw[aF8 (by rw[oO];omega),aF8 (by simp;omega)]
theorem uG(m:Ax){l:List Int}{nn:Bool}(hs:m.small)(hm:Dk m=true)(hr:Ls m l=true)(hlm:l.length≤maxLen)(o:Du)(h':Aa)(c0:m.votes=[]→(o,h')=(.ret (.tup [.nils,.int .i64 0]),[]))(c1:m.votes≠[]→(o,h')=(.ret (.tup [.slr 1 0 0 m.votes.length,.int .i64 0]),[.live 1 true false ((m.votes.map (Yw m l)).map bv)])):
 Fg.call (.fn 25) [.agg [Af 3 true m.nS (m.sens.map Bd.cells),Af 4 false m.nV (m.votes.map Ag.cells),Af 5 false m.nM (m.moves.map Am.cells),.int .i64 m.states,.int .i64 m.cmds,.int .i64 m.bgn,Af 1 true m.nO (m.opn.map iv)],Af 1 true nn (l.map iv)] []=some (o,h'):=by
 have h1:=bU m hs
 have h2:=xU m (l:=l) (nn:=nn) hlm
 have h3:=iI m (l:=l) (nn:=nn) (Tc hr) hs (Ud hm)
 rw[hm]at h1
 rw[hr]at h2
 rw[←qW (m:=m) (l:=l) (Xb hm)]at c1
 generalize Qr m l m.votes 0 0=bits at *
 have hsv:=hs.votes
 have h6v:=Xb hm
 (refine ce Try.func25 ?_;simp only[Try.f25];(have hb:=trivial;with_reducible repeat' (first|simp only[hb,Vc.down,seval,lM.down,h1,h2,h3,afR]|refine Aw ?_ ?_<;>intro hb|refine fd ?_|fail)))
 refine Ff (Xa 37 m.votes (fun i (zz:List Bool) t h=>t 2=.ptr 0 0 0∧t 6=.int .i64 bits∧t 22=Af 4 false m.nV (m.votes.map Ag.cells)∧t 23=.int .i64 m.votes.length∧t 24=.int .i64 i∧(h[0]?=some (.live 7 false false [[Af 3 true m.nS (m.sens.map Bd.cells),Af 4 false m.nV (m.votes.map Ag.cells),Af 5 false m.nM (m.moves.map Am.cells),.int .i64 m.states,.int .i64 m.cmds,.int .i64 m.bgn,Af 1 true m.nO (m.opn.map iv)]])∧zz.length=i∧wE (t 7) i (zz.map bv) h)) (fun rest zz=>zz++bl bits zz.length rest.length) (fun r e t h=>e=.exit 0∧wE (t 7) m.votes.length (r.map bv) h) ?_ ?_ ([]) _ _ ?_) (fun e t h hk=>?_)
 ·rintro a t h Q' kQ ⟨h2,h6,h22,h23,h24,⟨hA,hp,hc⟩⟩
  (have hb:=trivial;with_reducible repeat' (first|simp only[hb,Vc.down,seval,lM.down,h2,h6,h22,h23,h24,agD,decide_false,hA,afR]|refine Aw ?_ ?_<;>intro hb|refine fd ?_|fail))
  exact kQ _ _ _ ⟨rfl,by simpa [up,bl]using hc⟩
 ·rintro x rest i a t h J Q' kJ kQ hx hi ⟨h2,h6,h22,h23,h24,⟨hA,hp,hc⟩⟩
  have hd:decide ((i:Int)<(m.votes.length:Int))=true:=decide_eq_true (by omega)
  have hw:=Av hi hsv
  have hb1:(uP (lC bits i)==1)=Fb bits (i:Int):=by simp[Fb]
  rcases hc with⟨rfl,ho⟩|⟨h0,b,hb0,ho,hb⟩
  ·simp only[Int.natCast_zero]at hd
   have hs0:Hh Try.prog .shr 3 (.int .i64 bits) (.int .i64 0)=some (.int .i64 (lC bits 0)):=pC _ bits 0
   (have hb:=trivial;with_reducible repeat' (first|simp only[hb,Vc.down,seval,lM.down,hs0,h2,h6,h22,h23,h24,ho,hd,hw,hA,hb1,afR]|refine Aw ?_ ?_<;>intro hb|refine fd ?_|fail))
   obtain rfl:a=[]:=aGJ.1 hp
   (refine Bt (kJ _ _ [Fb bits 0] ⟨?_,?_,?_,?_,?_,⟨Bc hA _,rfl,.inr ⟨by omega,h.length+1,by omega,by simp[up],by rw[hQ];simp[bv,Fb]⟩⟩⟩ ?_);(simp[up,h2]);(simp[up,h6]);(simp[up,h22]);(simp[up,h23]);(simp[up]);(simp[bl]))
  ·have hbl:b<h.length:=(aoV.1 hb).1
   have hB:=Bc hb
   have hS:=iY hbl
   have hlp:0+i=a.length:=by omega
   have hi39:(i+1≤549755813888)=True:=eq_true (by omega)
   (have hb:=trivial;with_reducible repeat' (first|simp only[hb,Vc.down,seval,lM.down,h2,h6,h22,h23,h24,ho,hd,hw,hA,hb1,afR,hB,hS,dI,aB0,hp,hi39]|refine Aw ?_ ?_<;>intro hb|refine fd ?_|fail))
   (refine Bt (kJ _ _ (a++[Fb bits (i:Int)]) ⟨?_,?_,?_,?_,?_,⟨bO _ (by omega) hA _,by simp[hp],.inr ⟨by omega,h.length+1,by omega,by simp[up],by rw[dI];simp[bv,Fb]⟩⟩⟩ ?_);(simp[up,h2]);(simp[up,h6]);(simp[up,h22]);(simp[up,h23]);(simp[up]);(simp[bl,hp]))
 ·exact⟨by simp[up,Ef],by simp[up,Ef],by simp[up,Ef],by simp[up,Ef],by simp[up],⟨rfl,rfl,.inl ⟨rfl,by simp[up]⟩⟩⟩
 obtain⟨rfl,⟨hn,ho⟩|⟨hn,b,hb0,ho,hb⟩⟩:=hk
 ·rw[c0 (aGJ.1 hn)]
  (have hb:=trivial;with_reducible repeat' (first|simp only[hb,Vc.down,seval,lM.down,ho]|refine Aw ?_ ?_<;>intro hb|refine fd ?_|fail))
 ·rw[c1 (fun e=>by rw[e]at hn;simp at hn)]
  simp only[List.nil_append,List.length_nil]at hb
  (with_reducible repeat' (first|simp only[hb,Vc.down,seval,lM.down,ho,hb]|refine Aw ?_ ?_<;>intro hb|refine fd ?_|fail))
def Qh(v:Ag)(val:Int):Bool:=(v.above&&decide (v.level≤val))||(!v.above&&decide (val≤v.level))
theorem rQ{s:Bd}{v:Ag}{val:Int}(hb:s.byp=false)(hr:Iw val s.lo s.hi=true):Qo s v val=Qh v val:=by
 unfold Qo Qh
 rw[hb,hr]
 cases v.above<;>simp
def Vg(l:List Int)(i v:Int):List Int:=l.set i.toNat v
theorem Ju(l:List Int)(i v:Int):(Vg l i v).length=l.length:=by simp[Vg]
theorem qA(l:List Int)(i v:Int):(l.map iv).set i.toNat [.int .i64 v]=(Vg l i v).map iv:=by
 simp[Vg,iv,List.map_set]
theorem sA{l:List Int}{k v:Int}(h:k.toNat<l.length):dW (Vg l k v) k=v:=by
 simp[dW,Vg,aiV,h]
theorem qX{l:List Int}{k v j:Int}(h0:0≤k)(hj:0≤j)(hne:j≠k):dW (Vg l k v) j=dW l j:=by
 have:k.toNat≠j.toNat:=by omega
 simp[dW,Vg,aiV,aFI this]
theorem cQ{l:List Int}{k v:Int}(h:l.all Jm=true)(hv:Jm v=true):(Vg l k v).all Jm=true:=by
 simp only[ag9]at h ⊢
 intro x hx
 rcases List.mem_or_eq_of_mem_set hx with h1|rfl
 ·exact h x h1
 ·exact hv
def Kz(m:Ax)(val wrong:Int):List Int→List Int × Int × Int→Option (List Int × Int × Int)
 | [],s=>some s
 |k::ks,s=>
  if(Vs m k).byp=true then Kz m val wrong ks s
  else if Fb wrong k=true then Kz m val wrong ks (s.1,IntKind.i64.wrap (s.2.1+1),IntKind.i64.wrap (s.2.2+1))
  else if Iw val (Vs m k).lo (Vs m k).hi=true then Kz m val wrong ks (Vg s.1 k val,s.2.1,IntKind.i64.wrap (s.2.2+1))
  else none
theorem Is(m:Ax)(v:Ag)(val wrong:Int):∀(ks rs:List Int) (many work:Int) (rs':List Int) (many' work' c:Int),ks.Nodup→(∀k∈ks,0≤k∧k.toNat<rs.length)→0≤many→0≤work→many+ks.length≤1000→work+ks.length≤1000→0≤c→c+ks.length≤1000→
 Kz m val wrong ks (rs,many,work)=some (rs',many',work')→
 (rs'.length=rs.length∧(∀j,0≤j→j∉ks→dW rs' j=dW rs j)∧(rs.all Jm=true→Jm val=true→rs'.all Jm=true))∧many≤many'∧many'-many≤work'-work∧work'=Eh m ks work∧
   c≤Ip m v rs' ks c∧(Qh v val=true→(work'-work)-(many'-many)≤Ip m v rs' ks c-c)∧(Qh v val=false→Ip m v rs' ks c-c≤many'-many)∧Ip m v rs' ks c-c≤work'-work
 | [],rs,many,work,rs',many',work',c,_,_,_,_,_,_,_,_,h=>by
   simp only[Kz,Option.some.injEq,Prod.mk.injEq]at h
   obtain⟨rfl,rfl,rfl⟩:=h
   refine⟨⟨rfl,fun _ _ _=>rfl,fun h _=>h⟩,?_⟩
   simp only[Ip,Eh]
   exact⟨by omega,by omega,trivial,by omega,fun _=>by omega,fun _=>by omega,by omega⟩
 |k::ks,rs,many,work,rs',many',work',c,hn,hi,h1,h2,h3,h4,h5,h6,h=>by
  simp only[ahP]at h3 h4 h6
  obtain⟨hk,hn⟩:=aGL.1 hn
  have hi2:=fun k hk=>hi k (aE8 _ hk)
  obtain⟨k0,k1⟩:=hi k (auB ..)
  have hnot:∀j,j∉k::ks→j∉ks:=fun j hj hj2=>hj (aE8 _ hj2)
  unfold Kz at h
  by_cases hb:(Vs m k).byp=true
  ·rw[if_pos hb]at h
   obtain⟨⟨a1,a2,a3⟩,a4⟩:=Is m v val wrong ks rs many work rs' many' work' c hn hi2 h1 h2 (by omega) (by omega) h5 (by omega) h
   refine⟨⟨a1,fun j hj hj2=>a2 j hj (hnot j hj2),a3⟩,?_⟩
   have hs:Qo (Vs m k) v (dW rs' k)=false:=by simp[Qo,hb]
   simp only[Ip,Eh,hb,hs,if_true]
   simpa using a4
  ·rw[if_neg hb]at h
   simp only at h
   by_cases hw:Fb wrong k=true
   ·rw[if_pos hw]at h
    rw[Ar (by omega) (by omega),Ar (by omega) (by omega)]at h
    have e1:Eh m (k::ks) work=Eh m ks (work+1):=by simp only[Eh];rw[if_neg hb,Ar (by omega) (by omega)]
    cases hs:Qo (Vs m k) v (dW rs' k)with
    |true=>
     have e2:Ip m v rs' (k::ks) c=Ip m v rs' ks (c+1):=by simp only[Ip,hs,if_true];rw[Ar (by omega) (by omega)]
     obtain⟨⟨a1,a2,a3⟩,a4,a5,a6,a7,a8,a9,a10⟩:=Is m v val wrong ks rs (many+1) (work+1) rs' many' work' (c+1) hn hi2 (by omega) (by omega) (by omega) (by omega) (by omega) (by omega) h
     rw[e1,e2]
     exact⟨⟨a1,fun j hj hj2=>a2 j hj (hnot j hj2),a3⟩,by omega,by omega,a6,by omega,fun hd=>by have:=a8 hd;omega,fun hd=>by have:=a9 hd;omega,by omega⟩
    |false=>
     have e2:Ip m v rs' (k::ks) c=Ip m v rs' ks c:=by simp[Ip,hs]
     obtain⟨⟨a1,a2,a3⟩,a4,a5,a6,a7,a8,a9,a10⟩:=Is m v val wrong ks rs (many+1) (work+1) rs' many' work' c hn hi2 (by omega) (by omega) (by omega) (by omega) (by omega) (by omega) h
     rw[e1,e2]
     exact⟨⟨a1,fun j hj hj2=>a2 j hj (hnot j hj2),a3⟩,by omega,by omega,a6,by omega,fun hd=>by have:=a8 hd;omega,fun hd=>by have:=a9 hd;omega,by omega⟩
   ·rw[if_neg hw]at h
    by_cases hr:Iw val (Vs m k).lo (Vs m k).hi=true
    ·rw[if_pos hr]at h
     rw[Ar (by omega) (by omega)]at h
     have e1:Eh m (k::ks) work=Eh m ks (work+1):=by simp only[Eh];rw[if_neg hb,Ar (by omega) (by omega)]
     have hi3:∀j∈ks,0≤j∧j.toNat<(Vg rs k val).length:=by rw[Ju];exact hi2
     have key:=fun c h5 h6=>Is m v val wrong ks (Vg rs k val) many (work+1) rs' many' work' c hn hi3 h1 (by omega) (by omega) (by omega) h5 h6 h
     have hk2:dW rs' k=val:=by rw[(key c h5 (by omega)).1.2.1 k k0 hk,sA k1]
     have hs:Qo (Vs m k) v (dW rs' k)=Qh v val:=by rw[hk2];exact rQ (by simpa using hb) hr
     cases hd:Qh v val with
     |true=>
      rw[hd]at hs
      have e2:Ip m v rs' (k::ks) c=Ip m v rs' ks (c+1):=by simp only[Ip,hs,if_true];rw[Ar (by omega) (by omega)]
      obtain⟨⟨a1,a2,a3⟩,a4,a5,a6,a7,a8,a9,a10⟩:=key (c+1) (by omega) (by omega)
      rw[Ju]at a1
      rw[e1,e2]
      exact⟨⟨a1,fun j hj hj2=>by rw[a2 j hj (hnot j hj2),qX k0 hj (fun e=>hj2 (by rw[e];exact auB ..))],fun p q=>a3 (cQ p q) q⟩,by omega,by omega,a6,by omega,fun _=>by have:=a8 hd;omega,fun hd=>by simp at hd,by omega⟩
     |false=>
      rw[hd]at hs
      have e2:Ip m v rs' (k::ks) c=Ip m v rs' ks c:=by simp[Ip,hs]
      obtain⟨⟨a1,a2,a3⟩,a4,a5,a6,a7,a8,a9,a10⟩:=key c h5 (by omega)
      rw[Ju]at a1
      rw[e1,e2]
      exact⟨⟨a1,fun j hj hj2=>by rw[a2 j hj (hnot j hj2),qX k0 hj (fun e=>hj2 (by rw[e];exact auB ..))],fun p q=>a3 (cQ p q) q⟩,by omega,by omega,a6,by omega,fun hd=>by simp at hd,fun _=>by have:=a9 hd;omega,by omega⟩
    ·rw[if_neg hr]at h;cases h
theorem bB{n:Nat}(hn:n≤6):∀{l:List Int} {p:Option Int},Jk n l p=true→l.Nodup∧(∀q,p=some q→∀k∈l,q<k)
 | [],_,_=>⟨List.nodup_nil,fun _ _ _ h=>by cases h⟩
 |x::l,p,h=>by
  simp only[Jk,af1]at h
  obtain⟨h1,h2⟩:=bB hn h.2
  have h3:=h2 x rfl
  refine⟨aGL.2 ⟨fun hx=>by have:=h3 x hx;omega,h1⟩,?_⟩
  rintro q rfl k hk
  have h4:=h.1.2
  simp at h4
  rcases agI.1 hk with rfl|hk
  ·omega
  ·have:=h3 k hk;omega
theorem Yb{m:Ax}(h:Dk m=true){v:Ag}(hv:v∈m.votes):v.sens.Nodup:=by
 simp only[Dk,Lh,af1,decide_eq_true_eq,ag9]at h
 have h2:=h.1.1.2 v hv
 simp only[Ny,af1]at h2
 have h6:m.sens.length≤6:=h.1.1.1.1.1.1.1.1.1.1
 exact(bB h6 h2.1.1).1
theorem qE{m:Ax}{v:Ag}{val wrong:Int}{l rs:List Int}{many work:Int}(hm:Dk m=true)(hv:v∈m.votes)(hr:Ls m l=true)(hval:Jm val=true)(h:Kz m val wrong v.sens (l,0,0)=some (rs,many,work)):
 Ls m rs=true∧work=Eh m v.sens 0∧0≤work∧work≤6∧(Qh v val=true→many≤(Wu m v).1→Yw m rs v=true)∧(Qh v val=false→many≤(Wu m v).2→Yw m rs v=false):=by
 have h6:=aJ hm hv
 have hl:=Tc hr
 have hI:=Ud hm v hv
 have hnd:=aH hm hv
 have ha:=Xl m v.sens 0 (by omega) (by omega)
 obtain⟨⟨a1,a2,a3⟩,a4,a5,a6,a7,a8,a9,a10⟩:=Is m v val wrong v.sens l 0 0 rs many work 0 (Yb hm hv) (fun k hk=>by have:=hI k hk;omega) (by omega) (by omega) (by omega) (by omega) (by omega) (by omega) h
 have hall:rs.all Jm=true:=a3 (by simp only[Ls,af1]at hr;exact hr.2) hval
 refine⟨?_,a6,by omega,by omega,fun hd hle=>?_,fun hd hle=>?_⟩
 ·simp only[Ls,hall,aC6];rw[a1,hl];simp
 ·have:=a8 hd
  unfold Wu at hle
  rw[←a6]at hle
  unfold Yw
  rw[decide_eq_true_eq]
  split at hle
  ·simp only at hle;omega
  ·rw[Ar (by omega) (by omega)]at hle;simp only at hle;omega
 ·have:=a9 hd
  unfold Wu at hle
  rw[←a6]at hle
  unfold Yw
  rw[decide_eq_false_iff_not]
  split at hle
  ·simp only at hle;omega
  ·rw[Ar (by omega) (by omega),Ar (by omega) (by omega)]at hle;simp only at hle;omega
end Go.Proofs.Ytfkokgjfpojeoaa
