/- The functions of the layer, walked. -/
import Derived.Test.YtfkokgjfpojeoaaPartAB
open List renaming length_map→aaB,mem_cons→aaD,not_mem_nil→aaE
open Int renaming reduceBEq→aaC
open Bool renaming and_eq_true→aaG
set_option linter.unusedSimpArgs false
set_option linter.unusedVariables false
namespace Go.Proofs.Ytfkokgjfpojeoaa
open Go.Ev Go
set_option maxRecDepth 100000
set_option maxHeartbeats 16000000
def exA:AV:=.agg [.imm 3 true [[.int .i64 0,.int .i64 100,.bool false],[.int .i64 0,.int .i64 100,.bool false],[.int .i64 0,.int .i64 100,.bool false]],.imm 4 false [[.imm 1 true [[.int .i64 0],[.int .i64 1],[.int .i64 2]],.int .i64 2,.int .i64 80,.bool true]],.imm 5 false [[.int .i64 0,.int .i64 1,.imm 2 true [[.int .i64 0,.bool true]],.int .i64 (-1),.int .i64 0],[.int .i64 1,.int .i64 2,.nils,.int .i64 (-1),.int .i64 1],[.int .i64 2,.int .i64 0,.imm 2 true [[.int .i64 0,.bool false]],.int .i64 0,.int .i64 2]],.int .i64 3,.int .i64 1,.int .i64 0,.imm 1 true [[.int .i64 3],[.int .i64 1],[.int .i64 0]]]
def exS:AV:=.imm 2 true [[.int .i64 1,.int .i64 (-1)],[.int .i64 1,.int .i64 0],[.int .i64 0,.int .i64 (-1)],[.int .i64 0,.int .i64 0]]
def E0:uV:=⟨54,[exA],(.ret (.tup [.slr 2 0 0 4,.slr 2 1 0 4]),[.live 2 false false [[.slr 1 2 0 3,.int .i64 (-1)],[.slr 1 3 0 3,.int .i64 0],[.slr 1 4 0 3,.int .i64 (-1)],[.slr 1 5 0 3,.int .i64 0]],.live 2 true false [[.int .i64 1,.int .i64 (-1)],[.int .i64 1,.int .i64 0],[.int .i64 0,.int .i64 (-1)],[.int .i64 0,.int .i64 0]],.live 1 true false [[.int .i64 (-10000)],[.int .i64 (-10000)],[.int .i64 (-10000)]],.live 1 true false [[.int .i64 (-10000)],[.int .i64 (-10000)],[.int .i64 (-10000)]],.live 1 true false [[.int .i64 (-10000)],[.int .i64 0],[.int .i64 0]],.live 1 true false [[.int .i64 (-10000)],[.int .i64 0],[.int .i64 0]]])⟩
def E1:uV:=⟨55,[exA,exS],(.ret (.tup [.slr 2 0 0 24,.mapr 1]),[.live 2 true false [[.int .i64 0,.int .i64 0],[.int .i64 1,.int .i64 0],[.int .i64 0,.int .i64 1],[.int .i64 1,.int .i64 1],[.int .i64 0,.int .i64 2],[.int .i64 2,.int .i64 0],[.int .i64 0,.int .i64 3],[.int .i64 2,.int .i64 1],[.int .i64 0,.int .i64 4],[.int .i64 2,.int .i64 2],[.int .i64 0,.int .i64 5],[.int .i64 2,.int .i64 3],[.int .i64 0,.int .i64 6],[.int .i64 2,.int .i64 4],[.int .i64 0,.int .i64 7],[.int .i64 2,.int .i64 5],[.int .i64 0,.int .i64 8],[.int .i64 2,.int .i64 6],[.int .i64 0,.int .i64 9],[.int .i64 2,.int .i64 7],[.int .i64 0,.int .i64 10],[.int .i64 2,.int .i64 8],[.int .i64 2,.int .i64 9],[.int .i64 2,.int .i64 10]],.lp [] .skip .skip [.agg [.int .i64 0,.int .i64 0],.agg [.int .i64 0,.int .i64 0,.int .i64 (-1)],.agg [.int .i64 1,.int .i64 0],.agg [.int .i64 0,.int .i64 0,.int .i64 0],.agg [.int .i64 0,.int .i64 1],.agg [.int .i64 0,.int .i64 0,.int .i64 2],.agg [.int .i64 1,.int .i64 1],.agg [.int .i64 1,.int .i64 0,.int .i64 0],.agg [.int .i64 0,.int .i64 2],.agg [.int .i64 0,.int .i64 1,.int .i64 2],.agg [.int .i64 2,.int .i64 0],.agg [.int .i64 1,.int .i64 1,.int .i64 0],.agg [.int .i64 0,.int .i64 3],.agg [.int .i64 0,.int .i64 2,.int .i64 2],.agg [.int .i64 2,.int .i64 1],.agg [.int .i64 2,.int .i64 0,.int .i64 0],.agg [.int .i64 0,.int .i64 4],.agg [.int .i64 0,.int .i64 3,.int .i64 2],.agg [.int .i64 2,.int .i64 2],.agg [.int .i64 2,.int .i64 1,.int .i64 0],.agg [.int .i64 0,.int .i64 5],.agg [.int .i64 0,.int .i64 4,.int .i64 2],.agg [.int .i64 2,.int .i64 3],.agg [.int .i64 2,.int .i64 2,.int .i64 0],.agg [.int .i64 0,.int .i64 6],.agg [.int .i64 0,.int .i64 5,.int .i64 2],.agg [.int .i64 2,.int .i64 4],.agg [.int .i64 2,.int .i64 3,.int .i64 0],.agg [.int .i64 0,.int .i64 7],.agg [.int .i64 0,.int .i64 6,.int .i64 2],.agg [.int .i64 2,.int .i64 5],.agg [.int .i64 2,.int .i64 4,.int .i64 0],.agg [.int .i64 0,.int .i64 8],.agg [.int .i64 0,.int .i64 7,.int .i64 2],.agg [.int .i64 2,.int .i64 6],.agg [.int .i64 2,.int .i64 5,.int .i64 0],.agg [.int .i64 0,.int .i64 9],.agg [.int .i64 0,.int .i64 8,.int .i64 2],.agg [.int .i64 2,.int .i64 7],.agg [.int .i64 2,.int .i64 6,.int .i64 0],.agg [.int .i64 0,.int .i64 10],.agg [.int .i64 0,.int .i64 9,.int .i64 2],.agg [.int .i64 2,.int .i64 8],.agg [.int .i64 2,.int .i64 7,.int .i64 0],.agg [.int .i64 2,.int .i64 9],.agg [.int .i64 2,.int .i64 8,.int .i64 0],.agg [.int .i64 2,.int .i64 10],.agg [.int .i64 2,.int .i64 9,.int .i64 0]] .map])⟩
def E2:uV:=⟨30,[exA,.int .i64 2],(.ret (.tup [.slr 2 0 0 3,.int .i64 0]),[.live 2 false true [[.slr 1 1 0 3,.int .i64 (-1)],[.slr 1 2 0 3,.int .i64 (-1)],[.slr 1 3 0 3,.int .i64 (-1)]],.live 1 true false [[.int .i64 (-10000)],[.int .i64 (-10000)],[.int .i64 (-10000)]],.live 1 true false [[.int .i64 (-10000)],[.int .i64 (-10000)],[.int .i64 (-10000)]],.live 1 true false [[.int .i64 (-10000)],[.int .i64 (-10000)],[.int .i64 (-10000)]]])⟩
def E3:uV:=⟨21,[exA,.int .i64 0,.imm 1 true [[.int .i64 2]]],(.ret (.tup [.int .i64 3,.int .i64 0]),[])⟩
def E4:uV:=⟨21,[exA,.int .i64 0,.imm 1 true [[.int .i64 0]]],(.ret (.tup [.int .i64 0,.int .i64 5]),[])⟩
theorem Zw(f:Nat):pr f=none:=rfl
theorem xY:(Jg Try.prog pr2 400).call (.fn E0.f) E0.args []=some E0.res:=by kernel_rfl
theorem iE:Eo.call (.fn E0.f) E0.args []=some E0.res:=Lj (pr:=pr) (pr2:=pr2) rfl (fun f _=>Zw f) Uo xY
def T1:Ey:=Xw pr2 [E0]
theorem akZ:∀f p,T1 f=some p→∀a h r,p a h=some r→Eo.call (.fn f) a h=some r:=Oo Uo (fun e he=>by
 simp only[aaD,aaE,or_false]at he
 rcases he with rfl
 ·exact iE)
theorem zL:(Jg Try.prog T1 400).call (.fn E1.f) E1.args []=some E1.res:=by kernel_rfl
theorem lN:Eo.call (.fn E1.f) E1.args []=some E1.res:=Lj (pr:=pr) (pr2:=T1) rfl (fun f _=>Zw f) akZ zL
def T2:Ey:=Xw pr2 [E0,E1]
theorem aiP:∀f p,T2 f=some p→∀a h r,p a h=some r→Eo.call (.fn f) a h=some r:=Oo Uo (fun e he=>by
 simp only[aaD,aaE,or_false]at he
 rcases he with rfl|rfl
 ·exact iE
 ·exact lN)
theorem xM:(Jg Try.prog T2 400).call (.fn E2.f) E2.args []=some E2.res:=by kernel_rfl
theorem acH:Eo.call (.fn E2.f) E2.args []=some E2.res:=Lj (pr:=pr) (pr2:=T2) rfl (fun f _=>Zw f) aiP xM
def T3:Ey:=Xw pr2 [E0,E1]
theorem alX:∀f p,T3 f=some p→∀a h r,p a h=some r→Eo.call (.fn f) a h=some r:=Oo Uo (fun e he=>by
 simp only[aaD,aaE,or_false]at he
 rcases he with rfl|rfl
 ·exact iE
 ·exact lN)
theorem zB:(Jg Try.prog T3 400).call (.fn E3.f) E3.args []=some E3.res:=by kernel_rfl
theorem ab7:Eo.call (.fn E3.f) E3.args []=some E3.res:=Lj (pr:=pr) (pr2:=T3) rfl (fun f _=>Zw f) alX zB
def T4:Ey:=Xw pr2 [E0,E1]
theorem afF:∀f p,T4 f=some p→∀a h r,p a h=some r→Eo.call (.fn f) a h=some r:=Oo Uo (fun e he=>by
 simp only[aaD,aaE,or_false]at he
 rcases he with rfl|rfl
 ·exact iE
 ·exact lN)
theorem wZ:(Jg Try.prog T4 400).call (.fn E4.f) E4.args []=some E4.res:=by kernel_rfl
theorem azY:Eo.call (.fn E4.f) E4.args []=some E4.res:=Lj (pr:=pr) (pr2:=T4) rfl (fun f _=>Zw f) afF wZ
def TK:Ey:=Xw pr2 [E2,E3,E4]
theorem alN:∀f p,TK f=some p→∀a h r,p a h=some r→Eo.call (.fn f) a h=some r:=Oo Uo (fun e he=>by
 simp only[aaD,aaE,or_false]at he
 rcases he with rfl|rfl|rfl
 ·exact acH
 ·exact ab7
 ·exact azY)
theorem jR:(Jg Try.prog TK 400).call (.fn 13) [] []=some (.ret (.bool true),[]):=by kernel_rfl
theorem nD:Eo.call (.fn 13) [] []=some (.ret (.bool true),[]):=Lj (pr:=pr) (pr2:=TK) rfl (fun f _=>Zw f) alN jR
theorem Pq{α:Type}{f:α→List AV}{p:List AV→Prop}{q:α→Prop}(hf:∀r,p r→∃x,r=f x∧q x):∀{rows:List (List AV)},(∀r∈rows,p r)→∃l:List α,rows=l.map f∧∀x∈l,q x
 | [],_=>⟨[],rfl,fun x hx=>by simp at hx⟩
 |r::rows,h=>by
  obtain⟨x,rfl,hx⟩:=hf r (h r (List.mem_cons_self ..))
  obtain⟨l,rfl,hl⟩:=Pq hf (fun r hr=>h r (List.mem_cons_of_mem _ hr))
  exact⟨x::l,rfl,fun y hy=>by
   rcases aaD.1 hy with rfl|hy
   ·exact hx
   ·exact hl y hy⟩
def i64(n:Int):Prop:= -9223372036854775808≤n∧n≤9223372036854775807
theorem Gq{n:Nat}{r:List AV}(h:Ty Try.prog (n+1) 3 r):∃x,r=[.int .i64 x]∧i64 x:=by
 simp only[Ty,Try.underlying3]at h
 obtain⟨x,rfl,h1,h2⟩:=h
 exact⟨x,rfl,h1,h2⟩
theorem aP{n:Nat}{r:List AV}(h:Ty Try.prog (n+1) 4 r):∃x,r=[.bool x]:=by
 simp only[Ty,Try.underlying4]at h
 exact h
theorem aS{n:Nat}{r:List AV}(h:Ty Try.prog (n+2) 25 r):∃(nn:Bool) (l:List Int),r=[Ae 1 true nn (l.map iv)]∧l.length≤maxLen∧∀x∈l,i64 x:=by
 unfold Ty at h
 simp only[Try.underlying25]at h
 obtain⟨nn,rows,rfl,hl,hrows⟩:=h
 obtain⟨l,rfl,hi⟩:=Pq (f:=iv) (q:=i64) (fun r hr=>by obtain⟨x,rfl,hx⟩:=Gq hr;exact⟨x,rfl,hx⟩) hrows
 have e1:Try.prog.cellsOf 3=1:=by kernel_rfl
 have e2:Wn Try.prog (n+1) 3=true:=by
  simp only[Wn,Try.underlying3]
 rw[e1,e2]
 exact⟨nn,l,rfl,by simpa using hl,hi⟩
theorem xP{n:Nat}{r:List AV}(h:Ty Try.prog (n+2) 50 r):∃x:Bc,r=x.cells∧True:=by
 unfold Ty at h
 simp only[Try.underlying50,aX]at h
 obtain⟨a0,b0,rfl,h0,a1,b1,rfl,h1,a2,b2,rfl,h2,rfl⟩:=h
 obtain⟨x0,rfl,_⟩:=Gq h0
 obtain⟨x1,rfl,_⟩:=Gq h1
 obtain⟨x2,rfl⟩:=aP h2
 exact⟨⟨x0,x1,x2⟩,rfl,trivial⟩
theorem tY{n:Nat}{r:List AV}(h:Ty Try.prog (n+2) 56 r):∃x:An,r=x.cells∧True:=by
 unfold Ty at h
 simp only[Try.underlying56,aX]at h
 obtain⟨a0,b0,rfl,h0,a1,b1,rfl,h1,rfl⟩:=h
 obtain⟨x0,rfl,_⟩:=Gq h0
 obtain⟨x1,rfl⟩:=aP h1
 exact⟨⟨x0,x1⟩,rfl,trivial⟩
theorem sX{n:Nat}{r:List AV}(h:Ty Try.prog (n+3) 48 r):∃x:Am,r=x.cells∧x.sens.length≤maxLen:=by
 unfold Ty at h
 simp only[Try.underlying48,aX]at h
 obtain⟨a0,b0,rfl,h0,a1,b1,rfl,h1,a2,b2,rfl,h2,a3,b3,rfl,h3,rfl⟩:=h
 obtain⟨nn,l,rfl,hl,_⟩:=aS h0
 obtain⟨x1,rfl,_⟩:=Gq h1
 obtain⟨x2,rfl,_⟩:=Gq h2
 obtain⟨x3,rfl⟩:=aP h3
 exact⟨⟨nn,l,x1,x2,x3⟩,rfl,hl⟩
theorem tQ{n:Nat}{r:List AV}(h:Ty Try.prog (n+4) 59 r):∃x:Ak,r=x.cells∧x.wants.length≤maxLen:=by
 unfold Ty at h
 simp only[Try.underlying59,aX]at h
 obtain⟨a0,b0,rfl,h0,a1,b1,rfl,h1,a2,b2,rfl,h2,a3,b3,rfl,h3,a4,b4,rfl,h4,rfl⟩:=h
 obtain⟨x0,rfl,_⟩:=Gq h0
 obtain⟨x1,rfl,_⟩:=Gq h1
 obtain⟨x3,rfl,_⟩:=Gq h3
 obtain⟨x4,rfl,_⟩:=Gq h4
 unfold Ty at h2
 simp only[Try.underlying57]at h2
 obtain⟨nn,rows,rfl,hl,hrows⟩:=h2
 obtain⟨l,rfl,_⟩:=Pq (fun r hr=>tY hr) hrows
 have e1:Try.prog.cellsOf 56=2:=by kernel_rfl
 have e2:Wn Try.prog (n+2) 56=true:=by
  simp only[Wn,Try.underlying56,Try.underlying3,Try.underlying4];rfl
 rw[e1,e2]
 exact⟨⟨x0,x1,nn,l,x3,x4⟩,rfl,by simpa using hl⟩
theorem sF{n:Nat}{r:List AV}(h:Ty Try.prog (n+6) 27 r):∃m:Az,r=m.cells∧m.small:=by
 unfold Ty at h
 simp only[Try.underlying27,aX]at h
 obtain⟨a0,b0,rfl,h0,a1,b1,rfl,h1,a2,b2,rfl,h2,a3,b3,rfl,h3,a4,b4,rfl,h4,a5,b5,rfl,h5,a6,b6,rfl,h6,rfl⟩:=h
 obtain⟨x3,rfl,_⟩:=Gq h3
 obtain⟨x4,rfl,_⟩:=Gq h4
 obtain⟨x5,rfl,_⟩:=Gq h5
 obtain⟨n6,l6,rfl,hl6,_⟩:=aS h6
 unfold Ty at h0 h1 h2
 simp only[Try.underlying22]at h0
 simp only[Try.underlying23]at h1
 simp only[Try.underlying24]at h2
 obtain⟨n0,rows0,rfl,hl0,hrows0⟩:=h0
 obtain⟨n1,rows1,rfl,hl1,hrows1⟩:=h1
 obtain⟨n2,rows2,rfl,hl2,hrows2⟩:=h2
 obtain⟨l0,rfl,_⟩:=Pq (fun r hr=>xP hr) hrows0
 obtain⟨l1,rfl,hv⟩:=Pq (fun r hr=>sX hr) hrows1
 obtain⟨l2,rfl,hm⟩:=Pq (fun r hr=>tQ hr) hrows2
 have e0:Try.prog.cellsOf 50=3:=by kernel_rfl
 have e1:Try.prog.cellsOf 48=4:=by kernel_rfl
 have e2:Try.prog.cellsOf 59=5:=by kernel_rfl
 have f0:Wn Try.prog (n+4) 50=true:=by
  simp only[Wn,Try.underlying50,Try.underlying3,Try.underlying4];rfl
 have f1:Wn Try.prog (n+4) 48=false:=by
  simp only[Wn,Try.underlying48,Try.underlying25];simp
 have f2:Wn Try.prog (n+4) 59=false:=by
  simp only[Wn,Try.underlying59,Try.underlying57];simp
 rw[e0,e1,e2,f0,f1,f2]
 exact⟨⟨n0,l0,n1,l1,n2,l2,x3,x4,x5,n6,l6⟩,rfl,⟨by simpa using hl0,by simpa using hl1,by simpa using hl2,hl6,hv,hm⟩⟩
theorem sC{n:Nat}{r:List AV}(h:Ty Try.prog (n+3) 29 r):∃x:Lo,r=x.cells∧x.reads.length≤maxLen:=by
 unfold Ty at h
 simp only[Try.underlying29,aX]at h
 obtain⟨a0,b0,rfl,h0,a1,b1,rfl,h1,rfl⟩:=h
 obtain⟨nn,l,rfl,hl,_⟩:=aS h0
 obtain⟨x1,rfl,_⟩:=Gq h1
 exact⟨⟨nn,l,x1⟩,rfl,hl⟩
theorem sK{av:AV}(h:eM Try.prog 7 27 av):∃m:Az,av=.agg m.cells∧m.small:=by
 unfold eM at h
 simp only[Try.underlying27]at h
 obtain⟨cs,rfl,h⟩:=h
 obtain⟨s,rfl,hs⟩:=sF h
 exact⟨s,rfl,hs⟩
theorem sU{av:AV}(h:eM Try.prog 7 29 av):∃x:Lo,av=.agg x.cells∧x.reads.length≤maxLen:=by
 unfold eM at h
 simp only[Try.underlying29]at h
 obtain⟨cs,rfl,h⟩:=h
 obtain⟨s,rfl,hs⟩:=sC h
 exact⟨s,rfl,hs⟩
theorem nB{av:AV}(h:eM Try.prog 7 3 av):∃x,av=.int .i64 x∧i64 x:=by
 unfold eM at h
 simp only[Try.underlying3]at h
 obtain⟨x,hx,hi⟩:=Gq h
 simp only[List.cons.injEq,and_true]at hx
 exact⟨x,hx,hi⟩
theorem iF{m:Az}(h:Ei m=true):1≤m.states∧m.states≤8:=by
 simp only[Ei,Ou,aaG,decide_eq_true_eq,Ls]at h
 omega
theorem Je(a:Int):(a==a)=true:=by simp
theorem vR{m:Az}{st ag:Int}{y:Lo}(h1:Ei m=true)(h0:0≤st)(h2:st<m.states)(h3:0≤ag)(h4:ag≤10)(h5:Rx m y=true):vD m st ag y=true:=by
 have:=iF h1
 simp only[vD,h1,h5,Bool.true_and,Bool.and_true]
 rw[Ly (by omega) (by omega)]
 simp only[Ls,aaG,decide_eq_true_eq]
 omega
theorem cC(hk:Eo.call (.fn 13) [] []=some (.ret (.bool true),[]))(m:Az)(st ag:Int)(y:Lo)(hs:m.small)(hl:y.reads.length≤maxLen):
 Eo.call (.fn 3) [.agg [Ae 3 true m.nS (m.sens.map Bc.cells),Ae 4 false m.nV (m.votes.map Am.cells),Ae 5 false m.nM (m.moves.map Ak.cells),.int .i64 m.states,.int .i64 m.cmds,.int .i64 m.bgn,Ae 1 true m.nO (m.opn.map iv)],.int .i64 st,.int .i64 ag,.agg [Ae 1 true y.nn (y.reads.map iv),.int .i64 y.cmd]] []=some (.ret (.bool true),[]):=by
 have h1:=rH m hs
 have h2:=vV m st ag y hs hl
 have h3:=iZ m hs
 have h4:=zH m y hl
 have l1:decide ((20:Int)<(y.reads.length:Int))=decide (20<y.reads.length):=by rw[decide_eq_decide];omega
 cases c1:Ys m with
 |false=>
  rw[c1]at h1
  (refine ce Try.func3 ?_;simp only[Try.f3];(have hb:=trivial;with_reducible repeat' (first|simp only[hb,Vc.down,seval,tA.down,h1,hk]|refine Aw ?_ ?_<;>intro hb|refine fd ?_|fail)))
 |true=>
 rw[c1]at h1
 cases c2:decide (20<y.reads.length)with
 |true=>
  (refine ce Try.func3 ?_;simp only[Try.f3];(have hb:=trivial;with_reducible repeat' (first|simp only[hb,Vc.down,seval,tA.down,h1,l1,c2,hk,aaB]|refine Aw ?_ ?_<;>intro hb|refine fd ?_|fail)))
 |false=>
 cases hok:vD m st ag y with
 |false=>
  rw[if_neg (by simp[hok])]at h2
  cases c3:Ei m with
  |false=>
   rw[c3]at h3
   (refine ce Try.func3 ?_;simp only[Try.f3];(have hb:=trivial;with_reducible repeat' (first|simp only[hb,Vc.down,seval,tA.down,h1,h2,h3,hk,l1,c2,Je,aaC,aaB]|refine Aw ?_ ?_<;>intro hb|refine fd ?_|fail)))
  |true=>
  rw[c3]at h3
  cases d1:decide (st<0)with
  |true=>
   (refine ce Try.func3 ?_;simp only[Try.f3];(have hb:=trivial;with_reducible repeat' (first|simp only[hb,Vc.down,seval,tA.down,h1,h2,h3,hk,l1,c2,d1,Je,aaC,aaB]|refine Aw ?_ ?_<;>intro hb|refine fd ?_|fail)))
  |false=>
  cases d2:decide (m.states≤st)with
  |true=>
   (refine ce Try.func3 ?_;simp only[Try.f3];(have hb:=trivial;with_reducible repeat' (first|simp only[hb,Vc.down,seval,tA.down,h1,h2,h3,hk,l1,c2,d1,d2,Je,aaC,aaB]|refine Aw ?_ ?_<;>intro hb|refine fd ?_|fail)))
  |false=>
  cases d3:decide (ag<0)with
  |true=>
   (refine ce Try.func3 ?_;simp only[Try.f3];(have hb:=trivial;with_reducible repeat' (first|simp only[hb,Vc.down,seval,tA.down,h1,h2,h3,hk,l1,c2,d1,d2,d3,Je,aaC,aaB]|refine Aw ?_ ?_<;>intro hb|refine fd ?_|fail)))
  |false=>
  cases d4:decide (10<ag)with
  |true=>
   (refine ce Try.func3 ?_;simp only[Try.f3];(have hb:=trivial;with_reducible repeat' (first|simp only[hb,Vc.down,seval,tA.down,h1,h2,h3,hk,l1,c2,d1,d2,d3,d4,Je,aaC,aaB]|refine Aw ?_ ?_<;>intro hb|refine fd ?_|fail)))
  |false=>
  cases c4:Rx m y with
  |false=>
   rw[c4]at h4
   (refine ce Try.func3 ?_;simp only[Try.f3];(have hb:=trivial;with_reducible repeat' (first|simp only[hb,Vc.down,seval,tA.down,h1,h2,h3,h4,hk,l1,c2,d1,d2,d3,d4,Je,aaC,aaB]|refine Aw ?_ ?_<;>intro hb|refine fd ?_|fail)))
  |true=>
   simp only[decide_eq_false_iff_not]at d1 d2 d3 d4
   rw[vR c3 (by omega) (by omega) (by omega) (by omega) c4]at hok;cases hok
 |true=>
  rw[if_pos hok]at h2
  have hok':=hok
  simp only[vD,aaG]at hok'
  obtain⟨⟨⟨o1,o2⟩,o3⟩,o4⟩:=hok'
  have o5:=o4
  simp only[Rx,aaG]at o5
  have h5:=xN m st ag y hs o1 o5.1
  have hst:=iF o1
  rw[Ly (by omega) (by omega)]at o2
  simp only[Ls,aaG,decide_eq_true_eq]at o2 o3
  have d1:decide (st<0)=false:=by simp;omega
  have d2:decide (m.states≤st)=false:=by simp;omega
  have d3:decide (ag<0)=false:=by simp;omega
  have d4:decide (10<ag)=false:=by simp;omega
  rw[o1]at h3
  rw[o4]at h4
  (refine ce Try.func3 ?_;simp only[Try.f3];(have hb:=trivial;with_reducible repeat' (first|simp only[hb,Vc.down,seval,tA.down,h1,h2,h3,h4,h5,hk,l1,c2,d1,d2,d3,d4,Je,aaC,aaB]|refine Aw ?_ ?_<;>intro hb|refine fd ?_|fail)))
theorem cI(hk:Eo.call (.fn 13) [] []=some (.ret (.bool true),[])):∀avs,jV Try.prog 7 Try.f3.params.toList avs→Eo.call (.fn 3) avs []=some (.ret (.bool true),[]):=by
 intro avs h
 rw[show Try.f3.params.toList=[27,3,3,29]from rfl]at h
 match avs,h with
 | [a,b,c,d],h=>
   obtain⟨h1,h2,h3,h4,_⟩:=h
   obtain⟨s,rfl,hs⟩:=sK h1
   obtain⟨x,rfl,_⟩:=nB h2
   obtain⟨y,rfl,_⟩:=nB h3
   obtain⟨z,rfl,hz⟩:=sU h4
   exact cC hk s x y z hs hz
 | [],h=>exact h.elim
 | [_],h=>exact h.2.elim
 | [_,_],h=>exact h.2.2.elim
 | [_,_,_],h=>exact h.2.2.2.elim
 |_::_::_::_::_::_,h=>exact h.2.2.2.2.elim
end Go.Proofs.Ytfkokgjfpojeoaa
