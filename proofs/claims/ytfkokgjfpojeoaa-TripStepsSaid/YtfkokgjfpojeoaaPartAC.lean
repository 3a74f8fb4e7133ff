/- The functions of the layer, walked. -/
import Derived.Test.YtfkokgjfpojeoaaPartAB
open List renaming length_map→aaJ,mem_cons→aa4,not_mem_nil→abL
open Int renaming reduceBEq→aaK
open Bool renaming and_eq_true→ab2
set_option linter.unusedSimpArgs false
set_option linter.unusedVariables false
namespace Go.Proofs.Ytfkokgjfpojeoaa
open Go.Ev Go
set_option maxRecDepth 100000
set_option maxHeartbeats 16000000
def exA:AV:=.agg [.imm 3 true [[.int .i64 0,.int .i64 100,.bool false],[.int .i64 0,.int .i64 100,.bool false],[.int .i64 0,.int .i64 100,.bool false]],.imm 4 false [[.imm 1 true [[.int .i64 0],[.int .i64 1],[.int .i64 2]],.int .i64 2,.int .i64 80,.bool true]],.imm 5 false [[.int .i64 0,.int .i64 1,.imm 2 true [[.int .i64 0,.bool true]],.int .i64 (-1),.int .i64 0],[.int .i64 1,.int .i64 2,.nils,.int .i64 (-1),.int .i64 1],[.int .i64 2,.int .i64 0,.imm 2 true [[.int .i64 0,.bool false]],.int .i64 0,.int .i64 2]],.int .i64 3,.int .i64 1,.int .i64 0,.imm 1 true [[.int .i64 3],[.int .i64 1],[.int .i64 0]]]
def exS:AV:=.imm 2 true [[.int .i64 1,.int .i64 (-1)],[.int .i64 1,.int .i64 0],[.int .i64 0,.int .i64 (-1)],[.int .i64 0,.int .i64 0]]
def E0:Ent:=⟨54,[exA],(.ret (.tup [.slr 2 0 0 4,.slr 2 1 0 4]),[.live 2 false false [[.slr 1 2 0 3,.int .i64 (-1)],[.slr 1 3 0 3,.int .i64 0],[.slr 1 4 0 3,.int .i64 (-1)],[.slr 1 5 0 3,.int .i64 0]],.live 2 true false [[.int .i64 1,.int .i64 (-1)],[.int .i64 1,.int .i64 0],[.int .i64 0,.int .i64 (-1)],[.int .i64 0,.int .i64 0]],.live 1 true false [[.int .i64 (-10000)],[.int .i64 (-10000)],[.int .i64 (-10000)]],.live 1 true false [[.int .i64 (-10000)],[.int .i64 (-10000)],[.int .i64 (-10000)]],.live 1 true false [[.int .i64 (-10000)],[.int .i64 0],[.int .i64 0]],.live 1 true false [[.int .i64 (-10000)],[.int .i64 0],[.int .i64 0]]])⟩
def E1:Ent:=⟨55,[exA,exS],(.ret (.tup [.slr 2 0 0 24,.mapr 1]),[.live 2 true false [[.int .i64 0,.int .i64 0],[.int .i64 1,.int .i64 0],[.int .i64 0,.int .i64 1],[.int .i64 1,.int .i64 1],[.int .i64 0,.int .i64 2],[.int .i64 2,.int .i64 0],[.int .i64 0,.int .i64 3],[.int .i64 2,.int .i64 1],[.int .i64 0,.int .i64 4],[.int .i64 2,.int .i64 2],[.int .i64 0,.int .i64 5],[.int .i64 2,.int .i64 3],[.int .i64 0,.int .i64 6],[.int .i64 2,.int .i64 4],[.int .i64 0,.int .i64 7],[.int .i64 2,.int .i64 5],[.int .i64 0,.int .i64 8],[.int .i64 2,.int .i64 6],[.int .i64 0,.int .i64 9],[.int .i64 2,.int .i64 7],[.int .i64 0,.int .i64 10],[.int .i64 2,.int .i64 8],[.int .i64 2,.int .i64 9],[.int .i64 2,.int .i64 10]],.lp [] .skip .skip [.agg [.int .i64 0,.int .i64 0],.agg [.int .i64 0,.int .i64 0,.int .i64 (-1)],.agg [.int .i64 1,.int .i64 0],.agg [.int .i64 0,.int .i64 0,.int .i64 0],.agg [.int .i64 0,.int .i64 1],.agg [.int .i64 0,.int .i64 0,.int .i64 2],.agg [.int .i64 1,.int .i64 1],.agg [.int .i64 1,.int .i64 0,.int .i64 0],.agg [.int .i64 0,.int .i64 2],.agg [.int .i64 0,.int .i64 1,.int .i64 2],.agg [.int .i64 2,.int .i64 0],.agg [.int .i64 1,.int .i64 1,.int .i64 0],.agg [.int .i64 0,.int .i64 3],.agg [.int .i64 0,.int .i64 2,.int .i64 2],.agg [.int .i64 2,.int .i64 1],.agg [.int .i64 2,.int .i64 0,.int .i64 0],.agg [.int .i64 0,.int .i64 4],.agg [.int .i64 0,.int .i64 3,.int .i64 2],.agg [.int .i64 2,.int .i64 2],.agg [.int .i64 2,.int .i64 1,.int .i64 0],.agg [.int .i64 0,.int .i64 5],.agg [.int .i64 0,.int .i64 4,.int .i64 2],.agg [.int .i64 2,.int .i64 3],.agg [.int .i64 2,.int .i64 2,.int .i64 0],.agg [.int .i64 0,.int .i64 6],.agg [.int .i64 0,.int .i64 5,.int .i64 2],.agg [.int .i64 2,.int .i64 4],.agg [.int .i64 2,.int .i64 3,.int .i64 0],.agg [.int .i64 0,.int .i64 7],.agg [.int .i64 0,.int .i64 6,.int .i64 2],.agg [.int .i64 2,.int .i64 5],.agg [.int .i64 2,.int .i64 4,.int .i64 0],.agg [.int .i64 0,.int .i64 8],.agg [.int .i64 0,.int .i64 7,.int .i64 2],.agg [.int .i64 2,.int .i64 6],.agg [.int .i64 2,.int .i64 5,.int .i64 0],.agg [.int .i64 0,.int .i64 9],.agg [.int .i64 0,.int .i64 8,.int .i64 2],.agg [.int .i64 2,.int .i64 7],.agg [.int .i64 2,.int .i64 6,.int .i64 0],.agg [.int .i64 0,.int .i64 10],.agg [.int .i64 0,.int .i64 9,.int .i64 2],.agg [.int .i64 2,.int .i64 8],.agg [.int .i64 2,.int .i64 7,.int .i64 0],.agg [.int .i64 2,.int .i64 9],.agg [.int .i64 2,.int .i64 8,.int .i64 0],.agg [.int .i64 2,.int .i64 10],.agg [.int .i64 2,.int .i64 9,.int .i64 0]] .map])⟩
def E2:Ent:=⟨30,[exA,.int .i64 2],(.ret (.tup [.slr 2 0 0 3,.int .i64 0]),[.live 2 false true [[.slr 1 1 0 3,.int .i64 (-1)],[.slr 1 2 0 3,.int .i64 (-1)],[.slr 1 3 0 3,.int .i64 (-1)]],.live 1 true false [[.int .i64 (-10000)],[.int .i64 (-10000)],[.int .i64 (-10000)]],.live 1 true false [[.int .i64 (-10000)],[.int .i64 (-10000)],[.int .i64 (-10000)]],.live 1 true false [[.int .i64 (-10000)],[.int .i64 (-10000)],[.int .i64 (-10000)]]])⟩
def E3:Ent:=⟨21,[exA,.int .i64 0,.imm 1 true [[.int .i64 2]]],(.ret (.tup [.int .i64 3,.int .i64 0]),[])⟩
def E4:Ent:=⟨21,[exA,.int .i64 0,.imm 1 true [[.int .i64 0]]],(.ret (.tup [.int .i64 0,.int .i64 5]),[])⟩
theorem aoV(f:Nat):pr f=none:=rfl
theorem aFU:(orc Try.prog pr2 400).call (.fn E0.f) E0.args []=some E0.res:=by kernel_rfl
theorem atF:om'.call (.fn E0.f) E0.args []=some E0.res:=agL (pr:=pr) (pr2:=pr2) rfl (fun f _=>aoV f) akJ aFU
def T1:adC:=amO pr2 [E0]
theorem aHI:∀f p,T1 f=some p→∀a h r,p a h=some r→om'.call (.fn f) a h=some r:=ah6 akJ (fun e he=>by
 simp only[aa4,abL,or_false]at he
 rcases he with rfl
 ·exact atF)
theorem aFM:(orc Try.prog T1 400).call (.fn E1.f) E1.args []=some E1.res:=by kernel_rfl
theorem ayS:om'.call (.fn E1.f) E1.args []=some E1.res:=agL (pr:=pr) (pr2:=T1) rfl (fun f _=>aoV f) aHI aFM
def T2:adC:=amO pr2 [E0,E1]
theorem aGY:∀f p,T2 f=some p→∀a h r,p a h=some r→om'.call (.fn f) a h=some r:=ah6 akJ (fun e he=>by
 simp only[aa4,abL,or_false]at he
 rcases he with rfl|rfl
 ·exact atF
 ·exact ayS)
theorem aDF:(orc Try.prog T2 400).call (.fn E2.f) E2.args []=some E2.res:=by kernel_rfl
theorem aHX:om'.call (.fn E2.f) E2.args []=some E2.res:=agL (pr:=pr) (pr2:=T2) rfl (fun f _=>aoV f) aGY aDF
def T3:adC:=amO pr2 [E0,E1]
theorem aG6:∀f p,T3 f=some p→∀a h r,p a h=some r→om'.call (.fn f) a h=some r:=ah6 akJ (fun e he=>by
 simp only[aa4,abL,or_false]at he
 rcases he with rfl|rfl
 ·exact atF
 ·exact ayS)
theorem aEG:(orc Try.prog T3 400).call (.fn E3.f) E3.args []=some E3.res:=by kernel_rfl
theorem aH7:om'.call (.fn E3.f) E3.args []=some E3.res:=agL (pr:=pr) (pr2:=T3) rfl (fun f _=>aoV f) aG6 aEG
def T4:adC:=amO pr2 [E0,E1]
theorem aIR:∀f p,T4 f=some p→∀a h r,p a h=some r→om'.call (.fn f) a h=some r:=ah6 akJ (fun e he=>by
 simp only[aa4,abL,or_false]at he
 rcases he with rfl|rfl
 ·exact atF
 ·exact ayS)
theorem aE2:(orc Try.prog T4 400).call (.fn E4.f) E4.args []=some E4.res:=by kernel_rfl
theorem aIG:om'.call (.fn E4.f) E4.args []=some E4.res:=agL (pr:=pr) (pr2:=T4) rfl (fun f _=>aoV f) aIR aE2
def TK:adC:=amO pr2 [E2,E3,E4]
theorem aHJ:∀f p,TK f=some p→∀a h r,p a h=some r→om'.call (.fn f) a h=some r:=ah6 akJ (fun e he=>by
 simp only[aa4,abL,or_false]at he
 rcases he with rfl|rfl|rfl
 ·exact aHX
 ·exact aH7
 ·exact aIG)
theorem avR:(orc Try.prog TK 400).call (.fn 13) [] []=some (.ret (.bool true),[]):=by kernel_rfl
theorem axC:om'.call (.fn 13) [] []=some (.ret (.bool true),[]):=agL (pr:=pr) (pr2:=TK) rfl (fun f _=>aoV f) aHJ avR
theorem aiO{α:Type}{f:α→List AV}{p:List AV→Prop}{q:α→Prop}(hf:∀r,p r→∃x,r=f x∧q x):∀{rows:List (List AV)},(∀r∈rows,p r)→∃l:List α,rows=l.map f∧∀x∈l,q x
 | [],_=>⟨[],rfl,fun x hx=>by simp at hx⟩
 |r::rows,h=>by
  obtain⟨x,rfl,hx⟩:=hf r (h r (List.mem_cons_self ..))
  obtain⟨l,rfl,hl⟩:=aiO hf (fun r hr=>h r (List.mem_cons_of_mem _ hr))
  exact⟨x::l,rfl,fun y hy=>by
   rcases aa4.1 hy with rfl|hy
   ·exact hx
   ·exact hl y hy⟩
def i64(n:Int):Prop:= -9223372036854775808≤n∧n≤9223372036854775807
theorem ad0{n:Nat}{r:List AV}(h:Ty Try.prog (n+1) 3 r):∃x,r=[.int .i64 x]∧i64 x:=by
 simp only[Ty,Try.underlying3]at h
 obtain⟨x,rfl,h1,h2⟩:=h
 exact⟨x,rfl,h1,h2⟩
theorem apF{n:Nat}{r:List AV}(h:Ty Try.prog (n+1) 4 r):∃x,r=[.bool x]:=by
 simp only[Ty,Try.underlying4]at h
 exact h
theorem apC{n:Nat}{r:List AV}(h:Ty Try.prog (n+2) 25 r):∃(nn:Bool) (l:List Int),r=[slv 1 true nn (l.map iv)]∧l.length≤maxLen∧∀x∈l,i64 x:=by
 unfold Ty at h
 simp only[Try.underlying25]at h
 obtain⟨nn,rows,rfl,hl,hrows⟩:=h
 obtain⟨l,rfl,hi⟩:=aiO (f:=iv) (q:=i64) (fun r hr=>by obtain⟨x,rfl,hx⟩:=ad0 hr;exact⟨x,rfl,hx⟩) hrows
 have e1:Try.prog.cellsOf 3=1:=by kernel_rfl
 have e2:flT Try.prog (n+1) 3=true:=by
  simp only[flT,Try.underlying3]
 rw[e1,e2]
 exact⟨nn,l,rfl,by simpa using hl,hi⟩
theorem aF8{n:Nat}{r:List AV}(h:Ty Try.prog (n+2) 50 r):∃x:aa9,r=x.cells∧True:=by
 unfold Ty at h
 simp only[Try.underlying50,apE]at h
 obtain⟨a0,b0,rfl,h0,a1,b1,rfl,h1,a2,b2,rfl,h2,rfl⟩:=h
 obtain⟨x0,rfl,_⟩:=ad0 h0
 obtain⟨x1,rfl,_⟩:=ad0 h1
 obtain⟨x2,rfl⟩:=apF h2
 exact⟨⟨x0,x1,x2⟩,rfl,trivial⟩
theorem aAT{n:Nat}{r:List AV}(h:Ty Try.prog (n+2) 56 r):∃x:aaR,r=x.cells∧True:=by
 unfold Ty at h
 simp only[Try.underlying56,apE]at h
 obtain⟨a0,b0,rfl,h0,a1,b1,rfl,h1,rfl⟩:=h
 obtain⟨x0,rfl,_⟩:=ad0 h0
 obtain⟨x1,rfl⟩:=apF h1
 exact⟨⟨x0,x1⟩,rfl,trivial⟩
theorem aAZ{n:Nat}{r:List AV}(h:Ty Try.prog (n+3) 48 r):∃x:aaQ,r=x.cells∧x.sens.length≤maxLen:=by
 unfold Ty at h
 simp only[Try.underlying48,apE]at h
 obtain⟨a0,b0,rfl,h0,a1,b1,rfl,h1,a2,b2,rfl,h2,a3,b3,rfl,h3,rfl⟩:=h
 obtain⟨nn,l,rfl,hl,_⟩:=apC h0
 obtain⟨x1,rfl,_⟩:=ad0 h1
 obtain⟨x2,rfl,_⟩:=ad0 h2
 obtain⟨x3,rfl⟩:=apF h3
 exact⟨⟨nn,l,x1,x2,x3⟩,rfl,hl⟩
theorem az4{n:Nat}{r:List AV}(h:Ty Try.prog (n+4) 59 r):∃x:aaP,r=x.cells∧x.wants.length≤maxLen:=by
 unfold Ty at h
 simp only[Try.underlying59,apE]at h
 obtain⟨a0,b0,rfl,h0,a1,b1,rfl,h1,a2,b2,rfl,h2,a3,b3,rfl,h3,a4,b4,rfl,h4,rfl⟩:=h
 obtain⟨x0,rfl,_⟩:=ad0 h0
 obtain⟨x1,rfl,_⟩:=ad0 h1
 obtain⟨x3,rfl,_⟩:=ad0 h3
 obtain⟨x4,rfl,_⟩:=ad0 h4
 unfold Ty at h2
 simp only[Try.underlying57]at h2
 obtain⟨nn,rows,rfl,hl,hrows⟩:=h2
 obtain⟨l,rfl,_⟩:=aiO (fun r hr=>aAT hr) hrows
 have e1:Try.prog.cellsOf 56=2:=by kernel_rfl
 have e2:flT Try.prog (n+2) 56=true:=by
  simp only[flT,Try.underlying56,Try.underlying3,Try.underlying4];rfl
 rw[e1,e2]
 exact⟨⟨x0,x1,nn,l,x3,x4⟩,rfl,by simpa using hl⟩
theorem aAO{n:Nat}{r:List AV}(h:Ty Try.prog (n+6) 27 r):∃m:aa8,r=m.cells∧m.small:=by
 unfold Ty at h
 simp only[Try.underlying27,apE]at h
 obtain⟨a0,b0,rfl,h0,a1,b1,rfl,h1,a2,b2,rfl,h2,a3,b3,rfl,h3,a4,b4,rfl,h4,a5,b5,rfl,h5,a6,b6,rfl,h6,rfl⟩:=h
 obtain⟨x3,rfl,_⟩:=ad0 h3
 obtain⟨x4,rfl,_⟩:=ad0 h4
 obtain⟨x5,rfl,_⟩:=ad0 h5
 obtain⟨n6,l6,rfl,hl6,_⟩:=apC h6
 unfold Ty at h0 h1 h2
 simp only[Try.underlying22]at h0
 simp only[Try.underlying23]at h1
 simp only[Try.underlying24]at h2
 obtain⟨n0,rows0,rfl,hl0,hrows0⟩:=h0
 obtain⟨n1,rows1,rfl,hl1,hrows1⟩:=h1
 obtain⟨n2,rows2,rfl,hl2,hrows2⟩:=h2
 obtain⟨l0,rfl,_⟩:=aiO (fun r hr=>aF8 hr) hrows0
 obtain⟨l1,rfl,hv⟩:=aiO (fun r hr=>aAZ hr) hrows1
 obtain⟨l2,rfl,hm⟩:=aiO (fun r hr=>az4 hr) hrows2
 have e0:Try.prog.cellsOf 50=3:=by kernel_rfl
 have e1:Try.prog.cellsOf 48=4:=by kernel_rfl
 have e2:Try.prog.cellsOf 59=5:=by kernel_rfl
 have f0:flT Try.prog (n+4) 50=true:=by
  simp only[flT,Try.underlying50,Try.underlying3,Try.underlying4];rfl
 have f1:flT Try.prog (n+4) 48=false:=by
  simp only[flT,Try.underlying48,Try.underlying25];simp
 have f2:flT Try.prog (n+4) 59=false:=by
  simp only[flT,Try.underlying59,Try.underlying57];simp
 rw[e0,e1,e2,f0,f1,f2]
 exact⟨⟨n0,l0,n1,l1,n2,l2,x3,x4,x5,n6,l6⟩,rfl,⟨by simpa using hl0,by simpa using hl1,by simpa using hl2,hl6,hv,hm⟩⟩
theorem aCE{n:Nat}{r:List AV}(h:Ty Try.prog (n+3) 29 r):∃x:agF,r=x.cells∧x.reads.length≤maxLen:=by
 unfold Ty at h
 simp only[Try.underlying29,apE]at h
 obtain⟨a0,b0,rfl,h0,a1,b1,rfl,h1,rfl⟩:=h
 obtain⟨nn,l,rfl,hl,_⟩:=apC h0
 obtain⟨x1,rfl,_⟩:=ad0 h1
 exact⟨⟨nn,l,x1⟩,rfl,hl⟩
theorem aAP{av:AV}(h:TyV Try.prog 7 27 av):∃m:aa8,av=.agg m.cells∧m.small:=by
 unfold TyV at h
 simp only[Try.underlying27]at h
 obtain⟨cs,rfl,h⟩:=h
 obtain⟨s,rfl,hs⟩:=aAO h
 exact⟨s,rfl,hs⟩
theorem aCA{av:AV}(h:TyV Try.prog 7 29 av):∃x:agF,av=.agg x.cells∧x.reads.length≤maxLen:=by
 unfold TyV at h
 simp only[Try.underlying29]at h
 obtain⟨cs,rfl,h⟩:=h
 obtain⟨s,rfl,hs⟩:=aCE h
 exact⟨s,rfl,hs⟩
theorem awY{av:AV}(h:TyV Try.prog 7 3 av):∃x,av=.int .i64 x∧i64 x:=by
 unfold TyV at h
 simp only[Try.underlying3]at h
 obtain⟨x,hx,hi⟩:=ad0 h
 simp only[List.cons.injEq,and_true]at hx
 exact⟨x,hx,hi⟩
theorem atW{m:aa8}(h:acX m=true):1≤m.states∧m.states≤8:=by
 simp only[acX,aiH,ab2,decide_eq_true_eq,inB]at h
 omega
theorem afM(a:Int):(a==a)=true:=by simp
theorem aEL{m:aa8}{st ag:Int}{y:agF}(h1:acX m=true)(h0:0≤st)(h2:st<m.states)(h3:0≤ag)(h4:ag≤10)(h5:ajO m y=true):okB m st ag y=true:=by
 have:=atW h1
 simp only[okB,h1,h5,Bool.true_and,Bool.and_true]
 rw[ahH (by omega) (by omega)]
 simp only[inB,ab2,decide_eq_true_eq]
 omega
theorem aqU(hk:om'.call (.fn 13) [] []=some (.ret (.bool true),[]))(m:aa8)(st ag:Int)(y:agF)(hs:m.small)(hl:y.reads.length≤maxLen):
 om'.call (.fn 3) [.agg [slv 3 true m.nS (m.sens.map aa9.cells),slv 4 false m.nV (m.votes.map aaQ.cells),slv 5 false m.nM (m.moves.map aaP.cells),.int .i64 m.states,.int .i64 m.cmds,.int .i64 m.bgn,slv 1 true m.nO (m.opn.map iv)],.int .i64 st,.int .i64 ag,.agg [slv 1 true y.nn (y.reads.map iv),.int .i64 y.cmd]] []=some (.ret (.bool true),[]):=by
 have h1:=az3 m hs
 have h2:=aE8 m st ag y hs hl
 have h3:=auR m hs
 have h4:=aDN m y hl
 have l1:decide ((20:Int)<(y.reads.length:Int))=decide (20<y.reads.length):=by rw[decide_eq_decide];omega
 cases c1:amN m with
 |false=>
  rw[c1]at h1
  (refine ce Try.func3 ?_;simp only[Try.f3];(have hb:=trivial;with_reducible repeat' (first|simp only[hb,Vc.down,seval,TY3.down,h1,hk]|refine fsp ?_ ?_<;>intro hb|refine fd ?_|fail)))
 |true=>
 rw[c1]at h1
 cases c2:decide (20<y.reads.length)with
 |true=>
  (refine ce Try.func3 ?_;simp only[Try.f3];(have hb:=trivial;with_reducible repeat' (first|simp only[hb,Vc.down,seval,TY3.down,h1,l1,c2,hk,aaJ]|refine fsp ?_ ?_<;>intro hb|refine fd ?_|fail)))
 |false=>
 cases hok:okB m st ag y with
 |false=>
  rw[if_neg (by simp[hok])]at h2
  cases c3:acX m with
  |false=>
   rw[c3]at h3
   (refine ce Try.func3 ?_;simp only[Try.f3];(have hb:=trivial;with_reducible repeat' (first|simp only[hb,Vc.down,seval,TY3.down,h1,h2,h3,hk,l1,c2,afM,aaK,aaJ]|refine fsp ?_ ?_<;>intro hb|refine fd ?_|fail)))
  |true=>
  rw[c3]at h3
  cases d1:decide (st<0)with
  |true=>
   (refine ce Try.func3 ?_;simp only[Try.f3];(have hb:=trivial;with_reducible repeat' (first|simp only[hb,Vc.down,seval,TY3.down,h1,h2,h3,hk,l1,c2,d1,afM,aaK,aaJ]|refine fsp ?_ ?_<;>intro hb|refine fd ?_|fail)))
  |false=>
  cases d2:decide (m.states≤st)with
  |true=>
   (refine ce Try.func3 ?_;simp only[Try.f3];(have hb:=trivial;with_reducible repeat' (first|simp only[hb,Vc.down,seval,TY3.down,h1,h2,h3,hk,l1,c2,d1,d2,afM,aaK,aaJ]|refine fsp ?_ ?_<;>intro hb|refine fd ?_|fail)))
  |false=>
  cases d3:decide (ag<0)with
  |true=>
   (refine ce Try.func3 ?_;simp only[Try.f3];(have hb:=trivial;with_reducible repeat' (first|simp only[hb,Vc.down,seval,TY3.down,h1,h2,h3,hk,l1,c2,d1,d2,d3,afM,aaK,aaJ]|refine fsp ?_ ?_<;>intro hb|refine fd ?_|fail)))
  |false=>
  cases d4:decide (10<ag)with
  |true=>
   (refine ce Try.func3 ?_;simp only[Try.f3];(have hb:=trivial;with_reducible repeat' (first|simp only[hb,Vc.down,seval,TY3.down,h1,h2,h3,hk,l1,c2,d1,d2,d3,d4,afM,aaK,aaJ]|refine fsp ?_ ?_<;>intro hb|refine fd ?_|fail)))
  |false=>
  cases c4:ajO m y with
  |false=>
   rw[c4]at h4
   (refine ce Try.func3 ?_;simp only[Try.f3];(have hb:=trivial;with_reducible repeat' (first|simp only[hb,Vc.down,seval,TY3.down,h1,h2,h3,h4,hk,l1,c2,d1,d2,d3,d4,afM,aaK,aaJ]|refine fsp ?_ ?_<;>intro hb|refine fd ?_|fail)))
  |true=>
   simp only[decide_eq_false_iff_not]at d1 d2 d3 d4
   rw[aEL c3 (by omega) (by omega) (by omega) (by omega) c4]at hok;cases hok
 |true=>
  rw[if_pos hok]at h2
  have hok':=hok
  simp only[okB,ab2]at hok'
  obtain⟨⟨⟨o1,o2⟩,o3⟩,o4⟩:=hok'
  have o5:=o4
  simp only[ajO,ab2]at o5
  have h5:=aDH m st ag y hs o1 o5.1
  have hst:=atW o1
  rw[ahH (by omega) (by omega)]at o2
  simp only[inB,ab2,decide_eq_true_eq]at o2 o3
  have d1:decide (st<0)=false:=by simp;omega
  have d2:decide (m.states≤st)=false:=by simp;omega
  have d3:decide (ag<0)=false:=by simp;omega
  have d4:decide (10<ag)=false:=by simp;omega
  rw[o1]at h3
  rw[o4]at h4
  (refine ce Try.func3 ?_;simp only[Try.f3];(have hb:=trivial;with_reducible repeat' (first|simp only[hb,Vc.down,seval,TY3.down,h1,h2,h3,h4,h5,hk,l1,c2,d1,d2,d3,d4,afM,aaK,aaJ]|refine fsp ?_ ?_<;>intro hb|refine fd ?_|fail)))
theorem arC(hk:om'.call (.fn 13) [] []=some (.ret (.bool true),[])):∀avs,avU Try.prog 7 Try.f3.params.toList avs→om'.call (.fn 3) avs []=some (.ret (.bool true),[]):=by
 intro avs h
 rw[show Try.f3.params.toList=[27,3,3,29]from rfl]at h
 match avs,h with
 | [a,b,c,d],h=>
   obtain⟨h1,h2,h3,h4,_⟩:=h
   obtain⟨s,rfl,hs⟩:=aAP h1
   obtain⟨x,rfl,_⟩:=awY h2
   obtain⟨y,rfl,_⟩:=awY h3
   obtain⟨z,rfl,hz⟩:=aCA h4
   exact aqU hk s x y z hs hz
 | [],h=>exact h.elim
 | [_],h=>exact h.2.elim
 | [_,_],h=>exact h.2.2.elim
 | [_,_,_],h=>exact h.2.2.2.elim
 |_::_::_::_::_::_,h=>exact h.2.2.2.2.elim
end Go.Proofs.Ytfkokgjfpojeoaa
