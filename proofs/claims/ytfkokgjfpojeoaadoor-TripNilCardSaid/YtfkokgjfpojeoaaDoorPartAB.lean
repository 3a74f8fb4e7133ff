/- The functions of the layer, walked. -/
import Derived.Test.YtfkokgjfpojeoaaDoorLibD
import Derived.Test.YtfkokgjfpojeoaaDoorPartAA
open List renaming mem_cons→aaJ,not_mem_nil→afM,all_eq_true→amC
open Option renaming bind_eq_some_iff→abJ,map_eq_some_iff→afC
open Bool renaming and_eq_true→akQ
set_option linter.unusedSimpArgs false
set_option linter.unusedVariables false
namespace Go.Proofs.YtfkokgjfpojeoaaDoor
open Go.Ev Go
set_option maxRecDepth 100000
set_option maxHeartbeats 16000000
theorem aL{α:Type}{d:List AV→Option α}{f:α→List AV}(hd:∀cs x,d cs=some x→cs=f x):∀{rows:List (List AV)} {l:List α},Bd d rows=some l→rows=l.map f
 | [],l,h=>by simp[Bd]at h;subst h;rfl
 |r::rows,l,h=>by
  simp only[Bd,abJ,afC]at h
  obtain⟨x,h1,l',h2,rfl⟩:=h
  rw[hd r x h1,aL hd h2];rfl
def pR{α:Type}(n:Nat)(fl:Bool)(d:List AV→Option α):AV→Option (Bool × List α)
 | .nils=>some (false,[])
 | .imm n' fl' rows=>if n'=n∧fl'=fl then(Bd d rows).map fun l=>(true,l)else none
 |_=>none
theorem Oa{α:Type}{n:Nat}{fl:Bool}{d:List AV→Option α}{f:α→List AV}(hd:∀cs x,d cs=some x→cs=f x){v:AV}{x:Bool × List α}(h:pR n fl d v=some x):v=An n fl x.1 (x.2.map f):=by
 unfold pR at h
 split at h
 ·cases h;rfl
 ·split at h
  ·rename_i hq
   obtain⟨rfl,rfl⟩:=hq
   obtain⟨l,h1,rfl⟩:=afC.1 h
   rw[aL hd h1]
   cases l<;>rfl
  ·cases h
 ·cases h
def lH:List AV→Option Int
 | [.int .i64 a]=>some a
 |_=>none
theorem Zt(cs:List AV)(x:Int)(h:lH cs=some x):cs=iv x:=by
 unfold lH at h
 split at h
 ·cases h;rfl
 ·cases h
def xG:List AV→Option Eh
 | [.int .i64 a,.int .i64 b,.bool c]=>some ⟨a,b,c⟩
 |_=>none
theorem pQ(cs:List AV)(x:Eh)(h:xG cs=some x):cs=x.cells:=by
 unfold xG at h
 split at h
 ·cases h;rfl
 ·cases h
def jU:List AV→Option Bf
 | [l,.int .i64 a,.int .i64 b,.bool c]=>(pR 1 true lH l).map fun x=>⟨x.1,x.2,a,b,c⟩
 |_=>none
theorem oO(cs:List AV)(x:Bf)(h:jU cs=some x):cs=x.cells:=by
 unfold jU at h
 split at h
 ·obtain⟨y,h1,rfl⟩:=afC.1 h
  rw[Oa Zt h1];rfl
 ·cases h
def nC:List AV→Option Ao
 | [.int .i64 a,.bool c]=>some ⟨a,c⟩
 |_=>none
theorem nZ(cs:List AV)(x:Ao)(h:nC cs=some x):cs=x.cells:=by
 unfold nC at h
 split at h
 ·cases h;rfl
 ·cases h
def kK:List AV→Option Ax
 | [.int .i64 a,.int .i64 b,l,.int .i64 c,.int .i64 d]=>(pR 2 true nC l).map fun x=>⟨a,b,x.1,x.2,c,d⟩
 |_=>none
theorem oV(cs:List AV)(x:Ax)(h:kK cs=some x):cs=x.cells:=by
 unfold kK at h
 split at h
 ·obtain⟨y,h1,rfl⟩:=afC.1 h
  rw[Oa nZ h1];rfl
 ·cases h
def aN:List AV→Option Ek
 | [s,v,x,.int .i64 a,.int .i64 b,.int .i64 c,o]=>(pR 3 true xG s).bind fun s=>(pR 4 false jU v).bind fun v=>(pR 5 false kK x).bind fun x=>(pR 1 true lH o).map fun o=>⟨s.1,s.2,v.1,v.2,x.1,x.2,a,b,c,o.1,o.2⟩
 |_=>none
theorem Xe(cs:List AV)(x:Ek)(h:aN cs=some x):cs=x.cells:=by
 unfold aN at h
 split at h
 ·simp only[abJ,afC]at h
  obtain⟨s,h1,v,h2,y,h3,o,h4,rfl⟩:=h
  rw[Oa pQ h1,Oa oO h2,Oa oV h3,Oa Zt h4]
 ·cases h
def Ve(m:Ek):Bool:=decide (m.sens.length≤1000)&&decide (m.votes.length≤1000)&&decide (m.moves.length≤1000)&&decide (m.opn.length≤1000)&&m.votes.all (fun v=>decide (v.sens.length≤1000))&&m.moves.all (fun x=>decide (x.wants.length≤1000))
theorem Qs{m:Ek}(h:Ve m=true):m.small:=by
 simp only[Ve,akQ,decide_eq_true_eq,amC]at h
 obtain⟨⟨⟨⟨⟨a,b⟩,c⟩,d⟩,e⟩,f⟩:=h
 exact⟨by unfold maxLen;omega,by unfold maxLen;omega,by unfold maxLen;omega,by unfold maxLen;omega,fun v hv=>by have:=e v hv;unfold maxLen;omega,fun v hv=>by have:=f v hv;unfold maxLen;omega⟩
def mR:List AV→Aa→Option (Dj × Aa)
 | [.agg cs],[]=>(aN cs).bind fun m=>if Ve m=true then some (.ret (.bool (Xh m)),[])else none
 |_,_=>none
def tN:List AV→Aa→Option (Dj × Aa)
 | [.agg cs,.agg [.int .i64 st,.int .i64 ag],.agg [.int .i64 bits,.int .i64 com]],[]=>(aN cs).bind fun m=>if(Ve m&&m.moves.all fun x=>x.wants.all fun w=>decide (0≤w.vote))=true then
     (match Wi st ag bits com m.moves with
       |(a,b)=>some (.ret (.agg [.int .i64 a,.int .i64 b]),[]))else none
 |_,_=>none
def lD:List AV→Aa→Option (Dj × Aa)
 | [.agg cs,l],[]=>(aN cs).bind fun m=>(pR 1 true lH l).bind fun l=>if(Ve m&&decide (l.2.length=m.sens.length)&&m.votes.all fun v=>v.sens.all fun k=>decide (0≤k)&&decide (k.toNat<m.sens.length))=true then
     some (.ret (.int .i64 (Yb m l.2 m.votes 0 0)),[])else none
 |_,_=>none
def pr2:Dy:=⟨fun f=>if f=27 then some mR else if f=10 then some tN else if f=11 then some lD else pr f,pr.md⟩
theorem tO(f:Nat)(h:pr2 f=none):pr f=none:=by
 simp only[pr2]at h
 split at h
 ·cases h
 ·split at h
  ·cases h
  ·split at h
   ·cases h
   ·exact h
theorem bF{hY:List qK}(f:Nat)(h:Qe pr2 hY f=none):pr f=none:=by
 simp only[Qe]at h
 split at h
 ·cases h
 ·exact tO f h
theorem Qy:∀f p,pr2 f=some p→∀a h r,p a h=some r→En.call (.fn f) a h=some r:=by
 intro f p hp a h r hr
 simp only[pr2]at hp
 split at hp
 ·rename_i hf
  subst hf
  cases hp
  unfold mR at hr
  split at hr
  ·rename_i cs
   obtain⟨s,h1,h2⟩:=abJ.1 hr
   split at h2
   ·rename_i hs
    cases h2
    rw[Xe _ _ h1]
    exact pS s (Qs hs)
   ·cases h2
  ·cases hr
 ·split at hp
  ·rename_i hf
   subst hf
   cases hp
   unfold tN at hr
   split at hr
   ·rename_i cs st ag bits com
    obtain⟨s,h1,h2⟩:=abJ.1 hr
    split at h2
    ·rename_i hs
     simp only[akQ,amC,decide_eq_true_eq]at hs
     cases h2
     rw[Xe _ _ h1]
     exact xB s st ag bits com (Qs hs.1) hs.2
    ·cases h2
   ·cases hr
  ·split at hp
   ·rename_i hf
    subst hf
    cases hp
    unfold lD at hr
    split at hr
    ·rename_i cs l
     simp only[abJ]at hr
     obtain⟨s,h1,y,h2,h3⟩:=hr
     split at h3
     ·rename_i hs
      simp only[akQ,amC,decide_eq_true_eq]at hs
      cases h3
      rw[Xe _ _ h1,Oa Zt h2]
      exact sP s hs.1.2 (Qs hs.1.1) (fun v hv k hk=>hs.2 v hv k hk)
     ·cases h3
    ·cases hr
   ·exact rQ hp hr
def zJ:AV:=.agg [.imm 3 true [[.int .i64 0,.int .i64 100,.bool false],[.int .i64 0,.int .i64 100,.bool false],[.int .i64 0,.int .i64 100,.bool false]],.imm 4 false [[.imm 1 true [[.int .i64 0],[.int .i64 1],[.int .i64 2]],.int .i64 2,.int .i64 80,.bool true]],.imm 5 false [[.int .i64 0,.int .i64 1,.imm 2 true [[.int .i64 0,.bool true]],.int .i64 (-1),.int .i64 0],[.int .i64 1,.int .i64 2,.nils,.int .i64 (-1),.int .i64 1],[.int .i64 2,.int .i64 0,.imm 2 true [[.int .i64 0,.bool false]],.int .i64 0,.int .i64 2]],.int .i64 3,.int .i64 1,.int .i64 0,.imm 1 true [[.int .i64 3],[.int .i64 1],[.int .i64 0]]]
def exS:AV:=.imm 2 true [[.int .i64 1,.int .i64 (-1)],[.int .i64 1,.int .i64 0],[.int .i64 0,.int .i64 (-1)],[.int .i64 0,.int .i64 0]]
def E0:qK:=⟨28,[zJ],(.ret (.tup [.slr 2 0 0 4,.slr 2 1 0 4]),[.live 2 false false [[.slr 1 2 0 3,.int .i64 (-1)],[.slr 1 3 0 3,.int .i64 0],[.slr 1 4 0 3,.int .i64 (-1)],[.slr 1 5 0 3,.int .i64 0]],.live 2 true false [[.int .i64 1,.int .i64 (-1)],[.int .i64 1,.int .i64 0],[.int .i64 0,.int .i64 (-1)],[.int .i64 0,.int .i64 0]],.live 1 true false [[.int .i64 (-10000)],[.int .i64 (-10000)],[.int .i64 (-10000)]],.live 1 true false [[.int .i64 (-10000)],[.int .i64 (-10000)],[.int .i64 (-10000)]],.live 1 true false [[.int .i64 (-10000)],[.int .i64 0],[.int .i64 0]],.live 1 true false [[.int .i64 (-10000)],[.int .i64 0],[.int .i64 0]]])⟩
def E1:qK:=⟨29,[zJ,exS],(.ret (.tup [.slr 2 0 0 24,.mapr 1]),[.live 2 true false [[.int .i64 0,.int .i64 0],[.int .i64 1,.int .i64 0],[.int .i64 0,.int .i64 1],[.int .i64 1,.int .i64 1],[.int .i64 0,.int .i64 2],[.int .i64 2,.int .i64 0],[.int .i64 0,.int .i64 3],[.int .i64 2,.int .i64 1],[.int .i64 0,.int .i64 4],[.int .i64 2,.int .i64 2],[.int .i64 0,.int .i64 5],[.int .i64 2,.int .i64 3],[.int .i64 0,.int .i64 6],[.int .i64 2,.int .i64 4],[.int .i64 0,.int .i64 7],[.int .i64 2,.int .i64 5],[.int .i64 0,.int .i64 8],[.int .i64 2,.int .i64 6],[.int .i64 0,.int .i64 9],[.int .i64 2,.int .i64 7],[.int .i64 0,.int .i64 10],[.int .i64 2,.int .i64 8],[.int .i64 2,.int .i64 9],[.int .i64 2,.int .i64 10]],.lp [] .skip .skip [.agg [.int .i64 0,.int .i64 0],.agg [.int .i64 0,.int .i64 0,.int .i64 (-1)],.agg [.int .i64 1,.int .i64 0],.agg [.int .i64 0,.int .i64 0,.int .i64 0],.agg [.int .i64 0,.int .i64 1],.agg [.int .i64 0,.int .i64 0,.int .i64 2],.agg [.int .i64 1,.int .i64 1],.agg [.int .i64 1,.int .i64 0,.int .i64 0],.agg [.int .i64 0,.int .i64 2],.agg [.int .i64 0,.int .i64 1,.int .i64 2],.agg [.int .i64 2,.int .i64 0],.agg [.int .i64 1,.int .i64 1,.int .i64 0],.agg [.int .i64 0,.int .i64 3],.agg [.int .i64 0,.int .i64 2,.int .i64 2],.agg [.int .i64 2,.int .i64 1],.agg [.int .i64 2,.int .i64 0,.int .i64 0],.agg [.int .i64 0,.int .i64 4],.agg [.int .i64 0,.int .i64 3,.int .i64 2],.agg [.int .i64 2,.int .i64 2],.agg [.int .i64 2,.int .i64 1,.int .i64 0],.agg [.int .i64 0,.int .i64 5],.agg [.int .i64 0,.int .i64 4,.int .i64 2],.agg [.int .i64 2,.int .i64 3],.agg [.int .i64 2,.int .i64 2,.int .i64 0],.agg [.int .i64 0,.int .i64 6],.agg [.int .i64 0,.int .i64 5,.int .i64 2],.agg [.int .i64 2,.int .i64 4],.agg [.int .i64 2,.int .i64 3,.int .i64 0],.agg [.int .i64 0,.int .i64 7],.agg [.int .i64 0,.int .i64 6,.int .i64 2],.agg [.int .i64 2,.int .i64 5],.agg [.int .i64 2,.int .i64 4,.int .i64 0],.agg [.int .i64 0,.int .i64 8],.agg [.int .i64 0,.int .i64 7,.int .i64 2],.agg [.int .i64 2,.int .i64 6],.agg [.int .i64 2,.int .i64 5,.int .i64 0],.agg [.int .i64 0,.int .i64 9],.agg [.int .i64 0,.int .i64 8,.int .i64 2],.agg [.int .i64 2,.int .i64 7],.agg [.int .i64 2,.int .i64 6,.int .i64 0],.agg [.int .i64 0,.int .i64 10],.agg [.int .i64 0,.int .i64 9,.int .i64 2],.agg [.int .i64 2,.int .i64 8],.agg [.int .i64 2,.int .i64 7,.int .i64 0],.agg [.int .i64 2,.int .i64 9],.agg [.int .i64 2,.int .i64 8,.int .i64 0],.agg [.int .i64 2,.int .i64 10],.agg [.int .i64 2,.int .i64 9,.int .i64 0]] .map])⟩
def E2:qK:=⟨19,[zJ,.int .i64 2],(.ret (.tup [.slr 2 0 0 3,.int .i64 0]),[.live 2 false true [[.slr 1 1 0 3,.int .i64 (-1)],[.slr 1 2 0 3,.int .i64 (-1)],[.slr 1 3 0 3,.int .i64 (-1)]],.live 1 true false [[.int .i64 (-10000)],[.int .i64 (-10000)],[.int .i64 (-10000)]],.live 1 true false [[.int .i64 (-10000)],[.int .i64 (-10000)],[.int .i64 (-10000)]],.live 1 true false [[.int .i64 (-10000)],[.int .i64 (-10000)],[.int .i64 (-10000)]]])⟩
def E3:qK:=⟨20,[zJ,.int .i64 0,.imm 1 true [[.int .i64 2]]],(.ret (.tup [.int .i64 3,.int .i64 0]),[])⟩
def E4:qK:=⟨20,[zJ,.int .i64 0,.imm 1 true [[.int .i64 0]]],(.ret (.tup [.int .i64 0,.int .i64 5]),[])⟩
theorem yE:(Ib Tryd.prog pr2 400).call (.fn E0.f) E0.args []=some E0.res:=by kernel_rfl
theorem fH:En.call (.fn E0.f) E0.args []=some E0.res:=Jj (pr:=pr) (pr2:=pr2) rfl tO Qy yE
def T1:Dy:=Qe pr2 [E0]
theorem acF:∀f p,T1 f=some p→∀a h r,p a h=some r→En.call (.fn f) a h=some r:=Lj Qy (fun e he=>by
 simp only[aaJ,afM,or_false]at he
 rcases he with rfl
 ·exact fH)
theorem uO:(Ib Tryd.prog T1 400).call (.fn E1.f) E1.args []=some E1.res:=by kernel_rfl
theorem oY:En.call (.fn E1.f) E1.args []=some E1.res:=Jj (pr:=pr) (pr2:=T1) rfl bF acF uO
def T2:Dy:=Qe pr2 [E0,E1]
theorem agV:∀f p,T2 f=some p→∀a h r,p a h=some r→En.call (.fn f) a h=some r:=Lj Qy (fun e he=>by
 simp only[aaJ,afM,or_false]at he
 rcases he with rfl|rfl
 ·exact fH
 ·exact oY)
theorem vT:(Ib Tryd.prog T2 400).call (.fn E2.f) E2.args []=some E2.res:=by kernel_rfl
theorem aaW:En.call (.fn E2.f) E2.args []=some E2.res:=Jj (pr:=pr) (pr2:=T2) rfl bF agV vT
def T3:Dy:=Qe pr2 [E0,E1]
theorem aaD:∀f p,T3 f=some p→∀a h r,p a h=some r→En.call (.fn f) a h=some r:=Lj Qy (fun e he=>by
 simp only[aaJ,afM,or_false]at he
 rcases he with rfl|rfl
 ·exact fH
 ·exact oY)
theorem uX:(Ib Tryd.prog T3 400).call (.fn E3.f) E3.args []=some E3.res:=by kernel_rfl
theorem zO:En.call (.fn E3.f) E3.args []=some E3.res:=Jj (pr:=pr) (pr2:=T3) rfl bF aaD uX
def T4:Dy:=Qe pr2 [E0,E1]
theorem abB:∀f p,T4 f=some p→∀a h r,p a h=some r→En.call (.fn f) a h=some r:=Lj Qy (fun e he=>by
 simp only[aaJ,afM,or_false]at he
 rcases he with rfl|rfl
 ·exact fH
 ·exact oY)
theorem uB:(Ib Tryd.prog T4 400).call (.fn E4.f) E4.args []=some E4.res:=by kernel_rfl
theorem zV:En.call (.fn E4.f) E4.args []=some E4.res:=Jj (pr:=pr) (pr2:=T4) rfl bF abB uB
def TK:Dy:=Qe pr2 [E2,E3,E4]
theorem aaK:∀f p,TK f=some p→∀a h r,p a h=some r→En.call (.fn f) a h=some r:=Lj Qy (fun e he=>by
 simp only[aaJ,afM,or_false]at he
 rcases he with rfl|rfl|rfl
 ·exact aaW
 ·exact zO
 ·exact zV)
theorem iD:(Ib Tryd.prog TK 400).call (.fn 7) [] []=some (.ret (.bool true),[]):=by kernel_rfl
theorem kC:En.call (.fn 7) [] []=some (.ret (.bool true),[]):=Jj (pr:=pr) (pr2:=TK) rfl bF aaK iD
theorem fK{α:Type}{f:α→List AV}{p:List AV→Prop}{q:α→Prop}(hf:∀r,p r→∃x,r=f x∧q x):∀{rows:List (List AV)},(∀r∈rows,p r)→∃l:List α,rows=l.map f∧∀x∈l,q x
 | [],_=>⟨[],rfl,fun x hx=>by simp at hx⟩
 |r::rows,h=>by
  obtain⟨x,rfl,hx⟩:=hf r (h r (List.mem_cons_self ..))
  obtain⟨l,rfl,hl⟩:=fK hf (fun r hr=>h r (List.mem_cons_of_mem _ hr))
  exact⟨x::l,rfl,fun y hy=>by
   rcases aaJ.1 hy with rfl|hy
   ·exact hx
   ·exact hl y hy⟩
def i64(n:Int):Prop:= -9223372036854775808≤n∧n≤9223372036854775807
theorem oR{n:Nat}{r:List AV}(h:Ty Tryd.prog (n+1) 3 r):∃x,r=[.int .i64 x]∧i64 x:=by
 simp only[Ty,Tryd.underlying3]at h
 obtain⟨x,rfl,h1,h2⟩:=h
 exact⟨x,rfl,h1,h2⟩
theorem rH{n:Nat}{r:List AV}(h:Ty Tryd.prog (n+2) 22 r):∃(nn:Bool) (l:List Int),r=[An 1 true nn (l.map iv)]∧l.length≤maxLen∧∀x∈l,i64 x:=by
 unfold Ty at h
 simp only[Tryd.underlying22]at h
 obtain⟨nn,rows,rfl,hl,hrows⟩:=h
 obtain⟨l,rfl,hi⟩:=fK (f:=iv) (q:=i64) (fun r hr=>by obtain⟨x,rfl,hx⟩:=oR hr;exact⟨x,rfl,hx⟩) hrows
 have e1:Tryd.prog.cellsOf 3=1:=by kernel_rfl
 have e2:cZ Tryd.prog (n+1) 3=true:=by
  simp only[cZ,Tryd.underlying3]
 rw[e1,e2]
 exact⟨nn,l,rfl,by simpa using hl,hi⟩
theorem sY{n:Nat}{r:List AV}(h:Ty Tryd.prog (n+3) 24 r):∃x:Xc,r=x.cells∧x.reads.length≤maxLen:=by
 unfold Ty at h
 simp only[Tryd.underlying24,rB]at h
 obtain⟨a0,b0,rfl,h0,a1,b1,rfl,h1,rfl⟩:=h
 obtain⟨nn,l,rfl,hl,_⟩:=rH h0
 obtain⟨x1,rfl,_⟩:=oR h1
 exact⟨⟨nn,l,x1⟩,rfl,hl⟩
theorem sA{av:AV}(h:jM Tryd.prog 7 24 av):∃x:Xc,av=.agg x.cells∧x.reads.length≤maxLen:=by
 unfold jM at h
 simp only[Tryd.underlying24]at h
 obtain⟨cs,rfl,h⟩:=h
 obtain⟨s,rfl,hs⟩:=sY h
 exact⟨s,rfl,hs⟩
def zT:List AV:=[.nils,.nils,.nils,.int .i64 0,.int .i64 0,.int .i64 0,.nils,.int .i64 0,.int .i64 0,.nils,.bool false]
theorem atB:Ff Tryd.prog .eql 35 .nilp .nilp=some (.bool true):=by kernel_rfl
theorem aAD(b r o:Nat):Ff Tryd.prog .eql 35 (.ptr b r o) .nilp=some (.bool false):=by kernel_rfl
theorem pP:Af .nilp=[.nilp]:=Eq.trans rfl rfl
theorem jH:IntKind.i64.wrap 2=2:=Eq.trans rfl rfl
theorem mJ:(([]:List UInt8)==[])=true:=Eq.trans rfl rfl
theorem eG:En.call (.fn 8) [.nilp] []=some (.ret (.bool true),[]):=by
 (refine ce Tryd.func8 ?_;simp only[Tryd.f8];(have hb:=trivial;with_reducible repeat' (first|simp only[hb,Va.down,seval,TY8.down,atB]|refine Dx ?_ ?_<;>intro hb|refine fd ?_|fail)))
theorem dS:En.call (.fn 8) [.ptr 0 0 0] [.live 11 false false [zT]]=some (.ret (.bool true),[.live 11 false false [zT]]):=by
 (refine ce Tryd.func8 ?_;simp only[Tryd.f8];(have hb:=trivial;with_reducible repeat' (first|simp only[hb,Va.down,seval,TY8.down,zT,aAD]|refine Dx ?_ ?_<;>intro hb|refine fd ?_|fail)))
theorem xW(y:Xc):En.call (.fn 4) [.nilp,.agg [An 1 true y.nn (y.reads.map iv),.int .i64 y.cmd]] []=some (.ret (.tup [.int .i64 0,.int .i64 1]),[]):=by
 (refine ce Tryd.func4 ?_;simp only[Tryd.f4];(have hb:=trivial;with_reducible repeat' (first|simp only[hb,Va.down,seval,eG]|refine Dx ?_ ?_<;>intro hb|refine fd ?_|fail)))
theorem uG(y:Xc):En.call (.fn 4) [.ptr 0 0 0,.agg [An 1 true y.nn (y.reads.map iv),.int .i64 y.cmd]] [.live 11 false false [zT]]=some (.ret (.tup [.int .i64 0,.int .i64 1]),[.live 11 false false [zT]]):=by
 have h:=dS
 simp only[zT]at h ⊢
 (refine ce Tryd.func4 ?_;simp only[Tryd.f4];(have hb:=trivial;with_reducible repeat' (first|simp only[hb,Va.down,seval,h]|refine Dx ?_ ?_<;>intro hb|refine fd ?_|fail)))
theorem sD:En.call (.fn 5) [.nilp] []=some (.ret (.tup [.int .i64 0,.int .i64 0,.int .i64 0,.int .i64 1]),[]):=by
 (refine ce Tryd.func5 ?_;simp only[Tryd.f5];(have hb:=trivial;with_reducible repeat' (first|simp only[hb,Va.down,seval,eG]|refine Dx ?_ ?_<;>intro hb|refine fd ?_|fail)))
theorem sG:En.call (.fn 5) [.ptr 0 0 0] [.live 11 false false [zT]]=some (.ret (.tup [.int .i64 0,.int .i64 0,.int .i64 0,.int .i64 1]),[.live 11 false false [zT]]):=by
 have h:=dS
 simp only[zT]at h ⊢
 (refine ce Tryd.func5 ?_;simp only[Tryd.f5];(have hb:=trivial;with_reducible repeat' (first|simp only[hb,Va.down,seval,h]|refine Dx ?_ ?_<;>intro hb|refine fd ?_|fail)))
theorem ad0:En.call (.fn 6) [.nilp] []=some (.ret (.tup [.str [],.int .i64 1]),[]):=by
 (refine ce Tryd.func6 ?_;simp only[Tryd.f6];(have hb:=trivial;with_reducible repeat' (first|simp only[hb,Va.down,seval,eG]|refine Dx ?_ ?_<;>intro hb|refine fd ?_|fail)))
theorem acT:En.call (.fn 6) [.ptr 0 0 0] [.live 11 false false [zT]]=some (.ret (.tup [.str [],.int .i64 1]),[.live 11 false false [zT]]):=by
 have h:=dS
 simp only[zT]at h ⊢
 (refine ce Tryd.func6 ?_;simp only[Tryd.f6];(have hb:=trivial;with_reducible repeat' (first|simp only[hb,Va.down,seval,h]|refine Dx ?_ ?_<;>intro hb|refine fd ?_|fail)))
theorem gC(hk:En.call (.fn 7) [] []=some (.ret (.bool true),[]))(y:Xc):En.call (.fn 3) [.agg [An 1 true y.nn (y.reads.map iv),.int .i64 y.cmd]] []=some (.ret (.bool true),[]):=by
 have h1:=uG y
 have h2:=sG
 have h3:=acT
 simp only[zT]at h1 h2 h3
 (refine ce Tryd.func3 ?_;simp only[Tryd.f3];(have hb:=trivial;with_reducible repeat' (first|simp only[hb,Va.down,seval,TY3.down,hk,pP,List.all_cons,List.all_nil,List.length_cons,List.length_nil,Bool.and_true,Bool.false_and,jH,mJ,Bool.not_true,Int.reduceEq,Int.reduceBEq,xW,sD,ad0,h1,h2,h3]|refine Dx ?_ ?_<;>intro hb|refine fd ?_|refine zF ?_|fail)))
theorem iS(hk:En.call (.fn 7) [] []=some (.ret (.bool true),[])):∀avs,dU Tryd.prog 7 Tryd.f3.params.toList avs→En.call (.fn 3) avs []=some (.ret (.bool true),[]):=by
 intro avs h
 rw[show Tryd.f3.params.toList=[24]from rfl]at h
 match avs,h with
 | [a],h=>
   obtain⟨y,rfl,_⟩:=sA h.1
   exact gC hk y
 | [],h=>exact h.elim
 |_::_::_,h=>exact h.2.elim
end Go.Proofs.YtfkokgjfpojeoaaDoor
