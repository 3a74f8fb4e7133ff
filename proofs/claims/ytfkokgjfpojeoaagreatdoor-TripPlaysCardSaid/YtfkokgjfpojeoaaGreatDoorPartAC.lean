/- The functions of the layer, walked. -/
import Derived.Test.YtfkokgjfpojeoaaGreatDoorPartAB
import Derived.Test.YtfkokgjfpojeoaaGreatDoorLibD
import Derived.Test.YtfkokgjfpojeoaaGreatDoorLibE
open List renaming length_map→aaP,map_nil→acP,all_cons→acQ,mem_cons→acR,not_mem_nil→acT,map_cons→acU,length_nil→acV,mem_of_getElem?→afG,all_nil→agA,getElem?_append_left→agG,length_cons→agI,take_of_length_le→agK,all_eq_true→ahD,getElem?_eq_some_iff→ahO,getElem?_set_ne→ahZ,getElem?_set_self→ai3,map_eq_nil_iff→akD,append_nil→ak7,getElem?_map→alA,drop_drop→alB,take_add_one→alC,length_append→alD
open Int renaming lt_irrefl→acS
open Option renaming bind_eq_some_iff→ac6,map_eq_some_iff→ad5
open Bool renaming and_eq_true→aeG,and_false→afV,and_true→af2,false_and→agP,true_and→ahB,eq_false_iff→ak8,not_false→ak9
open Nat renaming lt_of_lt_of_le→ai7,le_refl→ajX
set_option linter.unusedSimpArgs false
set_option linter.unusedVariables false
namespace Go.Proofs.YtfkokgjfpojeoaaGreatDoor
open Go.Ev Go
set_option maxRecDepth 100000
set_option maxHeartbeats 16000000
theorem ad9{m:Ap}(h:Dq m=true):m.votes.length≤6:=by
 simp only[Dq,Nb,aeG,decide_eq_true_eq]at h
 exact h.1.1.1.1.1.1.1.1.1.2
theorem ag3(m:Ap)(st ag:Int)(y:Av)(hs:m.small)(hm:Dq m=true)(hr:Su m y.reads=true):Da.call (.fn 11) [.agg [Ad 3 true m.nS (m.sens.map Bg.cells),Ad 4 false m.nV (m.votes.map Ak.cells),Ad 5 false m.nM (m.moves.map Ai.cells),.int .i64 m.states,.int .i64 m.cmds,.int .i64 m.bgn,Ad 1 true m.nO (m.opn.map iv)],.int .i64 st,.int .i64 ag,.agg [Ad 1 true y.nn (y.reads.map iv),.int .i64 y.cmd]] []=
 some (.ret (.tup [.int .i64 (Jv m st ag y).1,.int .i64 (Jv m st ag y).2]),[]):=by
 have h6:=ad9 hm
 have hV:=ac8 m (l:=y.reads) (nn:=y.nn) (jZ hr) hs h6 (lV hm)
 have hw0:=eN hm
 have hbs:∀x∈m.moves,∀w∈x.wants,0≤w.vote∧(m.votes.map (Xc m y.reads))[w.vote.toNat]?=some (Na (Ks m y.reads m.votes 0 0) w.vote):=fun x hx w hw=>by
  obtain⟨a,b⟩:=hw0 x hx w hw
  refine⟨a,?_⟩
  rw[qC,ag7 _ (by simpa using h6) _ (by simpa using b)]
  congr 2;omega
 have hA:=fun(nn:Bool) x (hx:x∈m.moves)=>vT x st ag (Ks m y.reads m.votes 0 0) y.cmd (bs:=m.votes.map (Xc m y.reads)) (nn:=nn) (hs.ws x hx) (hbs x hx)
 unfold Jv
 generalize Ks m y.reads m.votes 0 0=bits at hA
 clear hbs hw0
 have hmt:(if IntKind.i64.wrap (ag+1)<10 then IntKind.i64.wrap (ag+1)else 10)=oW ag:=rfl
 have htk:((m.votes.map (Xc m y.reads)).map bv).take m.votes.length=(m.votes.map (Xc m y.reads)).map bv:=agK (by simp)
 by_cases hn:m.votes=[]
 ·have hV':=hV _ _ (fun _=>rfl) (fun h=>(h hn).elim)
  have hA:=hA false
  rw[hn]at hA;simp only[acP,adH]at hA
  (refine ce Tryz.func11 ?_;simp only[Tryz.f11];(have hb:=trivial;with_reducible repeat' (first|simp only[hb,Vc.down,seval,dO.down,hV',aaP]|refine Au ?_ ?_<;>intro hb|refine fd ?_|fail)))
  refine Ee (Uf 44 m.moves (fun i (zz:Unit) t h=>t 1=.int .i64 st∧t 2=.int .i64 ag∧t 4=.ptr 0 0 0∧t 7=.ptr 1 0 0∧t 10=.nils∧t 11=.int .i64 i∧(h=[.live 7 false false [[Ad 3 true m.nS (m.sens.map Bg.cells),Ad 4 false m.nV (m.votes.map Ak.cells),Ad 5 false m.nM (m.moves.map Ai.cells),.int .i64 m.states,.int .i64 m.cmds,.int .i64 m.bgn,Ad 1 true m.nO (m.opn.map iv)]],.live 2 false false [[Ad 1 true y.nn (y.reads.map iv),.int .i64 y.cmd]]])) (fun rest zz=>Fq st ag bits y.cmd rest) (fun r e t h=>(e=.exit 0∧t 1=.int .i64 st∧t 2=.int .i64 ag∧r=(st,oW ag))∨(e=.ret∧t 8=.int .i64 r.1∧t 9=.int .i64 r.2)) ?_ ?_ () _ _ ?_) (fun e t h hk=>?_)
  ·rintro _ t h Q' kQ ⟨h1,h2,h4,h7,h10,h11,rfl⟩
   (have hb:=trivial;with_reducible repeat' (first|simp only[hb,Vc.down,seval,dO.down,h1,h2,h4,h7,h10,h11,acS,decide_false,aaP]|refine Au ?_ ?_<;>intro hb|refine fd ?_|fail))
   exact kQ _ _ _ (.inl ⟨rfl,by simp[up,h1],by simp[up,h2],rfl⟩)
  ·rintro x rest i _ t h J Q' kJ kQ hx hi ⟨h1,h2,h4,h7,h10,h11,rfl⟩
   have hd:decide ((i:Int)<(m.moves.length:Int))=true:=decide_eq_true (by omega)
   have hw:=As hi hs.moves
   have hap:=hA x (afG hx)
   generalize hq:gX (nd x st ag bits y.cmd)=q at hap
   (have hb:=trivial;with_reducible repeat' (first|simp only[hb,Vc.down,seval,dO.down,h1,h2,h4,h7,h10,h11,hd,hx,hw,hap,htk,Ai.cells,aaP]|refine Au ?_ ?_<;>intro hb|refine fd ?_|fail))
   ·exact kQ _ _ _ (.inr ⟨rfl,by simp[up,Fq,hq,hb],by simp[up,Fq,hq,hb]⟩)
   ·(refine Bl (kJ _ _ () ⟨?_,?_,?_,?_,?_,?_,rfl⟩ ?_);(simp[up,h1]);(simp[up,h2]);(simp[up,h4]);(simp[up,h7]);(simp[up,h10]);(simp[up]);(simp[Fq,hq,hb]))
  ·exact⟨by simp[up,Eg],by simp[up,Eg],by simp[up,Eg],by simp[up,Eg],by simp[up,Eg],by simp[up],rfl⟩
  rcases hk with⟨rfl,h1,h2,hr⟩|⟨rfl,h8,h9⟩
  ·rw[hr]
   (have hb:=trivial;with_reducible repeat' (first|simp only[hb,Vc.down,seval,dO.down,h1,h2,hmt]|refine Au ?_ ?_<;>intro hb|refine fd ?_|fail))
  ·(have hb:=trivial;with_reducible repeat' (first|simp only[hb,Vc.down,seval,dO.down,h8,h9]|refine Au ?_ ?_<;>intro hb|refine fd ?_|fail))
 ·have hV':=hV _ _ (fun h=>(hn h).elim) (fun _=>rfl)
  have hA:=hA true
  simp only[Pl]at hA
  (refine ce Tryz.func11 ?_;simp only[Tryz.f11];(have hb:=trivial;with_reducible repeat' (first|simp only[hb,Vc.down,seval,dO.down,hV',aaP]|refine Au ?_ ?_<;>intro hb|refine fd ?_|fail)))
  refine Ee (Uf 44 m.moves (fun i (zz:Unit) t h=>t 1=.int .i64 st∧t 2=.int .i64 ag∧t 4=.ptr 0 0 0∧t 7=.ptr 1 0 0∧t 10=.slr 1 2 0 m.votes.length∧t 11=.int .i64 i∧(h=[.live 7 false false [[Ad 3 true m.nS (m.sens.map Bg.cells),Ad 4 false m.nV (m.votes.map Ak.cells),Ad 5 false m.nM (m.moves.map Ai.cells),.int .i64 m.states,.int .i64 m.cmds,.int .i64 m.bgn,Ad 1 true m.nO (m.opn.map iv)]],.live 2 false false [[Ad 1 true y.nn (y.reads.map iv),.int .i64 y.cmd]],.live 1 true false ((m.votes.map (Xc m y.reads)).map bv)])) (fun rest zz=>Fq st ag bits y.cmd rest) (fun r e t h=>(e=.exit 0∧t 1=.int .i64 st∧t 2=.int .i64 ag∧r=(st,oW ag))∨(e=.ret∧t 8=.int .i64 r.1∧t 9=.int .i64 r.2)) ?_ ?_ () _ _ ?_) (fun e t h hk=>?_)
  ·rintro _ t h Q' kQ ⟨h1,h2,h4,h7,h10,h11,rfl⟩
   (have hb:=trivial;with_reducible repeat' (first|simp only[hb,Vc.down,seval,dO.down,h1,h2,h4,h7,h10,h11,acS,decide_false,aaP]|refine Au ?_ ?_<;>intro hb|refine fd ?_|fail))
   exact kQ _ _ _ (.inl ⟨rfl,by simp[up,h1],by simp[up,h2],rfl⟩)
  ·rintro x rest i _ t h J Q' kJ kQ hx hi ⟨h1,h2,h4,h7,h10,h11,rfl⟩
   have hd:decide ((i:Int)<(m.moves.length:Int))=true:=decide_eq_true (by omega)
   have hw:=As hi hs.moves
   have hap:=hA x (afG hx)
   generalize hq:gX (nd x st ag bits y.cmd)=q at hap
   (have hb:=trivial;with_reducible repeat' (first|simp only[hb,Vc.down,seval,dO.down,h1,h2,h4,h7,h10,h11,hd,hx,hw,hap,htk,Ai.cells,aaP]|refine Au ?_ ?_<;>intro hb|refine fd ?_|fail))
   ·exact kQ _ _ _ (.inr ⟨rfl,by simp[up,Fq,hq,hb],by simp[up,Fq,hq,hb]⟩)
   ·(refine Bl (kJ _ _ () ⟨?_,?_,?_,?_,?_,?_,rfl⟩ ?_);(simp[up,h1]);(simp[up,h2]);(simp[up,h4]);(simp[up,h7]);(simp[up,h10]);(simp[up]);(simp[Fq,hq,hb]))
  ·exact⟨by simp[up,Eg],by simp[up,Eg],by simp[up,Eg],by simp[up,Eg],by simp[up,Eg],by simp[up],rfl⟩
  rcases hk with⟨rfl,h1,h2,hr⟩|⟨rfl,h8,h9⟩
  ·rw[hr]
   (have hb:=trivial;with_reducible repeat' (first|simp only[hb,Vc.down,seval,dO.down,h1,h2,hmt]|refine Au ?_ ?_<;>intro hb|refine fd ?_|fail))
  ·(have hb:=trivial;with_reducible repeat' (first|simp only[hb,Vc.down,seval,dO.down,h8,h9]|refine Au ?_ ?_<;>intro hb|refine fd ?_|fail))
def Vo(m:Ap):Bool:=m.votes.all (fun v=>decide (v.sens.length≤10))&&m.moves.all (fun x=>decide (x.wants.length≤10))&&decide (m.sens.length≤10)&&decide (m.votes.length≤10)&&decide (m.moves.length≤30)&&decide (m.opn.length≤20)
theorem aeQ(m:Ap)(hs:m.small):Da.call (.fn 5) [.agg [Ad 3 true m.nS (m.sens.map Bg.cells),Ad 4 false m.nV (m.votes.map Ak.cells),Ad 5 false m.nM (m.moves.map Ai.cells),.int .i64 m.states,.int .i64 m.cmds,.int .i64 m.bgn,Ad 1 true m.nO (m.opn.map iv)]] []=some (.ret (.bool (Vo m)),[]):=by
 have l1:decide ((m.sens.length:Int)≤10)=decide (m.sens.length≤10):=by rw[decide_eq_decide];omega
 have l2:decide ((m.votes.length:Int)≤10)=decide (m.votes.length≤10):=by rw[decide_eq_decide];omega
 have l3:decide ((m.moves.length:Int)≤30)=decide (m.moves.length≤30):=by rw[decide_eq_decide];omega
 have l4:decide ((m.opn.length:Int)≤20)=decide (m.opn.length≤20):=by rw[decide_eq_decide];omega
 (refine ce Tryz.func5 ?_;simp only[Tryz.f5];(have hb:=trivial;with_reducible repeat' (first|simp only[hb,Vc.down,seval,TY5.down,aaP]|refine Au ?_ ?_<;>intro hb|refine fd ?_|fail)))
 refine Ee (Uf 57 m.votes (fun i (zz:Unit) t h=>t 1=.ptr 0 0 0∧t 3=.int .i64 i∧(h=[.live 7 false false [[Ad 3 true m.nS (m.sens.map Bg.cells),Ad 4 false m.nV (m.votes.map Ak.cells),Ad 5 false m.nM (m.moves.map Ai.cells),.int .i64 m.states,.int .i64 m.cmds,.int .i64 m.bgn,Ad 1 true m.nO (m.opn.map iv)]]])) (fun rest zz=>rest.all (fun v=>decide (v.sens.length≤10))) (fun r e t h=>(if r=true then e=.exit 0∧t 1=.ptr 0 0 0∧h=[.live 7 false false [[Ad 3 true m.nS (m.sens.map Bg.cells),Ad 4 false m.nV (m.votes.map Ak.cells),Ad 5 false m.nM (m.moves.map Ai.cells),.int .i64 m.states,.int .i64 m.cmds,.int .i64 m.bgn,Ad 1 true m.nO (m.opn.map iv)]]]else e=.ret∧t 2=.bool false)) ?_ ?_ () _ _ ?_) (fun e t h hk=>?_)
 ·rintro _ t h Q' kQ ⟨h1,h3,rfl⟩
  (have hb:=trivial;with_reducible repeat' (first|simp only[hb,Vc.down,seval,TY5.down,h1,h3,acS,decide_false,aaP]|refine Au ?_ ?_<;>intro hb|refine fd ?_|fail))
  exact kQ _ _ _ (by rw[if_pos (by rfl)];exact⟨rfl,by simp[up,h1],rfl⟩)
 ·rintro x rest i _ t h J Q' kJ kQ hx hi ⟨h1,h3,rfl⟩
  have hd:decide ((i:Int)<(m.votes.length:Int))=true:=decide_eq_true (by omega)
  have hw:=As hi hs.votes
  have lx:decide ((10:Int)<(x.sens.length:Int))= !decide (x.sens.length≤10):=by rw[←decide_not,decide_eq_decide];omega
  cases c1:decide (x.sens.length≤10)with
  |false=>
   (have hb:=trivial;with_reducible repeat' (first|simp only[hb,Vc.down,seval,TY5.down,h1,h3,hd,hx,hw,lx,c1,Ak.cells,aaP]|refine Au ?_ ?_<;>intro hb|refine fd ?_|fail))
   exact kQ _ _ _ (by rw[if_neg (by simp only[acQ,c1,agP];simp)];exact⟨rfl,by simp[up]⟩)
  |true=>
   (have hb:=trivial;with_reducible repeat' (first|simp only[hb,Vc.down,seval,TY5.down,h1,h3,hd,hx,hw,lx,c1,Ak.cells,aaP]|refine Au ?_ ?_<;>intro hb|refine fd ?_|fail))
   (refine Bl (kJ _ _ () ⟨?_,?_,rfl⟩ ?_);(simp[up,h1]);(simp[up]);(simp only[acQ,c1,ahB]))
 ·exact⟨by simp[up,Eg],by simp[up],rfl⟩
 split at hk
 rotate_left
 ·obtain⟨rfl,h2⟩:=hk
  rename_i hr1
  (have hb:=trivial;with_reducible repeat' (first|simp only[hb,Vc.down,seval,TY5.down,h2]|refine Au ?_ ?_<;>intro hb|refine fd ?_|fail))
  all_goals simp[Vo,ak8.2 hr1]
 obtain⟨rfl,h1,rfl⟩:=hk
 rename_i hr1
 (have hb:=trivial;with_reducible repeat' (first|simp only[hb,Vc.down,seval,TY5.down,h1,aaP]|refine Au ?_ ?_<;>intro hb|refine fd ?_|fail))
 refine Ee (Uf 57 m.moves (fun i (zz:Unit) t h=>t 1=.ptr 0 0 0∧t 4=.int .i64 i∧(h=[.live 7 false false [[Ad 3 true m.nS (m.sens.map Bg.cells),Ad 4 false m.nV (m.votes.map Ak.cells),Ad 5 false m.nM (m.moves.map Ai.cells),.int .i64 m.states,.int .i64 m.cmds,.int .i64 m.bgn,Ad 1 true m.nO (m.opn.map iv)]]])) (fun rest zz=>rest.all (fun x=>decide (x.wants.length≤10))) (fun r e t h=>(if r=true then e=.exit 2∧t 1=.ptr 0 0 0∧h=[.live 7 false false [[Ad 3 true m.nS (m.sens.map Bg.cells),Ad 4 false m.nV (m.votes.map Ak.cells),Ad 5 false m.nM (m.moves.map Ai.cells),.int .i64 m.states,.int .i64 m.cmds,.int .i64 m.bgn,Ad 1 true m.nO (m.opn.map iv)]]]else e=.ret∧t 2=.bool false)) ?_ ?_ () _ _ ?_) (fun e t h hk=>?_)
 ·rintro _ t h Q' kQ ⟨h1,h4,rfl⟩
  (have hb:=trivial;with_reducible repeat' (first|simp only[hb,Vc.down,seval,TY5.down,h1,h4,acS,decide_false,aaP]|refine Au ?_ ?_<;>intro hb|refine fd ?_|fail))
  exact kQ _ _ _ (by rw[if_pos (by rfl)];exact⟨rfl,by simp[up,h1],rfl⟩)
 ·rintro x rest i _ t h J Q' kJ kQ hx hi ⟨h1,h4,rfl⟩
  have hd:decide ((i:Int)<(m.moves.length:Int))=true:=decide_eq_true (by omega)
  have hw:=As hi hs.moves
  have lx:decide ((10:Int)<(x.wants.length:Int))= !decide (x.wants.length≤10):=by rw[←decide_not,decide_eq_decide];omega
  cases c1:decide (x.wants.length≤10)with
  |false=>
   (have hb:=trivial;with_reducible repeat' (first|simp only[hb,Vc.down,seval,TY5.down,h1,h4,hd,hx,hw,lx,c1,Ai.cells,aaP]|refine Au ?_ ?_<;>intro hb|refine fd ?_|fail))
   exact kQ _ _ _ (by rw[if_neg (by simp only[acQ,c1,agP];simp)];exact⟨rfl,by simp[up]⟩)
  |true=>
   (have hb:=trivial;with_reducible repeat' (first|simp only[hb,Vc.down,seval,TY5.down,h1,h4,hd,hx,hw,lx,c1,Ai.cells,aaP]|refine Au ?_ ?_<;>intro hb|refine fd ?_|fail))
   (refine Bl (kJ _ _ () ⟨?_,?_,rfl⟩ ?_);(simp[up,h1]);(simp[up]);(simp only[acQ,c1,ahB]))
 ·exact⟨by simp[up,Eg,h1],by simp[up],rfl⟩
 split at hk
 rotate_left
 ·obtain⟨rfl,h2⟩:=hk
  rename_i hr2
  (have hb:=trivial;with_reducible repeat' (first|simp only[hb,Vc.down,seval,TY5.down,h2]|refine Au ?_ ?_<;>intro hb|refine fd ?_|fail))
  all_goals simp[Vo,ak8.2 hr2]
 obtain⟨rfl,h1,rfl⟩:=hk
 rename_i hr2
 (have hb:=trivial;with_reducible repeat' (first|simp only[hb,Vc.down,seval,TY5.down,h1,aaP,l1,l2,l3,l4]|refine Au ?_ ?_<;>intro hb|refine fd ?_|fail))
 all_goals (refine congrArg (fun b=>(Dp.ret (AV.bool b),([]:Aa))) ?_;symm;((try simp only[Bool.not_eq_eq_eq_not,Bool.not_true,ak9]at *);simp only[Vo, *,afV,agP,af2,ahB,Bool.and_self,Bool.not_not,Bool.not_true,ak9,acQ,agA]))
theorem jO{α:Type}{d:List AV→Option α}{f:α→List AV}(hd:∀cs x,d cs=some x→cs=f x):∀{rows:List (List AV)} {l:List α},Ah d rows=some l→rows=l.map f
 | [],l,h=>by simp[Ah]at h;subst h;rfl
 |r::rows,l,h=>by
  simp only[Ah,ac6,ad5]at h
  obtain⟨x,h1,l',h2,rfl⟩:=h
  rw[hd r x h1,jO hd h2];rfl
def dSl{α:Type}(n:Nat)(fl:Bool)(d:List AV→Option α):AV→Option (Bool × List α)
 | .nils=>some (false,[])
 | .imm n' fl' rows=>if n'=n∧fl'=fl then(Ah d rows).map fun l=>(true,l)else none
 |_=>none
theorem Vp{α:Type}{n:Nat}{fl:Bool}{d:List AV→Option α}{f:α→List AV}(hd:∀cs x,d cs=some x→cs=f x){v:AV}{x:Bool × List α}(h:dSl n fl d v=some x):v=Ad n fl x.1 (x.2.map f):=by
 unfold dSl at h
 split at h
 ·cases h;rfl
 ·split at h
  ·rename_i hq
   obtain⟨rfl,rfl⟩:=hq
   obtain⟨l,h1,rfl⟩:=ad5.1 h
   rw[jO hd h1]
   cases l<;>rfl
  ·cases h
 ·cases h
def acE:List AV→Option Int
 | [.int .i64 a]=>some a
 |_=>none
theorem gB(cs:List AV)(x:Int)(h:acE cs=some x):cs=iv x:=by
 unfold acE at h
 split at h
 ·cases h;rfl
 ·cases h
def agZ:List AV→Option Bg
 | [.int .i64 a,.int .i64 b,.bool c]=>some ⟨a,b,c⟩
 |_=>none
theorem adZ(cs:List AV)(x:Bg)(h:agZ cs=some x):cs=x.cells:=by
 unfold agZ at h
 split at h
 ·cases h;rfl
 ·cases h
def abQ:List AV→Option Ak
 | [l,.int .i64 a,.int .i64 b,.bool c]=>(dSl 1 true acE l).map fun x=>⟨x.1,x.2,a,b,c⟩
 |_=>none
theorem aaG(cs:List AV)(x:Ak)(h:abQ cs=some x):cs=x.cells:=by
 unfold abQ at h
 split at h
 ·obtain⟨y,h1,rfl⟩:=ad5.1 h
  rw[Vp gB h1];rfl
 ·cases h
def wX:List AV→Option Aq
 | [.int .i64 a,.bool c]=>some ⟨a,c⟩
 |_=>none
theorem aaQ(cs:List AV)(x:Aq)(h:wX cs=some x):cs=x.cells:=by
 unfold wX at h
 split at h
 ·cases h;rfl
 ·cases h
def aa8:List AV→Option Ai
 | [.int .i64 a,.int .i64 b,l,.int .i64 c,.int .i64 d]=>(dSl 2 true wX l).map fun x=>⟨a,b,x.1,x.2,c,d⟩
 |_=>none
theorem acD(cs:List AV)(x:Ai)(h:aa8 cs=some x):cs=x.cells:=by
 unfold aa8 at h
 split at h
 ·obtain⟨y,h1,rfl⟩:=ad5.1 h
  rw[Vp aaQ h1];rfl
 ·cases h
def lX:List AV→Option Ap
 | [s,v,x,.int .i64 a,.int .i64 b,.int .i64 c,o]=>(dSl 3 true agZ s).bind fun s=>(dSl 4 false abQ v).bind fun v=>(dSl 5 false aa8 x).bind fun x=>(dSl 1 true acE o).map fun o=>⟨s.1,s.2,v.1,v.2,x.1,x.2,a,b,c,o.1,o.2⟩
 |_=>none
theorem cR(cs:List AV)(x:Ap)(h:lX cs=some x):cs=x.cells:=by
 unfold lX at h
 split at h
 ·simp only[ac6,ad5]at h
  obtain⟨s,h1,v,h2,y,h3,o,h4,rfl⟩:=h
  rw[Vp adZ h1,Vp aaG h2,Vp acD h3,Vp gB h4]
 ·cases h
def bC(m:Ap):Bool:=decide (m.sens.length≤1000)&&decide (m.votes.length≤1000)&&decide (m.moves.length≤1000)&&decide (m.opn.length≤1000)&&m.votes.all (fun v=>decide (v.sens.length≤1000))&&m.moves.all (fun x=>decide (x.wants.length≤1000))
theorem Xx{m:Ap}(h:bC m=true):m.small:=by
 simp only[bC,aeG,decide_eq_true_eq,ahD]at h
 obtain⟨⟨⟨⟨⟨a,b⟩,c⟩,d⟩,e⟩,f⟩:=h
 exact⟨by unfold maxLen;omega,by unfold maxLen;omega,by unfold maxLen;omega,by unfold maxLen;omega,fun v hv=>by have:=e v hv;unfold maxLen;omega,fun v hv=>by have:=f v hv;unfold maxLen;omega⟩
def zF:List AV→Aa→Option (Dp × Aa)
 | [.agg cs],[]=>(lX cs).bind fun m=>if bC m=true then some (.ret (.bool (Dq m)),[])else none
 |_,_=>none
def af6:List AV→Aa→Option (Dp × Aa)
 | [.agg cs,.agg [.int .i64 st,.int .i64 ag],.agg [.int .i64 bits,.int .i64 com]],[]=>(lX cs).bind fun m=>if(bC m&&m.moves.all fun x=>x.wants.all fun w=>decide (0≤w.vote))=true then
     (match Fq st ag bits com m.moves with
       |(a,b)=>some (.ret (.agg [.int .i64 a,.int .i64 b]),[]))else none
 |_,_=>none
def ab3:List AV→Aa→Option (Dp × Aa)
 | [.agg cs,l],[]=>(lX cs).bind fun m=>(dSl 1 true acE l).bind fun l=>if(bC m&&decide (l.2.length=m.sens.length)&&m.votes.all fun v=>v.sens.all fun k=>decide (0≤k)&&decide (k.toNat<m.sens.length))=true then
     some (.ret (.int .i64 (Ks m l.2 m.votes 0 0)),[])else none
 |_,_=>none
def pr2:Ft:=⟨fun f=>if f=23 then some zF else if f=30 then some af6 else if f=31 then some ab3 else pr f,pr.md⟩
theorem agM(f:Nat)(h:pr2 f=none):pr f=none:=by
 simp only[pr2]at h
 split at h
 ·cases h
 ·split at h
  ·cases h
  ·split at h
   ·cases h
   ·exact h
theorem lR{sJ:List Ent}(f:Nat)(h:Wb pr2 sJ f=none):pr f=none:=by
 simp only[Wb]at h
 split at h
 ·cases h
 ·exact agM f h
theorem Yg:∀f p,pr2 f=some p→∀a h r,p a h=some r→Da.call (.fn f) a h=some r:=by
 intro f p hp a h r hr
 simp only[pr2]at hp
 split at hp
 ·rename_i hf
  subst hf
  cases hp
  unfold zF at hr
  split at hr
  ·rename_i cs
   obtain⟨s,h1,h2⟩:=ac6.1 hr
   split at h2
   ·rename_i hs
    cases h2
    rw[cR _ _ h1]
    exact iS s (Xx hs)
   ·cases h2
  ·cases hr
 ·split at hp
  ·rename_i hf
   subst hf
   cases hp
   unfold af6 at hr
   split at hr
   ·rename_i cs st ag bits com
    obtain⟨s,h1,h2⟩:=ac6.1 hr
    split at h2
    ·rename_i hs
     simp only[aeG,ahD,decide_eq_true_eq]at hs
     cases h2
     rw[cR _ _ h1]
     exact yT s st ag bits com (Xx hs.1) hs.2
    ·cases h2
   ·cases hr
  ·split at hp
   ·rename_i hf
    subst hf
    cases hp
    unfold ab3 at hr
    split at hr
    ·rename_i cs l
     simp only[ac6]at hr
     obtain⟨s,h1,y,h2,h3⟩:=hr
     split at h3
     ·rename_i hs
      simp only[aeG,ahD,decide_eq_true_eq]at hs
      cases h3
      rw[cR _ _ h1,Vp gB h2]
      exact qU s hs.1.2 (Xx hs.1.1) (fun v hv k hk=>hs.2 v hv k hk)
     ·cases h3
    ·cases hr
   ·exact qY hp hr
def exA:AV:=.agg [.imm 3 true [[.int .i64 0,.int .i64 100,.bool false],[.int .i64 0,.int .i64 100,.bool false],[.int .i64 0,.int .i64 100,.bool false]],.imm 4 false [[.imm 1 true [[.int .i64 0],[.int .i64 1],[.int .i64 2]],.int .i64 2,.int .i64 80,.bool true]],.imm 5 false [[.int .i64 0,.int .i64 1,.imm 2 true [[.int .i64 0,.bool true]],.int .i64 (-1),.int .i64 0],[.int .i64 1,.int .i64 2,.nils,.int .i64 (-1),.int .i64 1],[.int .i64 2,.int .i64 0,.imm 2 true [[.int .i64 0,.bool false]],.int .i64 0,.int .i64 2]],.int .i64 3,.int .i64 1,.int .i64 0,.imm 1 true [[.int .i64 3],[.int .i64 1],[.int .i64 0]]]
def exS:AV:=.imm 2 true [[.int .i64 1,.int .i64 (-1)],[.int .i64 1,.int .i64 0],[.int .i64 0,.int .i64 (-1)],[.int .i64 0,.int .i64 0]]
def E0:Ent:=⟨40,[exA],(.ret (.tup [.slr 2 0 0 4,.slr 2 1 0 4]),[.live 2 false false [[.slr 1 2 0 3,.int .i64 (-1)],[.slr 1 3 0 3,.int .i64 0],[.slr 1 4 0 3,.int .i64 (-1)],[.slr 1 5 0 3,.int .i64 0]],.live 2 true false [[.int .i64 1,.int .i64 (-1)],[.int .i64 1,.int .i64 0],[.int .i64 0,.int .i64 (-1)],[.int .i64 0,.int .i64 0]],.live 1 true false [[.int .i64 (-10000)],[.int .i64 (-10000)],[.int .i64 (-10000)]],.live 1 true false [[.int .i64 (-10000)],[.int .i64 (-10000)],[.int .i64 (-10000)]],.live 1 true false [[.int .i64 (-10000)],[.int .i64 0],[.int .i64 0]],.live 1 true false [[.int .i64 (-10000)],[.int .i64 0],[.int .i64 0]]])⟩
def E1:Ent:=⟨41,[exA,exS],(.ret (.tup [.slr 2 0 0 24,.mapr 1]),[.live 2 true false [[.int .i64 0,.int .i64 0],[.int .i64 1,.int .i64 0],[.int .i64 0,.int .i64 1],[.int .i64 1,.int .i64 1],[.int .i64 0,.int .i64 2],[.int .i64 2,.int .i64 0],[.int .i64 0,.int .i64 3],[.int .i64 2,.int .i64 1],[.int .i64 0,.int .i64 4],[.int .i64 2,.int .i64 2],[.int .i64 0,.int .i64 5],[.int .i64 2,.int .i64 3],[.int .i64 0,.int .i64 6],[.int .i64 2,.int .i64 4],[.int .i64 0,.int .i64 7],[.int .i64 2,.int .i64 5],[.int .i64 0,.int .i64 8],[.int .i64 2,.int .i64 6],[.int .i64 0,.int .i64 9],[.int .i64 2,.int .i64 7],[.int .i64 0,.int .i64 10],[.int .i64 2,.int .i64 8],[.int .i64 2,.int .i64 9],[.int .i64 2,.int .i64 10]],.lp [] .skip .skip [.agg [.int .i64 0,.int .i64 0],.agg [.int .i64 0,.int .i64 0,.int .i64 (-1)],.agg [.int .i64 1,.int .i64 0],.agg [.int .i64 0,.int .i64 0,.int .i64 0],.agg [.int .i64 0,.int .i64 1],.agg [.int .i64 0,.int .i64 0,.int .i64 2],.agg [.int .i64 1,.int .i64 1],.agg [.int .i64 1,.int .i64 0,.int .i64 0],.agg [.int .i64 0,.int .i64 2],.agg [.int .i64 0,.int .i64 1,.int .i64 2],.agg [.int .i64 2,.int .i64 0],.agg [.int .i64 1,.int .i64 1,.int .i64 0],.agg [.int .i64 0,.int .i64 3],.agg [.int .i64 0,.int .i64 2,.int .i64 2],.agg [.int .i64 2,.int .i64 1],.agg [.int .i64 2,.int .i64 0,.int .i64 0],.agg [.int .i64 0,.int .i64 4],.agg [.int .i64 0,.int .i64 3,.int .i64 2],.agg [.int .i64 2,.int .i64 2],.agg [.int .i64 2,.int .i64 1,.int .i64 0],.agg [.int .i64 0,.int .i64 5],.agg [.int .i64 0,.int .i64 4,.int .i64 2],.agg [.int .i64 2,.int .i64 3],.agg [.int .i64 2,.int .i64 2,.int .i64 0],.agg [.int .i64 0,.int .i64 6],.agg [.int .i64 0,.int .i64 5,.int .i64 2],.agg [.int .i64 2,.int .i64 4],.agg [.int .i64 2,.int .i64 3,.int .i64 0],.agg [.int .i64 0,.int .i64 7],.agg [.int .i64 0,.int .i64 6,.int .i64 2],.agg [.int .i64 2,.int .i64 5],.agg [.int .i64 2,.int .i64 4,.int .i64 0],.agg [.int .i64 0,.int .i64 8],.agg [.int .i64 0,.int .i64 7,.int .i64 2],.agg [.int .i64 2,.int .i64 6],.agg [.int .i64 2,.int .i64 5,.int .i64 0],.agg [.int .i64 0,.int .i64 9],.agg [.int .i64 0,.int .i64 8,.int .i64 2],.agg [.int .i64 2,.int .i64 7],.agg [.int .i64 2,.int .i64 6,.int .i64 0],.agg [.int .i64 0,.int .i64 10],.agg [.int .i64 0,.int .i64 9,.int .i64 2],.agg [.int .i64 2,.int .i64 8],.agg [.int .i64 2,.int .i64 7,.int .i64 0],.agg [.int .i64 2,.int .i64 9],.agg [.int .i64 2,.int .i64 8,.int .i64 0],.agg [.int .i64 2,.int .i64 10],.agg [.int .i64 2,.int .i64 9,.int .i64 0]] .map])⟩
def E2:Ent:=⟨20,[exA,.int .i64 2],(.ret (.tup [.slr 2 0 0 3,.int .i64 0]),[.live 2 false true [[.slr 1 1 0 3,.int .i64 (-1)],[.slr 1 2 0 3,.int .i64 (-1)],[.slr 1 3 0 3,.int .i64 (-1)]],.live 1 true false [[.int .i64 (-10000)],[.int .i64 (-10000)],[.int .i64 (-10000)]],.live 1 true false [[.int .i64 (-10000)],[.int .i64 (-10000)],[.int .i64 (-10000)]],.live 1 true false [[.int .i64 (-10000)],[.int .i64 (-10000)],[.int .i64 (-10000)]]])⟩
def E3:Ent:=⟨21,[exA,.int .i64 0,.imm 1 true [[.int .i64 2]]],(.ret (.tup [.int .i64 3,.int .i64 0]),[])⟩
def E4:Ent:=⟨21,[exA,.int .i64 0,.imm 1 true [[.int .i64 0]]],(.ret (.tup [.int .i64 0,.int .i64 5]),[])⟩
theorem ajI:(Ls Tryz.prog pr2 400).call (.fn E0.f) E0.args []=some E0.res:=by kernel_rfl
theorem pU:Da.call (.fn E0.f) E0.args []=some E0.res:=Ol (pr:=pr) (pr2:=pr2) rfl agM Yg ajI
def T1:Ft:=Wb pr2 [E0]
theorem amW:∀f p,T1 f=some p→∀a h r,p a h=some r→Da.call (.fn f) a h=some r:=Si Yg (fun e he=>by
 simp only[acR,acT,or_false]at he
 rcases he with rfl
 ·exact pU)
theorem aiI:(Ls Tryz.prog T1 400).call (.fn E1.f) E1.args []=some E1.res:=by kernel_rfl
theorem abI:Da.call (.fn E1.f) E1.args []=some E1.res:=Ol (pr:=pr) (pr2:=T1) rfl lR amW aiI
def T2:Ft:=Wb pr2 [E0,E1]
theorem am5:∀f p,T2 f=some p→∀a h r,p a h=some r→Da.call (.fn f) a h=some r:=Si Yg (fun e he=>by
 simp only[acR,acT,or_false]at he
 rcases he with rfl|rfl
 ·exact pU
 ·exact abI)
theorem akS:(Ls Tryz.prog T2 400).call (.fn E2.f) E2.args []=some E2.res:=by kernel_rfl
theorem anL:Da.call (.fn E2.f) E2.args []=some E2.res:=Ol (pr:=pr) (pr2:=T2) rfl lR am5 akS
def T3:Ft:=Wb pr2 [E0,E1]
theorem anQ:∀f p,T3 f=some p→∀a h r,p a h=some r→Da.call (.fn f) a h=some r:=Si Yg (fun e he=>by
 simp only[acR,acT,or_false]at he
 rcases he with rfl|rfl
 ·exact pU
 ·exact abI)
theorem ah3:(Ls Tryz.prog T3 400).call (.fn E3.f) E3.args []=some E3.res:=by kernel_rfl
theorem al5:Da.call (.fn E3.f) E3.args []=some E3.res:=Ol (pr:=pr) (pr2:=T3) rfl lR anQ ah3
def T4:Ft:=Wb pr2 [E0,E1]
theorem am4:∀f p,T4 f=some p→∀a h r,p a h=some r→Da.call (.fn f) a h=some r:=Si Yg (fun e he=>by
 simp only[acR,acT,or_false]at he
 rcases he with rfl|rfl
 ·exact pU
 ·exact abI)
theorem aiA:(Ls Tryz.prog T4 400).call (.fn E4.f) E4.args []=some E4.res:=by kernel_rfl
theorem anP:Da.call (.fn E4.f) E4.args []=some E4.res:=Ol (pr:=pr) (pr2:=T4) rfl lR am4 aiA
def TK:Ft:=Wb pr2 [E2,E3,E4]
theorem anU:∀f p,TK f=some p→∀a h r,p a h=some r→Da.call (.fn f) a h=some r:=Si Yg (fun e he=>by
 simp only[acR,acT,or_false]at he
 rcases he with rfl|rfl|rfl
 ·exact anL
 ·exact al5
 ·exact anP)
theorem sQ:(Ls Tryz.prog TK 400).call (.fn 6) [] []=some (.ret (.bool true),[]):=by kernel_rfl
theorem aaA:Da.call (.fn 6) [] []=some (.ret (.bool true),[]):=Ol (pr:=pr) (pr2:=TK) rfl lR anU sQ
theorem nN{α:Type}{f:α→List AV}(h:∀x m,Bw.refL (Bw 8) m (f x)=some (f x,m)):∀(l:List α) (m:List Nat),Fb m (l.map f)=some (l.map f,m)
 | [],_=>rfl
 |x::l,m=>by
  rw[acU,Fb,h x m]
  show Option.map _ (Fb m (l.map f))=_
  rw[nN h l m];rfl
theorem iW{α:Type}{f:α→List AV}(h:∀x (g:Nat→Nat),Ah (Bf 8 g) (f x)=some (f x)):∀(l:List α) (g:Nat→Nat),Ah (Ah (Bf 8 g)) (l.map f)=some (l.map f)
 | [],_=>rfl
 |x::l,g=>by
  rw[acU,Ah,h x g]
  show Option.map _ (Ah (Ah (Bf 8 g)) (l.map f))=_
  rw[iW h l g];rfl
theorem xT(x:Ak)(g:Nat→Nat):Ah (Bf 8 g) x.cells=some x.cells:=by
 obtain⟨nn,l,a,b,c⟩:=x
 cases l<;>cases nn<;>rfl
theorem zN(x:Ai)(g:Nat→Nat):Ah (Bf 8 g) x.cells=some x.cells:=by
 obtain⟨a,b,nn,l,c,d⟩:=x
 cases l<;>cases nn<;>rfl
theorem abP(x:Ak)(m:List Nat):Bw.refL (Bw 8) m x.cells=some (x.cells,m):=by
 obtain⟨nn,l,a,b,c⟩:=x
 cases l<;>cases nn<;>rfl
theorem aa3(x:Ai)(m:List Nat):Bw.refL (Bw 8) m x.cells=some (x.cells,m):=by
 obtain⟨a,b,nn,l,c,d⟩:=x
 cases l<;>cases nn<;>rfl
theorem nI:Da.call (.fn 37) [.nils] []=some (.ret .nils,[]):=by
 (refine ce Tryz.func37 ?_;simp only[Tryz.f37];(have hb:=trivial;with_reducible repeat' (first|simp only[hb,Va.down,seval,agR.down]|refine Au ?_ ?_<;>intro hb|refine fd ?_|fail)))
theorem iZ{l:List Int}(hl:l.length≤1000):Da.call (.fn 37) [.imm 1 true (l.map iv)] []=some (.ret (.slr 1 0 0 l.length),[.live 1 true false (l.map iv)]):=by
 cases l with
 |nil=>
  (refine ce Tryz.func37 ?_;simp only[Tryz.f37];(have hb:=trivial;with_reducible repeat' (first|simp only[hb,Va.down,seval,agR.down,acP]|refine Au ?_ ?_<;>intro hb|refine fd ?_|fail)))
 |cons x l=>
  have h39:(l.length+1≤549755813888)=True:=eq_true (by simp at hl;omega)
  (refine ce Tryz.func37 ?_;simp only[Tryz.f37];(have hb:=trivial;with_reducible repeat' (first|simp only[hb,Va.down,seval,agR.down,aaP,h39,iv]|refine Au ?_ ?_<;>intro hb|refine fd ?_|fail)))
theorem ag8:Da.call (.fn 54) [.nils] []=some (.ret .nils,[]):=by
 (refine ce Tryz.func54 ?_;simp only[Tryz.f54];(have hb:=trivial;with_reducible repeat' (first|simp only[hb,Va.down,seval,ajZ.down]|refine Au ?_ ?_<;>intro hb|refine fd ?_|fail)))
theorem ak4{l:List Bg}(hl:l.length≤1000):Da.call (.fn 54) [.imm 3 true (l.map Bg.cells)] []=some (.ret (.slr 3 0 0 l.length),[.live 3 true false (l.map Bg.cells)]):=by
 cases l with
 |nil=>
  (refine ce Tryz.func54 ?_;simp only[Tryz.f54];(have hb:=trivial;with_reducible repeat' (first|simp only[hb,Va.down,seval,ajZ.down,acP]|refine Au ?_ ?_<;>intro hb|refine fd ?_|fail)))
 |cons x l=>
  have h39:(l.length+1≤549755813888)=True:=eq_true (by simp at hl;omega)
  (refine ce Tryz.func54 ?_;simp only[Tryz.f54];(have hb:=trivial;with_reducible repeat' (first|simp only[hb,Va.down,seval,ajZ.down,aaP,h39,Bg.cells]|refine Au ?_ ?_<;>intro hb|refine fd ?_|fail)))
theorem adK:Da.call (.fn 55) [.nils] []=some (.ret .nils,[]):=by
 (refine ce Tryz.func55 ?_;simp only[Tryz.f55];(have hb:=trivial;with_reducible repeat' (first|simp only[hb,Va.down,seval,ah5.down]|refine Au ?_ ?_<;>intro hb|refine fd ?_|fail)))
theorem aeZ{l:List Ak}(hl:l.length≤1000):Da.call (.fn 55) [.imm 4 false (l.map Ak.cells)] []=some (.ret (.slr 4 0 0 l.length),[.live 4 false false (l.map Ak.cells)]):=by
 cases l with
 |nil=>
  (refine ce Tryz.func55 ?_;simp only[Tryz.f55];(have hb:=trivial;with_reducible repeat' (first|simp only[hb,Va.down,seval,ah5.down,acP]|refine Au ?_ ?_<;>intro hb|refine fd ?_|fail)))
 |cons x l=>
  have h39:(l.length+1≤549755813888)=True:=eq_true (by simp at hl;omega)
  have hrr:=nN abP l
  (refine ce Tryz.func55 ?_;simp only[Tryz.f55];(have hb:=trivial;with_reducible repeat' (first|simp only[hb,Va.down,seval,ah5.down,aaP,h39,hrr,Ak.cells]|refine Au ?_ ?_<;>intro hb|refine fd ?_|fail)))
theorem aeV:Da.call (.fn 56) [.nils] []=some (.ret .nils,[]):=by
 (refine ce Tryz.func56 ?_;simp only[Tryz.f56];(have hb:=trivial;with_reducible repeat' (first|simp only[hb,Va.down,seval,ag2.down]|refine Au ?_ ?_<;>intro hb|refine fd ?_|fail)))
theorem adV{l:List Ai}(hl:l.length≤1000):Da.call (.fn 56) [.imm 5 false (l.map Ai.cells)] []=some (.ret (.slr 5 0 0 l.length),[.live 5 false false (l.map Ai.cells)]):=by
 cases l with
 |nil=>
  (refine ce Tryz.func56 ?_;simp only[Tryz.f56];(have hb:=trivial;with_reducible repeat' (first|simp only[hb,Va.down,seval,ag2.down,acP]|refine Au ?_ ?_<;>intro hb|refine fd ?_|fail)))
 |cons x l=>
  have h39:(l.length+1≤549755813888)=True:=eq_true (by simp at hl;omega)
  have hrr:=nN aa3 l
  (refine ce Tryz.func56 ?_;simp only[Tryz.f56];(have hb:=trivial;with_reducible repeat' (first|simp only[hb,Va.down,seval,ag2.down,aaP,h39,hrr,Ai.cells]|refine Au ?_ ?_<;>intro hb|refine fd ?_|fail)))
theorem aeD:Da.call (.fn 57) [.nils] []=some (.ret .nils,[]):=by
 (refine ce Tryz.func57 ?_;simp only[Tryz.f57];(have hb:=trivial;with_reducible repeat' (first|simp only[hb,Va.down,seval,aiM.down]|refine Au ?_ ?_<;>intro hb|refine fd ?_|fail)))
theorem afO{l:List Aq}(hl:l.length≤1000):Da.call (.fn 57) [.imm 2 true (l.map Aq.cells)] []=some (.ret (.slr 2 0 0 l.length),[.live 2 true false (l.map Aq.cells)]):=by
 cases l with
 |nil=>
  (refine ce Tryz.func57 ?_;simp only[Tryz.f57];(have hb:=trivial;with_reducible repeat' (first|simp only[hb,Va.down,seval,aiM.down,acP]|refine Au ?_ ?_<;>intro hb|refine fd ?_|fail)))
 |cons x l=>
  have h39:(l.length+1≤549755813888)=True:=eq_true (by simp at hl;omega)
  (refine ce Tryz.func57 ?_;simp only[Tryz.f57];(have hb:=trivial;with_reducible repeat' (first|simp only[hb,Va.down,seval,aiM.down,aaP,h39,Aq.cells]|refine Au ?_ ?_<;>intro hb|refine fd ?_|fail)))
theorem Rj(st:Nat)(fl nn:Bool)(rows:List (List AV)):(nn=false∧rows=[]∧Ad st fl nn rows=.nils)∨Ad st fl nn rows=.imm st fl rows:=by
 cases rows with
 |nil=>cases nn with
  |false=>exact .inl ⟨rfl,rfl,rfl⟩
  |true=>exact .inr rfl
 |cons r l=>exact .inr rfl
theorem Db{h:Aa}{b:Nat}{c:CB}(e:h[b]?=some c):b<h.length:=(ahO.1 e).1
theorem oG{g:HF}{d:Nat}(b:Bool):rd (d+1) g (.bool b)=some (.bool b,[]):=rfl
theorem akZ{g:HF}{d st b n:Nat}{rows:List (List AV)}{q:List (List AV) × List Nat}(h:(g b).bind Az=some (st,false,rows))(hn:n=rows.length)(hq:Bh (rd d g) rows=some q):rd (d+1) g (.slr st b 0 n)=some (.imm st false q.1,b::q.2):=by
 subst hn;simp[rd,h,hq]
theorem _root_.Go.Ev.Ip.set(h:Aa)(b:Nat)(c:CB):Ip [b] h (h.set b c):=⟨by simp,fun b' _ hn=>ahZ (fun e=>hn (by simp[e]))⟩
structure SI{α:Type}(st:Nat)(f:α→List AV)(l:List α)(h0:Aa)(b i:Nat)(h:Aa):Prop where
 keep:Ip [b] h0 h
 at_:∃w rows R,h[b]?=some (.live st false w rows)∧rows.length=l.length∧Bh (rd 4 (hf h)) (rows.take i)=some ((l.take i).map f,R)∧rows.drop i=(l.drop i).map f∧(∀x∈R,h0.length≤x∧x<h.length)∧R.length≤i
theorem iU{α:Type}{f:α→List AV}{rows:List (List AV)}{l:List α}{i:Nat}{x:α}(hl:rows.length=l.length)(hd:rows.drop i=(l.drop i).map f)(hx:l[i]?=some x):rows[i]?=some (f x)∧∀c,(rows.set i c).drop (i+1)=(l.drop (i+1)).map f∧(rows.set i c).take (i+1)=rows.take i++[c]:=by
 have hi:i<l.length:=(ahO.1 hx).1
 have h1:rows[i]?=some (f x):=by
  have:=congrArg (·[0]?) hd
  simp only[List.getElem?_drop,alA,Nat.add_zero,hx,Option.map_some]at this
  exact this
 refine⟨h1,fun c=>⟨?_,?_⟩⟩
 ·have:(rows.drop i).drop 1=((l.drop i).map f).drop 1:=by rw[hd]
  rw[alB,←List.map_drop,alB]at this
  rw[List.drop_set_of_lt (by omega)]
  simpa [Nat.add_comm]using this
 ·rw[alC,List.take_set_of_le (by omega),ai3 (by omega)]
  rfl
theorem tK{α:Type}{l:List α}{i:Nat}{x:α}(hx:l[i]?=some x):l.take (i+1)=l.take i++[x]:=by
 rw[alC,hx];rfl
theorem SI.next{α:Type}{st:Nat}{f:α→List AV}{l:List α}{h0:Aa}{b i:Nat}{h:Aa}{w:Bool}{rows:List (List AV)}{R:List Nat}(k:Ip [b] h0 h)(hb:b<h0.length)(hw:h[b]?=some (.live st false w rows))(hl:rows.length=l.length)
 (hr:Bh (rd 4 (hf h)) (rows.take i)=some ((l.take i).map f,R)) (hd:rows.drop i=(l.drop i).map f) (hR:∀x∈R,h0.length≤x∧x<h.length) (hn:R.length≤i) {x:α} (hx:l[i]?=some x) (a:Aa) (c:List AV) (R1:List Nat) (w':Bool)
 (hc:Iy (rd 4 (hf (h++a))) c=some (f x,R1)) (h1:∀y∈R1,h.length≤y∧y<(h++a).length) (h2:R1.length≤1):SI st f l h0 b (i+1) ((h++a).set b (.live st false w' (rows.set i c))):=by
 have hbl:b<h.length:=ai7 hb k.len
 have e:=iU hl hd hx
 have agr:∀(S:List Nat) (g:Aa),(∀y∈S,y≠b)→wL S (hf g) (hf (g.set b (.live st false w' (rows.set i c)))):=fun S g hS y hy z hz=>by
  show((g.set b _)[y]?).bind Az=_
  rw[ahZ (fun e=>hS y hy e.symm)];exact hz
 refine⟨((k.trans (Ip.app h a)).trans (Ip.set _ b _)).mono (fun y hy=>by simp at hy;simp[hy]),w',rows.set i c,R++R1,ai3 (by simp;omega),by simpa using hl,?_,(e.2 c).1,fun y hy=>?_,by simp;omega⟩
 ·rw[(e.2 c).2,tK hx,List.map_append]
  refine Qy (p:=((l.take i).map f,R)) (q:=(f x,R1)) ?_ ?_
  ·exact Jk hr (fun y hy z hz=>agr R (h++a) (fun y hy=>by have:=hR y hy;omega) y hy z (by
    show((h++a)[y]?).bind Az=_
    rw[agG (hR y hy).2];exact hz))
  ·exact Kv hc (agr R1 _ fun y hy=>by have:=h1 y hy;omega)
 ·have hlen:=k.len
  rcases List.mem_append.1 hy with hy|hy
  ·have:=hR y hy;simp;omega
  ·have:=h1 y hy;simp at this ⊢;omega
theorem SI.zero{α:Type}{st:Nat}{f:α→List AV}{l:List α}{h0:Aa}{b:Nat}{w:Bool}(hw:h0[b]?=some (.live st false w (l.map f))):SI st f l h0 b 0 h0:=
 ⟨(Ip.refl h0).mono (fun y hy=>by simp at hy),w,l.map f,[],hw,by simp,rfl,by simp,fun y hy=>by simp at hy,ajX _⟩
theorem SI.done{α:Type}{st:Nat}{f:α→List AV}{l:List α}{h0:Aa}{b:Nat}{h:Aa}{nn:Bool}(S:SI st f l h0 b l.length h)(hs:Ad st false nn (l.map f)=.imm st false (l.map f)):∃R,rd 5 (hf h) (.slr st b 0 l.length)=some (Ad st false nn (l.map f),b::R)∧(∀x∈R,h0.length≤x∧x<h.length)∧R.length≤l.length:=by
 obtain⟨w,rows,R,hw,hl,hr,hd,hR,hn⟩:=S.at_
 rw[agK (by omega),agK (ajX _)]at hr
 refine⟨R,?_,hR,hn⟩
 rw[hs]
 have e:((hf h) b).bind Az=some (st,false,rows):=by show(h[b]?).bind Az=_;rw[hw];rfl
 exact akZ e hl.symm hr
structure Ap.tiny(m:Ap):Prop where
 sens:m.sens.length≤1000
 votes:m.votes.length≤1000
 moves:m.moves.length≤1000
 opn:m.opn.length≤1000
 vs:∀v∈m.votes,v.sens.length≤1000
 ws:∀x∈m.moves,x.wants.length≤1000
def SlO(st b:Nat)(rows:List (List AV))(nn:Bool)(v:AV)(h:Aa):Prop:=
 (Ad st false nn rows=.nils∧rows=[]∧v=.nils)∨(Ad st false nn rows=.imm st false rows∧v=.slr st b 0 rows.length∧b<h.length∧∃w,h[b]?=some (.live st false w rows))
def sA{α:Type}(st:Nat)(f:α→List AV)(l:List α)(nn:Bool)(v:AV)(h0:Aa)(b i:Nat)(h:Aa):Prop:=
 (Ad st false nn (l.map f)=.nils∧l=[]∧v=.nils∧Ip [] h0 h)∨(Ad st false nn (l.map f)=.imm st false (l.map f)∧v=.slr st b 0 l.length∧b<h0.length∧SI st f l h0 b i h)
theorem SlO.zero{α:Type}{st:Nat}{f:α→List AV}{l:List α}{nn:Bool}{v:AV}{h0:Aa}{b:Nat}(h:SlO st b (l.map f) nn v h0):sA st f l nn v h0 b 0 h0:=by
 rcases h with⟨h1,h2,h3⟩|⟨h1,h2,h3,w,h4⟩
 ·exact .inl ⟨h1,akD.1 h2,h3,Ip.refl h0⟩
 ·exact .inr ⟨h1,by simpa using h2,h3,SI.zero h4⟩
theorem sA.keep{α:Type}{st:Nat}{f:α→List AV}{l:List α}{nn:Bool}{v:AV}{h0 h:Aa}{b i:Nat}(D:sA st f l nn v h0 b i h):Ip [b] h0 h:=by
 rcases D with⟨_,_,_,k⟩|⟨_,_,_,k⟩
 ·exact k.mono (fun y hy=>by simp at hy)
 ·exact k.keep
theorem sA.read{α:Type}{st:Nat}{f:α→List AV}{l:List α}{nn:Bool}{v:AV}{h0 h:Aa}{b:Nat}(D:sA st f l nn v h0 b l.length h):∃R,rd 5 (hf h) v=some (Ad st false nn (l.map f),R)∧(∀x∈R,(x=b∧b<h0.length)∨(h0.length≤x∧x<h.length))∧R.length≤l.length+1:=by
 rcases D with⟨h1,h2,h3,_⟩|⟨h1,h2,h3,S⟩
 ·exact⟨[],by rw[h1,h3];rfl,fun x hx=>by simp at hx,by simp⟩
 ·obtain⟨R,r1,r2,r3⟩:=S.done h1
  exact⟨b::R,by rw[h2];exact r1,fun x hx=>by
   rcases acR.1 hx with rfl|hx
   ·exact .inl ⟨rfl,h3⟩
   ·exact .inr (r2 x hx),by simpa using r3⟩
theorem sA.agr{α:Type}{st:Nat}{f:α→List AV}{l:List α}{nn:Bool}{v:AV}{h0 h:Aa}{b i:Nat}(D:sA st f l nn v h0 b i h){R:List Nat}(hR:∀x∈R,x<h0.length∧(b<h0.length→v≠.nils→x≠b)):wL R (hf h0) (hf h):=by
 rcases D with⟨_,_,_,k⟩|⟨_,hv,hl,S⟩
 ·exact k.agr (fun x hx=>⟨(hR x hx).1,by simp⟩)
 ·exact S.keep.agr (fun x hx=>⟨(hR x hx).1,by simpa using (hR x hx).2 hl (by rw[hv];simp)⟩)
theorem SlO.mono{st b:Nat}{rows:List (List AV)}{nn:Bool}{v:AV}{h g:Aa}{X:List Nat}(o:SlO st b rows nn v h)(k:Ip X h g)(hb:b∉X):SlO st b rows nn v g:=by
 rcases o with h1|⟨h1,h2,h3,w,h4⟩
 ·exact .inl h1
 ·exact .inr ⟨h1,h2,ai7 h3 k.len,w,by rw[k.same b h3 hb];exact h4⟩
theorem sA.len{α:Type}{st:Nat}{f:α→List AV}{l:List α}{nn:Bool}{v:AV}{h0 h:Aa}{b i:Nat}(D:sA st f l nn v h0 b i h):v=.nils∧l.length=0∨v=.slr st b 0 l.length:=by
 rcases D with⟨_,h2,h3,_⟩|⟨_,h2,_,_⟩
 ·exact .inl ⟨h3,by rw[h2];rfl⟩
 ·exact .inr h2
theorem aiZ(m:Ap)(hM:m.tiny)(ho:m.opn≠[]):RdV Da 24 [.agg [Ad 3 true m.nS (m.sens.map Bg.cells),Ad 4 false m.nV (m.votes.map Ak.cells),Ad 5 false m.nM (m.moves.map Ai.cells),.int .i64 m.states,.int .i64 m.cmds,.int .i64 m.bgn,Ad 1 true m.nO (m.opn.map iv)]] (.agg m.cells) (4+m.votes.length+m.moves.length):=by
 refine RdV.of ?_
 refine agV rfl Tryz.func24 rfl rfl ?_
 simp only[Tryz.f24]
 generalize hC2:Code.seq (Code.seq (Code.region 2 _ _) _) _=C2
 have key:∀(t:Tm) (h:Aa) (sv vv mv ov:AV) (vb mb:Nat) (Rs Ro:List Nat) (w w1:Bool),t 1=.ptr 0 0 0→t 2=.ptr 1 0 0→h[0]?=some (.live 7 false w [[sv,vv,mv,.int .i64 m.states,.int .i64 m.cmds,.int .i64 m.bgn,ov]])→h[1]?=some (.live 7 false w1 [[.nils,.nils,.nils,.int .i64 0,.int .i64 0,.int .i64 0,.nils]])→
  rd 5 (hf h) sv=some (Ad 3 true m.nS (m.sens.map Bg.cells),Rs)→rd 5 (hf h) ov=some (Ad 1 true m.nO (m.opn.map iv),Ro)→Rs.length≤1→Ro.length≤1→(∀b∈Rs++Ro,b<h.length∧2≤b∧b≠vb∧b≠mb)→
  SlO 4 vb (m.votes.map Ak.cells) m.nV vv h→SlO 5 mb (m.moves.map Ai.cells) m.nM mv h→2≤vb→2≤mb→vb≠mb→
  FnE Tryz.prog 0 [.cell 2 27] (fun o h'=>∃v R,o=.ret v∧rd 6 (hf h') v=some (.agg m.cells,R)∧R.length≤4+(m.votes.length+m.moves.length)∧∀c∈h',vY c) (Bz Da Tryz.prog 4996 C2 [] ⟨mk 60 t,h⟩):=by
  intro t h sv vv mv ov vb mb Rs Ro w w1 h1 h2 h0 h00 hsv hov hRs hRo hR hv hm hvb hmb hvm
  rw[←hC2]
  have V0:=hv.zero
  have hlv:ln Tryz.prog 23 (some vv)=some (.ret (.int .i64 (m.votes.length:Nat)),[]):=by
   rcases V0.len with⟨rfl,e⟩|rfl
   ·simp only[Va.down,seval,Vf.down,e]
   ·simp only[Va.down,seval,Vf.down]
  have hlm:ln Tryz.prog 24 (some mv)=some (.ret (.int .i64 (m.moves.length:Nat)),[]):=by
   rcases hm.zero.len with⟨rfl,e⟩|rfl
   ·simp only[Va.down,seval,Vf.down,e]
   ·simp only[Va.down,seval,Vf.down]
  refine Dt (fun KK iN hK=>?_)
  (have hb:=trivial;with_reducible repeat' (first|simp only[hb,Va.down,seval,Vf.down,h1,h2,h0,h00,hlv,hlm]|refine Au ?_ ?_<;>intro hb|refine fd ?_|fail))
  have lt0:0<h.length:=Db h0
  have lt1:1<h.length:=Db h00
  refine Ee (Uf 60 m.votes (fun i (_:Unit) t g=>t 1=.ptr 0 0 0∧t 2=.ptr 1 0 0∧t 23=.int .i64 (m.votes.length:Nat)∧t 24=.int .i64 i∧sA 4 Ak.cells m.votes m.nV vv h vb i g) (fun _ _=>())
   (fun _ e t g=>e=.exit 0∧t 1=.ptr 0 0 0∧t 2=.ptr 1 0 0∧sA 4 Ak.cells m.votes m.nV vv h vb m.votes.length g) ?_ ?_ () _ _ ?_) (fun e t g hk=>?_)
  ·rintro _ t g Q' kQ ⟨g1,g2,g23,g24,D⟩
   (have hb:=trivial;with_reducible repeat' (first|simp only[hb,Va.down,seval,Vf.down,g23,g24,acS,decide_false]|refine Au ?_ ?_<;>intro hb|refine fd ?_|fail))
   exact kQ _ _ _ ⟨rfl,by simp[up,g1],by simp[up,g2],D⟩
  ·rintro x rest i _ t g J Q' kJ kQ hx hi ⟨g1,g2,g23,g24,D⟩
   have hdd:decide ((i:Int)<(m.votes.length:Int))=true:=decide_eq_true (by omega)
   have hdi:((i:Int)<(m.votes.length:Int))=True:=eq_true (by omega)
   have hww:=As hi (by have:=hM.votes;unfold maxLen;omega)
   rcases D with⟨_,h2e,_⟩|⟨hs,hve,hbl,S⟩
   ·rw[h2e]at hx;simp at hx
   subst hve
   obtain⟨w',rows,R,hw',hl',hr',hd',hR',hn'⟩:=S.at_
   have hrow:=(iU hl' hd' hx).1
   simp only[Ak.cells]at hrow
   have g0:g[0]?=_:=(S.keep.same 0 lt0 (by simp;omega)).trans h0
   have hsx:=hM.vs x (afG hx)
   have hgl:=S.keep.len
   have hsb:bI (g.length-1) 2 vb=1000:=by unfold bI;rw[if_neg (by omega)];omega
   have hs0:bI (g.length-1) 2 g.length=1001:=by unfold bI;rw[if_neg (by omega)];omega
   have gA0:=Bi g0
   have gAv:=Bi hw'
   have hci:=iZ hsx
   rcases Rj 1 true x.nn (x.sens.map iv)with⟨e1,e2,e3⟩|e3
   ·rw[e3]at hrow
    (have hb:=trivial;with_reducible repeat' (first|simp only[hb,Va.down,seval,Vf.down,g1,g2,g23,g24,hdd,hdi,hww,g0,hw',hrow,nI]|refine Au ?_ ?_<;>intro hb|((refine iK (g.length-1) 2 ?_ ?_);(simp (discharger:=decide) only[fL,aE,acU,acP,Rk,Yi,bU,Xd,aI,agI,acV,hsb,hs0];kernel_rfl);intro _)|refine fdq ?_|fail))
    refine Bl (kJ _ _ () ⟨by simp[up,g1],by simp[up,g2],by simp[up,g23],by simp[up],.inr ⟨hs,rfl,hbl,?_⟩⟩ rfl)
    have hq:rd 4 (hf (g++[])) .nils=some (Ad 1 true x.nn (x.sens.map iv),[]):=by rw[e3];rfl
    have N:=SI.next S.keep hbl hw' hl' hr' hd' hR' hn' hx [] [.nils,.int .i64 x.need,.int .i64 x.level,.bool x.above] [] true (Bn hq (Bn (Il ..) (Bn (Il ..) (Bn (oG ..) Vs)))) (fun y hy=>by simp at hy) (by simp)
    simpa using N
   ·rw[e3]at hrow
    (have hb:=trivial;with_reducible repeat' (first|simp only[hb,Va.down,seval,Vf.down,g1,g2,g23,g24,hdd,hdi,hww,g0,hw',hrow,hci,gA0,gAv]|refine Au ?_ ?_<;>intro hb|((refine iK (g.length-1) 2 ?_ ?_);(simp (discharger:=decide) only[fL,aE,acU,acP,Rk,Yi,bU,Xd,aI,agI,acV,hsb,hs0];kernel_rfl);intro _)|refine fdq ?_|fail))
    refine Bl (kJ _ _ () ⟨by simp[up,g1],by simp[up,g2],by simp[up,g23],by simp[up],.inr ⟨hs,rfl,hbl,?_⟩⟩ rfl)
    have hq:rd 4 (hf (g++[.live 1 true false (x.sens.map iv)])) (.slr 1 g.length 0 x.sens.length)=some (Ad 1 true x.nn (x.sens.map iv),[g.length]):=by rw[e3];exact Lh (by show((g++[_])[g.length]?).bind Az=_;simp[Az]) (by simp)
    exact SI.next S.keep hbl hw' hl' hr' hd' hR' hn' hx [.live 1 true false (x.sens.map iv)] [.slr 1 g.length 0 x.sens.length,.int .i64 x.need,.int .i64 x.level,.bool x.above] [g.length] true
     (Bn hq (Bn (Il ..) (Bn (Il ..) (Bn (oG ..) Vs)))) (fun y hy=>by simp at hy;simp[hy]) (by simp)
  ·exact⟨by simp[up,h1],by simp[up,h2],by simp[up],by simp[up],V0⟩
  obtain⟨rfl,g1,g2,D⟩:=hk
  have gl:=D.keep.len
  have g0:g[0]?=_:=(D.keep.same 0 lt0 (by simp;omega)).trans h0
  have g00:g[1]?=_:=(D.keep.same 1 lt1 (by simp;omega)).trans h00
  have M0:=(hm.mono D.keep (by simpa using fun e=>hvm e.symm)).zero
  (have hb:=trivial;with_reducible repeat' (first|simp only[hb,Va.down,seval,Vf.down,g1,g2,g0,g00,hlm]|refine Au ?_ ?_<;>intro hb|refine fd ?_|fail))
  refine Ee (Uf 60 m.moves (fun i (_:Unit) t f=>t 1=.ptr 0 0 0∧t 2=.ptr 1 0 0∧t 42=.int .i64 (m.moves.length:Nat)∧t 43=.int .i64 i∧sA 5 Ai.cells m.moves m.nM mv g mb i f) (fun _ _=>())
   (fun _ e t f=>e=.exit 2∧t 1=.ptr 0 0 0∧t 2=.ptr 1 0 0∧sA 5 Ai.cells m.moves m.nM mv g mb m.moves.length f) ?_ ?_ () _ _ ?_) (fun e t f hk=>?_)
  ·rintro _ t f Q' kQ ⟨f1,f2,f42,f43,E⟩
   (have hb:=trivial;with_reducible repeat' (first|simp only[hb,Va.down,seval,Vf.down,f42,f43,acS,decide_false]|refine Au ?_ ?_<;>intro hb|refine fd ?_|fail))
   exact kQ _ _ _ ⟨rfl,by simp[up,f1],by simp[up,f2],E⟩
  ·rintro x rest i _ t f J Q' kJ kQ hx hi ⟨f1,f2,f42,f43,E⟩
   have hdd:decide ((i:Int)<(m.moves.length:Int))=true:=decide_eq_true (by omega)
   have hdi:((i:Int)<(m.moves.length:Int))=True:=eq_true (by omega)
   have hww:=As hi (by have:=hM.moves;unfold maxLen;omega)
   rcases E with⟨_,h2e,_⟩|⟨hs,hve,hbl,S⟩
   ·rw[h2e]at hx;simp at hx
   subst hve
   obtain⟨w',rows,R,hw',hl',hr',hd',hR',hn'⟩:=S.at_
   have hrow:=(iU hl' hd' hx).1
   simp only[Ai.cells]at hrow
   have f0:f[0]?=_:=(S.keep.same 0 (by omega) (by simp;omega)).trans g0
   have hsx:=hM.ws x (afG hx)
   have hgl:=S.keep.len
   have hsb:bI (f.length-1) 2 mb=1000:=by unfold bI;rw[if_neg (by omega)];omega
   have hs0:bI (f.length-1) 2 f.length=1001:=by unfold bI;rw[if_neg (by omega)];omega
   have gA0:=Bi f0
   have gAv:=Bi hw'
   have hci:=afO hsx
   rcases Rj 2 true x.nn (x.wants.map Aq.cells)with⟨e1,e2,e3⟩|e3
   ·rw[e3]at hrow
    (have hb:=trivial;with_reducible repeat' (first|simp only[hb,Va.down,seval,Vf.down,f1,f2,f42,f43,hdd,hdi,hww,f0,hw',hrow,aeD]|refine Au ?_ ?_<;>intro hb|((refine iK (f.length-1) 2 ?_ ?_);(simp (discharger:=decide) only[fL,aE,acU,acP,Rk,Yi,bU,Xd,aI,agI,acV,hsb,hs0];kernel_rfl);intro _)|refine fdq ?_|fail))
    refine Bl (kJ _ _ () ⟨by simp[up,f1],by simp[up,f2],by simp[up,f42],by simp[up],.inr ⟨hs,rfl,hbl,?_⟩⟩ rfl)
    have hq:rd 4 (hf (f++[])) .nils=some (Ad 2 true x.nn (x.wants.map Aq.cells),[]):=by rw[e3];rfl
    have N:=SI.next S.keep hbl hw' hl' hr' hd' hR' hn' hx [] [.int .i64 x.frm,.int .i64 x.to,.nils,.int .i64 x.cmd,.int .i64 x.after] [] true (Bn (Il ..) (Bn (Il ..) (Bn hq (Bn (Il ..) (Bn (Il ..) Vs))))) (fun y hy=>by simp at hy) (by simp)
    simpa using N
   ·rw[e3]at hrow
    (have hb:=trivial;with_reducible repeat' (first|simp only[hb,Va.down,seval,Vf.down,f1,f2,f42,f43,hdd,hdi,hww,f0,hw',hrow,hci,gA0,gAv]|refine Au ?_ ?_<;>intro hb|((refine iK (f.length-1) 2 ?_ ?_);(simp (discharger:=decide) only[fL,aE,acU,acP,Rk,Yi,bU,Xd,aI,agI,acV,hsb,hs0];kernel_rfl);intro _)|refine fdq ?_|fail))
    refine Bl (kJ _ _ () ⟨by simp[up,f1],by simp[up,f2],by simp[up,f42],by simp[up],.inr ⟨hs,rfl,hbl,?_⟩⟩ rfl)
    have hq:rd 4 (hf (f++[.live 2 true false (x.wants.map Aq.cells)])) (.slr 2 f.length 0 x.wants.length)=some (Ad 2 true x.nn (x.wants.map Aq.cells),[f.length]):=by rw[e3];exact Lh (by show((f++[_])[f.length]?).bind Az=_;simp[Az]) (by simp)
    exact SI.next S.keep hbl hw' hl' hr' hd' hR' hn' hx [.live 2 true false (x.wants.map Aq.cells)] [.int .i64 x.frm,.int .i64 x.to,.slr 2 f.length 0 x.wants.length,.int .i64 x.cmd,.int .i64 x.after] [f.length] true
     (Bn (Il ..) (Bn (Il ..) (Bn hq (Bn (Il ..) (Bn (Il ..) Vs))))) (fun y hy=>by simp at hy;simp[hy]) (by simp)
  ·exact⟨by simp[up,g1],by simp[up,g2],by simp[up],by simp[up],M0⟩
  obtain⟨rfl,f1,f2,E⟩:=hk
  have fl:=E.keep.len
  have f0:f[0]?=_:=(E.keep.same 0 (by omega) (by simp;omega)).trans g0
  have f00:f[1]?=_:=(E.keep.same 1 (by omega) (by simp;omega)).trans g00
  obtain⟨Rv,r1,r2,r3⟩:=D.read
  obtain⟨Rm,s1,s2,s3⟩:=E.read
  have cs:sv.isCell=true∧sv.flat=false:=Py hsv
  have co:ov.isCell=true∧ov.flat=false:=Py hov
  have cv:vv.isCell=true∧vv.flat=false:=Py r1
  have cm:mv.isCell=true∧mv.flat=false:=Py s1
  obtain⟨cs1,cs2⟩:=cs
  obtain⟨co1,co2⟩:=co
  obtain⟨cv1,cv2⟩:=cv
  obtain⟨cm1,cm2⟩:=cm
  have fs1:∀c,(f.set 1 c)[1]?=some c:=fun c=>ai3 (by omega)
  (have hb:=trivial;with_reducible repeat' (first|simp only[hb,Va.down,seval,Vf.down,f1,f2,f0,f00,cs1,cs2,co1,co2,cv1,cv2,cm1,cm2,af2,afV,acQ,agA]|refine Au ?_ ?_<;>intro hb|refine fd ?_|fail))
  have ag1:∀(R:List Nat),(∀x∈R,2≤x)→∀c,wL R (hf f) (hf (f.set 1 c)):=fun R hR c x hx z hz=>by
   show((f.set 1 c)[x]?).bind Az=_
   rw[ahZ (by have:=hR x hx;omega)];exact hz
  have hmb1:mv≠.nils→mb<h.length:=fun hne=>by
   rcases hm with⟨_,_,h3⟩|⟨_,_,h3,_⟩
   ·exact(hne h3).elim
   ·exact h3
  have A:∀(R:List Nat) (x v:AV) c,(∀b∈R,b<h.length∧2≤b∧b≠vb∧b≠mb)→rd 5 (hf h) v=some (x,R)→rd 5 (hf (f.set 1 c)) v=some (x,R):=fun R x v c hR hv=>by
   have a1:=Jz hv (D.agr (R:=R) fun b hb'=>⟨(hR b hb').1,fun _ _=>(hR b hb').2.2.1⟩)
   have a2:=Jz a1 (E.agr (R:=R) fun b hb'=>⟨ai7 (hR b hb').1 gl,fun _ _=>(hR b hb').2.2.2⟩)
   exact Jz a2 (ag1 R (fun b hb'=>(hR b hb').2.1) c)
  have B:∀c,rd 5 (hf (f.set 1 c)) vv=some (Ad 4 false m.nV (m.votes.map Ak.cells),Rv):=fun c=>by
   have a2:=Jz r1 (E.agr (R:=Rv) fun b hb'=>by
    have hne:mv≠.nils→b≠mb:=fun hne=>by
     have:=hmb1 hne
     rcases r2 b hb' with⟨rfl,_⟩|h1
     ·exact hvm
     ·omega
    refine⟨?_,fun _=>hne⟩
    rcases r2 b hb' with⟨_,h1⟩|h1<;>omega)
   exact Jz a2 (ag1 Rv (fun b hb'=>by rcases r2 b hb' with⟨rfl,_⟩|h1<;>omega) c)
  have Cm:∀c,rd 5 (hf (f.set 1 c)) mv=some (Ad 5 false m.nM (m.moves.map Ai.cells),Rm):=fun c=>
   Jz s1 (ag1 Rm (fun b hb'=>by rcases s2 b hb' with⟨rfl,_⟩|h1<;>omega) c)
  refine hK _ ?_
  rw[nJ]
  refine yJ (vs:=[.agg [sv,vv,mv,.int .i64 m.states,.int .i64 m.cmds,.int .i64 m.bgn,ov]]) ?_ (abR (agH (Bn (A Rs _ _ _ (fun b h=>hR b (List.mem_append_left _ h)) hsv) (Bn (B _) (Bn (Cm _) (Bn (Il ..) (Bn (Il ..) (Bn (Il ..) (Bn (A Ro _ _ _ (fun b h=>hR b (List.mem_append_right _ h)) hov) Vs)))))))) ?_ fun v' h' R' k1 k2 k3=>⟨v',R',rfl,k1,?_,k3⟩)
  ·simp only[Va.down,seval,Vf.down,f2,fs1]
  ·have v1:=hM.votes
   have v2:=hM.moves
   simp only[alD,acV];omega
  ·rw[k2];simp only[alD,acV];omega
 have k1:=ak4 hM.sens
 have k2:=aeZ hM.votes
 have k3:=adV hM.moves
 have k5:=iW xT m.votes
 have k6:=iW zN m.moves
 have k4:=iZ hM.opn
 rcases Rj 1 true m.nO (m.opn.map iv)with⟨_,e,_⟩|e4
 ·exact(ho (akD.1 e)).elim
 rcases Rj 3 true m.nS (m.sens.map Bg.cells)with⟨f1,e1',e1⟩|e1<;>rcases Rj 4 false m.nV (m.votes.map Ak.cells)with⟨f2,e2',e2⟩|e2<;>rcases Rj 5 false m.nM (m.moves.map Ai.cells)with⟨f3,e3',e3⟩|e3
 all_goals rw[e1,e2,e3,e4]
 all_goals (have hb:=trivial;with_reducible repeat' (first|simp only[hb,Va.down,seval,Vf.down,ag8,adK,aeV,k1,k2,k3,k4,k5,k6]|refine Au ?_ ?_<;>intro hb|refine fd ?_|fail))
 ·exact key _ _ .nils .nils .nils (.slr 1 2 0 m.opn.length) 100 101 [] [2] true false (by simp[up]) (by simp[up]) rfl rfl (by rw[e1];rfl) (by rw[e4];exact Lh rfl (by simp)) (by simp) (by simp) (by simp) (.inl ⟨e2,e2',rfl⟩) (.inl ⟨e3,e3',rfl⟩) (by omega) (by omega) (by omega)
 ·exact key _ _ .nils .nils (.slr 5 2 0 m.moves.length) (.slr 1 3 0 m.opn.length) 100 2 [] [3] true false (by simp[up]) (by simp[up]) rfl rfl (by rw[e1];rfl) (by rw[e4];exact Lh rfl (by simp)) (by simp) (by simp) (by simp) (.inl ⟨e2,e2',rfl⟩) (.inr ⟨e3,by simp,by simp,_,rfl⟩) (by omega) (by omega) (by omega)
 ·exact key _ _ .nils (.slr 4 2 0 m.votes.length) .nils (.slr 1 3 0 m.opn.length) 2 101 [] [3] true false (by simp[up]) (by simp[up]) rfl rfl (by rw[e1];rfl) (by rw[e4];exact Lh rfl (by simp)) (by simp) (by simp) (by simp) (.inr ⟨e2,by simp,by simp,_,rfl⟩) (.inl ⟨e3,e3',rfl⟩) (by omega) (by omega) (by omega)
 ·exact key _ _ .nils (.slr 4 2 0 m.votes.length) (.slr 5 3 0 m.moves.length) (.slr 1 4 0 m.opn.length) 2 3 [] [4] true false (by simp[up]) (by simp[up]) rfl rfl (by rw[e1];rfl) (by rw[e4];exact Lh rfl (by simp)) (by simp) (by simp) (by simp) (.inr ⟨e2,by simp,by simp,_,rfl⟩) (.inr ⟨e3,by simp,by simp,_,rfl⟩) (by omega) (by omega) (by omega)
 ·exact key _ _ (.slr 3 2 0 m.sens.length) .nils .nils (.slr 1 3 0 m.opn.length) 100 101 [2] [3] true false (by simp[up]) (by simp[up]) rfl rfl (by rw[e1];exact Lh rfl (by simp)) (by rw[e4];exact Lh rfl (by simp)) (by simp) (by simp) (by simp) (.inl ⟨e2,e2',rfl⟩) (.inl ⟨e3,e3',rfl⟩) (by omega) (by omega) (by omega)
 ·exact key _ _ (.slr 3 2 0 m.sens.length) .nils (.slr 5 3 0 m.moves.length) (.slr 1 4 0 m.opn.length) 100 3 [2] [4] true false (by simp[up]) (by simp[up]) rfl rfl (by rw[e1];exact Lh rfl (by simp)) (by rw[e4];exact Lh rfl (by simp)) (by simp) (by simp) (by simp) (.inl ⟨e2,e2',rfl⟩) (.inr ⟨e3,by simp,by simp,_,rfl⟩) (by omega) (by omega) (by omega)
 ·exact key _ _ (.slr 3 2 0 m.sens.length) (.slr 4 3 0 m.votes.length) .nils (.slr 1 4 0 m.opn.length) 3 101 [2] [4] true false (by simp[up]) (by simp[up]) rfl rfl (by rw[e1];exact Lh rfl (by simp)) (by rw[e4];exact Lh rfl (by simp)) (by simp) (by simp) (by simp) (.inr ⟨e2,by simp,by simp,_,rfl⟩) (.inl ⟨e3,e3',rfl⟩) (by omega) (by omega) (by omega)
 ·exact key _ _ (.slr 3 2 0 m.sens.length) (.slr 4 3 0 m.votes.length) (.slr 5 4 0 m.moves.length) (.slr 1 5 0 m.opn.length) 3 4 [2] [5] true false (by simp[up]) (by simp[up]) rfl rfl (by rw[e1];exact Lh rfl (by simp)) (by rw[e4];exact Lh rfl (by simp)) (by simp) (by simp) (by simp) (.inr ⟨e2,by simp,by simp,_,rfl⟩) (.inr ⟨e3,by simp,by simp,_,rfl⟩) (by omega) (by omega) (by omega)
def zA(m:Ap)(st ag:Int)(nn:Bool)(l:List Av):List AV:=m.cells++[.int .i64 st,.int .i64 ag,Ad 2 false nn (l.map Av.cells),.bool true]
theorem fQ{g:HF}{d:Nat}{cs:List AV}{m:Ap}{R:List Nat}(h:Iy (rd (d+1) g) cs=some (m.cells,R)):∃sv vv mv ov,cs=[sv,vv,mv,.int .i64 m.states,.int .i64 m.cmds,.int .i64 m.bgn,ov]∧(sv.isCell=true∧sv.flat=false)∧(vv.isCell=true∧vv.flat=false)∧(mv.isCell=true∧mv.flat=false)∧(ov.isCell=true∧ov.flat=false):=by
 obtain⟨sv,l1,R1,S1,rfl,a1,h,_⟩:=Bj h
 obtain⟨vv,l2,R2,S2,rfl,a2,h,_⟩:=Bj h
 obtain⟨mv,l3,R3,S3,rfl,a3,h,_⟩:=Bj h
 obtain⟨i1,l4,R4,S4,rfl,a4,h,_⟩:=Bj h
 obtain⟨i2,l5,R5,S5,rfl,a5,h,_⟩:=Bj h
 obtain⟨i3,l6,R6,S6,rfl,a6,h,_⟩:=Bj h
 obtain⟨ov,l7,R7,S7,rfl,a7,h,_⟩:=Bj h
 obtain⟨rfl,_⟩:=iR h
 obtain⟨rfl,_⟩:=Pn a4
 obtain⟨rfl,_⟩:=Pn a5
 obtain⟨rfl,_⟩:=Pn a6
 exact⟨sv,vv,mv,ov,rfl,Py a1,Py a2,Py a3,Py a7⟩
theorem cC(m:Ap):[AV.agg m.cells].all (Ar 8)=true:=by simp[Qi,Qk,En]
theorem tV(g:HF)(m:Ap):[AV.agg m.cells].flatMap (Ao 12 g)=[]:=by
 rw[List.flatMap_cons,List.flatMap_nil,Jd (d:=8) (v:=.agg m.cells) _ (by omega) (by simp[Qi,Qk,En])];rfl
theorem yD(H:Aa)(m:Ap):Ah (Vi H) [.agg m.cells]=some [.agg m.cells]:=by
 have hs:Vi H (.agg m.cells)=some (.agg m.cells):=Gk _ (d:=8) (by omega) (by simp[Qi,Qk,En])
 simp only[Jh,Lr,hs,Hu]
theorem ah4(m:Ap)(hs:m.small)(hv:Dq m=false):Da.call (.fn 7) [.agg [Ad 3 true m.nS (m.sens.map Bg.cells),Ad 4 false m.nV (m.votes.map Ak.cells),Ad 5 false m.nM (m.moves.map Ai.cells),.int .i64 m.states,.int .i64 m.cmds,.int .i64 m.bgn,Ad 1 true m.nO (m.opn.map iv)]] []=some (.ret (.tup [.nilp,.int .i64 2]),[]):=by
 have h1:=iS m hs
 rw[hv]at h1
 (refine ce Tryz.func7 ?_;simp only[Tryz.f7];(have hb:=trivial;with_reducible repeat' (first|simp only[hb,Va.down,seval,TY7.down,h1]|refine Au ?_ ?_<;>intro hb|refine fd ?_|fail)))
theorem am8(m:Ap)(hs:m.small)(hM:m.tiny)(ho:m.opn≠[])(hv:Dq m=true):
 ClQ Da 7 [.agg [Ad 3 true m.nS (m.sens.map Bg.cells),Ad 4 false m.nV (m.votes.map Ak.cells),Ad 5 false m.nM (m.moves.map Ai.cells),.int .i64 m.states,.int .i64 m.cmds,.int .i64 m.bgn,Ad 1 true m.nO (m.opn.map iv)]] [] fun o h'=>∃i,o=.ret (.tup [.ptr i 0 0,.int .i64 0])∧PB (hf h') i 11 (zA m m.bgn 0 false []) 3000∧(∀c∈h',vY c)∧∀c∈h',pT c:=by
 have h1:=iS m hs
 rw[hv]at h1
 obtain⟨v,h',R,hc,hr,hk,hn⟩:=aiZ m hM ho
 obtain⟨v1,es,cs1,e1,e2,e3,e4,e5⟩:=xQ (H:=[.live 7 false false [m.cells]]) (args:=[.agg m.cells]) (Rl rfl) (yD _ m) (cC m) hc (fun f=>gW f (by omega) hr) hn (tV _ m)
 obtain⟨R',r1,r2,r3⟩:=gU (pR e3) (Oh (wY _) e4) hr
 obtain⟨cs,rfl,r4⟩:=aiS r1
 obtain⟨sv,vv,mv,ov,rfl,⟨p1,p1'⟩,⟨p2,p2'⟩,⟨p3,p3'⟩,⟨p4,p4'⟩⟩:=fQ r4
 obtain⟨q,hq⟩:∃q,Fn.func 24=q:=⟨_,rfl⟩
 have hft:tU Da [.live 7 false false [m.cells]] (some (.func (Fn.func 24) [] [])) (some [.agg m.cells])=some []:=by
  rw[gC]
  simp only[List.nil_append,ak7]
  rw[if_neg (by simp[dD]),if_pos (cC m)]
 rw[hq]at e1 hft
 have b0:([.live 7 false false [m.cells]]++cs1)[0]?=some (.live 7 false false [m.cells]):=rfl
 refine agV rfl Tryz.func7 rfl rfl ?_
 simp only[Tryz.f7]
 refine Dt (fun KK iN hK=>?_)
 generalize hG:([.live 7 false false [m.cells]]++cs1:Aa)=G at *
 (have hb:=trivial;with_reducible repeat' (first|simp only[hb,Va.down,seval,TY7.down,h1,hq,e1,e2,hft,b0,p1,p2,p3,p4,p1',p2',p3',p4',af2,afV,acQ,agA]|refine Au ?_ ?_<;>intro hb|refine fdq ?_|fail))
 have hgl:G.length=1+cs1.length:=by rw[←hG];simp;omega
 refine Yj (fun b=>if b<1 then 0 else 1) [([],[.cells 0 0 7]),([.blk 1],[]),([],[]),([],[.cells 0 5 1]),([],[]),([],[]),([.blk 1],[]),([],[]),([],[])] (by kernel_rfl) ?_ (fun _=>?_)
 ·simp only[vS,xY,acT,false_imp_iff,implies_true,and_true,true_and,acR,or_false,forall_eq,Rk,bU,Yi]
  refine⟨by simp,fun e he=>?_,by simp,by rw[if_neg (by omega)];simp⟩
  obtain⟨b,hb1,hb2⟩:=e5 e he
  right
  have hb3:1≤b:=hb2
  rw[hb1,Yi,if_neg (by omega)]
 have r5:=xJ (show 5≤6 by omega) (Kv r4 (g':=hf (G++[.live 11 false false [[sv,vv,mv,.int .i64 m.states,.int .i64 m.cmds,.int .i64 m.bgn,ov,.int .i64 m.bgn,.int .i64 0,.nils,.bool true]]])) fun b hb1 z hz=>by
  show((G++_)[b]?).bind Az=_
  rw[agG (fN (by omega) r4 b hb1)];exact hz)
 refine hK _ ?_
 rw[nJ]
 refine yJ (vs:=[.ptr G.length 0 0,.int .i64 0]) ?_ (agS (st:=11) (k:=3000) (X:=zA m m.bgn 0 false []) (PB.of (w:=false) (row:=[sv,vv,mv,.int .i64 m.states,.int .i64 m.cmds,.int .i64 m.bgn,ov,.int .i64 m.bgn,.int .i64 0,.nils,.bool true]) (R:=R'++[]) ?_ ?_ ?_ ?_) (by omega) fun i h' k1 k2 k3=>⟨i,rfl,k1,k2,k3⟩)
 ·simp only[Va.down,seval,TY7.down]
 ·show(G++_)[G.length]?=_
  rw[List.getElem?_append_right (ajX _),Nat.sub_self];rfl
 ·exact pY r5 (Bn (Il ..) (Bn (Il ..) (Bn zH (Bn (oG ..) Vs))))
 ·intro hm
  rw[ak7]at hm
  exact absurd (fN (by omega) r4 _ hm) (by omega)
 ·have v1:=hM.votes
  have v2:=hM.moves
  rw[ak7,r2];simp only;omega
theorem jI(b r o:Nat):Ed Tryz.prog .eql 31 (.ptr b r o) .nilp=some (.bool false):=by kernel_rfl
structure Zp(H:Aa)(p:Nat)(m:Ap)(st ag:Int)(l:List Av)(w:Bool)(sv vv mv ov sc:AV)(Rm Rs:List Nat)(rows:List (List AV)):Prop where
 cell:H[p]?=some (.live 11 false w [[sv,vv,mv,.int .i64 m.states,.int .i64 m.cmds,.int .i64 m.bgn,ov,.int .i64 st,.int .i64 ag,sc,.bool true]])
 mach:Iy (rd 6 (hf H)) [sv,vv,mv,.int .i64 m.states,.int .i64 m.cmds,.int .i64 m.bgn,ov]=some (m.cells,Rm)
 own:Xh 0 2 false rows sc H
 scs:Bh (rd 6 (hf H)) rows=some (l.map Av.cells,Rs)
 nil:rows=[]→sc=.nils
 dp:p∉Rm++Rs
 ds:∀a b r n,sc=.slr a b r n→b≠p∧b∉Rm++Rs
theorem Zp.cln{H:Aa}{p:Nat}{m:Ap}{st ag:Int}{l:List Av}{w:Bool}{sv vv mv ov sc:AV}{Rm Rs:List Nat}{rows:List (List AV)}(T:Zp H p m st ag l w sv vv mv ov sc Rm Rs rows):Zp (Zv H) p m st ag l false sv vv mv ov sc Rm Rs rows:=by
 have agr:∀R,wL R (hf H) (hf (Zv H)):=fun R b _ z hz=>by
  show((Zv H)[b]?).bind Az=_
  cases h3:H[b]? with
  |none=>have:(H[b]?).bind Az=some z:=hz;rw[h3]at this;cases this
  |some c=>rw[Tc h3];have:(H[b]?).bind Az=some z:=hz;rw[h3]at this;exact(bN c).trans this
 refine⟨Tc T.cell,Kv T.mach (agr _),?_,Jk T.scs (agr _),T.nil,T.dp,T.ds⟩
 rcases T.own with h|⟨b,w',h1,h2⟩
 ·exact .inl h
 ·exact .inr ⟨b,false,h1,Tc h2⟩
theorem Zp.app{H:Aa}{p:Nat}{m:Ap}{st ag:Int}{l:List Av}{w:Bool}{sv vv mv ov sc:AV}{Rm Rs:List Nat}{rows:List (List AV)}(T:Zp H p m st ag l w sv vv mv ov sc Rm Rs rows)(L:Aa):Zp (H++L) p m st ag l w sv vv mv ov sc Rm Rs rows:=
 ⟨Bi T.cell L,Kv T.mach fun b hb z hz=>by
   show((H++L)[b]?).bind Az=_
   rw[agG (Tj hz)];exact hz,T.own.app L,Jk T.scs fun b hb z hz=>by
   show((H++L)[b]?).bind Az=_
   rw[agG (Tj hz)];exact hz,T.nil,T.dp,T.ds⟩
theorem agT{H:Aa}{p:Nat}{w:Bool}{a b c d e f g h i j:AV}(hc:H[p]?=some (.live 11 false w [[a,b,c,d,e,f,g,h,i,j,.bool true]])):Da.call (.sh 28) [.ptr p 0 0] H=some (.ret (.bool false),H):=by
 (refine csh Tryz.func28 ?_;simp only[Tryz.f28];(have hb:=trivial;with_reducible repeat' (first|simp only[hb,Va.down,seval,apF.down,hc,jI]|refine Au ?_ ?_<;>intro hb|refine fd ?_|fail)))
theorem aL{H:Aa}{p:Nat}{w:Bool}{a b c d e f g h i j:AV}(hc:H[p]?=some (.live 11 false w [[a,b,c,d,e,f,g,h,i,j,.bool true]]))(hq:Bq H=true):cl Da H (some (.func (.func 28) [] [])) (some [.ptr p 0 0])=some (.ret (.bool false),[]):=
 qV rfl rfl (agT (Tc hc)) hq
theorem aeC{H:Aa}{p:Nat}{m:Ap}{st ag:Int}{l:List Av}{w:Bool}{sv vv mv ov sc:AV}{Rm Rs:List Nat}{rows:List (List AV)}(T:Zp H p m st ag l w sv vv mv ov sc Rm Rs rows)(hq:Bq H=true)(h0:0≤st){o:Int}(ho:m.opn[st.toNat]?=some o):
 Da.call (.sh 12) [.ptr p 0 0] H=some (.ret (.tup [.int .i64 st,.int .i64 ag,.int .i64 o,.int .i64 0]),H):=by
 have hc:=T.cell
 obtain⟨q,hqq⟩:∃q,Fn.func 28=q:=⟨_,rfl⟩
 have hn:=aL hc hq
 rw[hqq]at hn
 have hm:=T.mach
 obtain⟨_,_,_,_,h1,_,hm,_⟩:=Bj hm
 cases h1
 obtain⟨_,_,_,_,h1,_,hm,_⟩:=Bj hm
 cases h1
 obtain⟨_,_,_,_,h1,_,hm,_⟩:=Bj hm
 cases h1
 obtain⟨_,_,_,_,h1,_,hm,_⟩:=Bj hm
 cases h1
 obtain⟨_,_,_,_,h1,_,hm,_⟩:=Bj hm
 cases h1
 obtain⟨_,_,_,_,h1,_,hm,_⟩:=Bj hm
 cases h1
 obtain⟨_,_,_,_,h1,ha,hm,_⟩:=Bj hm
 cases h1
 have hlt:st.toNat<m.opn.length:=(ahO.1 ho).1
 rcases xE ha with⟨_,he⟩|⟨b,rows',rfl,hb,hl,hr,_⟩
 ·rw[akD.1 he]at hlt;simp at hlt
 rw[hr rfl]at hb
 have hrow:Ko (H[b]?) st.toNat=some (iv o):=by rw[ae2 hb,alA,ho];rfl
 have hin:(st<(m.opn.length:Int))=True:=eq_true (by omega)
 have h00:(0≤st)=True:=eq_true h0
 simp only[iv]at hrow
 (refine csh Tryz.func12 ?_;simp only[Tryz.f12];(have hb:=trivial;with_reducible repeat' (first|simp only[hb,Va.down,seval,apG.down,hc,hqq,hn,hrow,hin,h00,jI,aaP]|refine Au ?_ ?_<;>intro hb|refine fd ?_|fail)))
theorem agU(c:Int):Da.call (.fn 32) [.agg [.nils,.int .i64 c]] []=some (.ret (.agg [.nils,.int .i64 c]),[]):=by
 (refine ce Tryz.func32 ?_;simp only[Tryz.f32];(have hb:=trivial;with_reducible repeat' (first|simp only[hb,Va.down,seval,alM.down,nI]|refine Au ?_ ?_<;>intro hb|refine fd ?_|fail)))
theorem ahF{l:List Int}(c:Int)(hl:l.length≤1000):Da.call (.fn 32) [.agg [.imm 1 true (l.map iv),.int .i64 c]] []=some (.ret (.agg [.slr 1 0 0 l.length,.int .i64 c]),[.live 1 true false (l.map iv)]):=by
 have h:=iZ hl
 (refine ce Tryz.func32 ?_;simp only[Tryz.f32];(have hb:=trivial;with_reducible repeat' (first|simp only[hb,Va.down,seval,alM.down,h]|refine Au ?_ ?_<;>intro hb|refine fd ?_|fail)))
theorem yG(y:Av):Ar 8 (.agg y.cells)=true:=by simp[Av.cells,Qi,Qk,En]
theorem Zp.arg{H:Aa}{p:Nat}{m:Ap}{st ag:Int}{l:List Av}{w:Bool}{sv vv mv ov sc:AV}{Rm Rs:List Nat}{rows:List (List AV)}(T:Zp H p m st ag l w sv vv mv ov sc Rm Rs rows):Vi H (.agg [sv,vv,mv,.int .i64 m.states,.int .i64 m.cmds,.int .i64 m.bgn,ov])=some (.agg m.cells):=
 aM (d:=7) (by omega) (agH T.mach)
theorem dC{H:Aa}{p:Nat}{m:Ap}{st ag:Int}{l:List Av}{w:Bool}{sv vv mv ov sc:AV}{Rm Rs:List Nat}{rows:List (List AV)}(T:Zp H p m st ag l w sv vv mv ov sc Rm Rs rows)(y:Av)(hl:y.reads.length≤maxLen):
 cl Da H (some (.func (.func 29) [] [])) (some [.agg [sv,vv,mv,.int .i64 m.states,.int .i64 m.cmds,.int .i64 m.bgn,ov],.agg [Ad 1 true y.nn (y.reads.map iv),.int .i64 y.cmd]])=some (.ret (.bool (Nn m y)),[]):=by
 have hs:Vi H (.agg y.cells)=some (.agg y.cells):=Gk _ (d:=8) (by omega) (yG y)
 exact Ry (vs:=[.agg m.cells,.agg y.cells]) (Rl rfl) (by simp only[Jh,Lr,T.arg,Hu];rw[show AV.agg [Ad 1 true y.nn (y.reads.map iv),.int .i64 y.cmd]=.agg y.cells from rfl,hs];rfl) (by simp[Qi,Qk,En,Av.cells]) (rH m y hl) rfl rfl
theorem afA{H:Aa}{p:Nat}{m:Ap}{st ag:Int}{l:List Av}{w:Bool}{sv vv mv ov sc:AV}{Rm Rs:List Nat}{rows:List (List AV)}(T:Zp H p m st ag l w sv vv mv ov sc Rm Rs rows)(hq:Bq H=true)(y:Av)(hl:y.reads.length≤maxLen)(hb0:Nn m y=false):
 Da.call (.sh 9) [.ptr p 0 0,.agg [Ad 1 true y.nn (y.reads.map iv),.int .i64 y.cmd]] H=some (.ret (.tup [.int .i64 0,.int .i64 2]),H++[.live 2 false false [[Ad 1 true y.nn (y.reads.map iv),.int .i64 y.cmd]]]):=by
 have T1:=T.app [.live 2 false false [[Ad 1 true y.nn (y.reads.map iv),.int .i64 y.cmd]]]
 have hc:=T1.cell
 obtain⟨q,hqq⟩:∃q,Fn.func 28=q:=⟨_,rfl⟩
 have hn:=aL hc (Gh hq rfl)
 rw[hqq]at hn
 obtain⟨q2,hq2⟩:∃q,Fn.func 29=q:=⟨_,rfl⟩
 have hs:=dC T1 y hl
 rw[hq2,hb0]at hs
 have⟨_,hm,⟨p1,p1'⟩,⟨p2,p2'⟩,⟨p3,p3'⟩,⟨p4,p4'⟩⟩:∃_:True,True∧(sv.isCell=true∧sv.flat=false)∧(vv.isCell=true∧vv.flat=false)∧(mv.isCell=true∧mv.flat=false)∧(ov.isCell=true∧ov.flat=false):=by
  obtain⟨a,b,c,d,e,h1,h2,h3,h4⟩:=fQ T.mach
  cases e
  exact⟨trivial,trivial,h1,h2,h3,h4⟩
 (refine csh Tryz.func9 ?_;simp only[Tryz.f9];(have hb:=trivial;with_reducible repeat' (first|simp only[hb,Va.down,seval,TY9.down,hc,hqq,hn,hq2,hs,jI,p1,p2,p3,p4,p1',p2',p3',p4',af2,afV,acQ,agA]|refine Au ?_ ?_<;>intro hb|refine fd ?_|fail)))
end Go.Proofs.YtfkokgjfpojeoaaGreatDoor
