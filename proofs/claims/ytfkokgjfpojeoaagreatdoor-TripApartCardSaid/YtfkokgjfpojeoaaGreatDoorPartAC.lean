/- The functions of the layer, walked. -/
import Derived.Test.YtfkokgjfpojeoaaGreatDoorPartAB
import Derived.Test.YtfkokgjfpojeoaaGreatDoorLibD
import Derived.Test.YtfkokgjfpojeoaaGreatDoorLibE
open List renaming length_map→acQ,map_nil→aeG,mem_of_getElem?→alV,map_cons→an9,all_cons→aoD,mem_cons→aoF,length_nil→aoG,length_cons→aoU,getElem?_set_self→apD,not_mem_nil→aq0,getElem?_eq_some_iff→atY,all_eq_true→at0,all_nil→auW,take_of_length_le→avD,getElem?_set_ne→avI,drop_drop→ayL,take_add_one→azS,map_eq_nil_iff→azT,length_append→azU
open Int renaming lt_irrefl→ahB
open Bool renaming and_eq_true→am7,not_true→arI,not_false→atT,false_and→atV,true_and→atX,and_false→auJ,and_true→auT,not_eq_eq_eq_not→av8,eq_false_iff→axA
open Option renaming bind_eq_some_iff→apM,map_eq_some_iff→ap1
open Nat renaming lt_of_lt_of_le→av7
set_option linter.unusedSimpArgs false
set_option linter.unusedVariables false
namespace Go.Proofs.YtfkokgjfpojeoaaGreatDoor
open Go.Ev Go
set_option maxRecDepth 100000
set_option maxHeartbeats 16000000
def axV:List Bool→Nat→Int→Int
 | [],_,b=>b
 |v::vs,i,b=>axV vs (i+1) (if v=true then orN b (aTF i)else b)
theorem aMM(m:ad5)(l:List Int):∀(vs:List acT) (i:Nat) (b:Int),ar1 m l vs i b=axV (vs.map (awJ m l)) i b
 | [],_,_=>rfl
 |v::vs,i,b=>by simp only[ar1,an9,axV];exact aMM m l vs _ _
def auH(b v:Int):Bool:=a5R (a0A b v.toNat)==1
theorem aZ8:∀(l:List Bool),l.length≤6→∀i:Nat,i<l.length→l[i]?=some (auH (axV l 0 0) i)
 | [],_,i,h=>by simp at h
 | [a],_,i,h=>by
   have:∀a:Bool,∀i:Fin 1,[a][i.val]?=some (auH (axV [a] 0 0) (i.val:Nat)):=by decide+kernel
   exact this a ⟨i,h⟩
 | [a,b],_,i,h=>by
   have:∀a b:Bool,∀i:Fin 2,[a,b][i.val]?=some (auH (axV [a,b] 0 0) (i.val:Nat)):=by decide+kernel
   exact this a b ⟨i,h⟩
 | [a,b,c],_,i,h=>by
   have:∀a b c:Bool,∀i:Fin 3,[a,b,c][i.val]?=some (auH (axV [a,b,c] 0 0) (i.val:Nat)):=by decide+kernel
   exact this a b c ⟨i,h⟩
 | [a,b,c,d],_,i,h=>by
   have:∀a b c d:Bool,∀i:Fin 4,[a,b,c,d][i.val]?=some (auH (axV [a,b,c,d] 0 0) (i.val:Nat)):=by decide+kernel
   exact this a b c d ⟨i,h⟩
 | [a,b,c,d,e],_,i,h=>by
   have:∀a b c d e:Bool,∀i:Fin 5,[a,b,c,d,e][i.val]?=some (auH (axV [a,b,c,d,e] 0 0) (i.val:Nat)):=by decide+kernel
   exact this a b c d e ⟨i,h⟩
 | [a,b,c,d,e,f],_,i,h=>by
   have:∀a b c d e f:Bool,∀i:Fin 6,[a,b,c,d,e,f][i.val]?=some (auH (axV [a,b,c,d,e,f] 0 0) (i.val:Nat)):=by decide+kernel
   exact this a b c d e f ⟨i,h⟩
 |_::_::_::_::_::_::_::_,h,_,_=>by simp only[aoU]at h;omega
theorem aR1(a b:Bool):ao1 Tryz.prog .neq 4 (.bool a) (.bool b)=some (.bool (!(a==b))):=by cases a<;>cases b<;>kernel_rfl
structure axY where
 frm:Int
 to:Int
 nn:Bool
 wants:List agP
 cmd:Int
 after:Int
 st:Int
 ag:Int
 bits:Int
 com:Int
theorem a3F(n:axY):om'.call (.fn 73) [.agg [.int .i64 n.frm,.int .i64 n.to,slv 2 true n.nn (n.wants.map agP.cells),.int .i64 n.cmd,.int .i64 n.after,.int .i64 n.st,.int .i64 n.ag,.int .i64 n.bits,.int .i64 n.com]] []=some (.ret (.bool (n.frm==n.st)),[]):=by
 (refine ce Tryz.func73 ?_;simp only[Tryz.f73];(have hb:=trivial;with_reducible repeat' (first|simp only[hb,Vc.down,seval,a7W.down]|refine fsp ?_ ?_<;>intro hb|refine fd ?_|fail)))
theorem a5Z(n:axY):om'.call (.fn 74) [.agg [.int .i64 n.frm,.int .i64 n.to,slv 2 true n.nn (n.wants.map agP.cells),.int .i64 n.cmd,.int .i64 n.after,.int .i64 n.st,.int .i64 n.ag,.int .i64 n.bits,.int .i64 n.com]] []=some (.ret (.bool (decide (n.after≤n.ag))),[]):=by
 (refine ce Tryz.func74 ?_;simp only[Tryz.f74];(have hb:=trivial;with_reducible repeat' (first|simp only[hb,Vc.down,seval,a73.down]|refine fsp ?_ ?_<;>intro hb|refine fd ?_|fail)))
theorem a0I(n:axY):om'.call (.fn 76) [.agg [.int .i64 n.frm,.int .i64 n.to,slv 2 true n.nn (n.wants.map agP.cells),.int .i64 n.cmd,.int .i64 n.after,.int .i64 n.st,.int .i64 n.ag,.int .i64 n.bits,.int .i64 n.com]] []=some (.ret (.bool (n.cmd== -1||n.cmd==n.com)),[]):=by
 (refine ce Tryz.func76 ?_;simp only[Tryz.f76];(have hb:=trivial;with_reducible repeat' (first|simp only[hb,Vc.down,seval,a71.down]|refine fsp ?_ ?_<;>intro hb|refine fd ?_|fail)))
 all_goals simp_all
theorem aNN(n:axY)(w:agP)(h0:0≤w.vote):om'.call (.fn 82) [.agg [.int .i64 w.vote,.bool w.is],.ptr 0 0 0] [.live 9 false false [[.int .i64 n.frm,.int .i64 n.to,slv 2 true n.nn (n.wants.map agP.cells),.int .i64 n.cmd,.int .i64 n.after,.int .i64 n.st,.int .i64 n.ag,.int .i64 n.bits,.int .i64 n.com]]]=some (.ret (.bool (!(auH n.bits w.vote==w.is))),[.live 9 false false [[.int .i64 n.frm,.int .i64 n.to,slv 2 true n.nn (n.wants.map agP.cells),.int .i64 n.cmd,.int .i64 n.after,.int .i64 n.st,.int .i64 n.ag,.int .i64 n.bits,.int .i64 n.com]]]):=by
 obtain⟨v,is⟩:=w
 obtain⟨k,hk⟩:∃k:Nat,v=k:=⟨v.toNat,by simp at h0;omega⟩
 subst hk
 (refine ce Tryz.func82 ?_;simp only[Tryz.f82];(have hb:=trivial;with_reducible repeat' (first|simp only[hb,Vc.down,seval,a7A.down,aR1]|refine fsp ?_ ?_<;>intro hb|refine fd ?_|fail)))
 all_goals simp[auH]
theorem aLM{l:List agP}{nn:Bool}{g:Nat}{ndq:axY}{p:agP→Bool}(hp:∀x∈l,om'.call (.fn g) (.agg [.int .i64 x.vote,.bool x.is]::[.ptr 0 0 0]) [.live 9 false false [[.int .i64 ndq.frm,.int .i64 ndq.to,slv 2 true ndq.nn (ndq.wants.map agP.cells),.int .i64 ndq.cmd,.int .i64 ndq.after,.int .i64 ndq.st,.int .i64 ndq.ag,.int .i64 ndq.bits,.int .i64 ndq.com]]]=some (.ret (.bool (p x)),[.live 9 false false [[.int .i64 ndq.frm,.int .i64 ndq.to,slv 2 true ndq.nn (ndq.wants.map agP.cells),.int .i64 ndq.cmd,.int .i64 ndq.after,.int .i64 ndq.st,.int .i64 ndq.ag,.int .i64 ndq.bits,.int .i64 ndq.com]]]))(hl:l.length≤maxLen):
 om'.call (.fn 81) [slv 2 true nn (l.map agP.cells),.func (.func g) [] [.ptr 0 0 0]] [.live 9 false false [[.int .i64 ndq.frm,.int .i64 ndq.to,slv 2 true ndq.nn (ndq.wants.map agP.cells),.int .i64 ndq.cmd,.int .i64 ndq.after,.int .i64 ndq.st,.int .i64 ndq.ag,.int .i64 ndq.bits,.int .i64 ndq.com]]]=some (.ret (.int .i64 (idx p l 0)),[.live 9 false false [[.int .i64 ndq.frm,.int .i64 ndq.to,slv 2 true ndq.nn (ndq.wants.map agP.cells),.int .i64 ndq.cmd,.int .i64 ndq.after,.int .i64 ndq.st,.int .i64 ndq.ag,.int .i64 ndq.bits,.int .i64 ndq.com]]]):=by
 (refine ce Tryz.func81 ?_;simp only[Tryz.f81];(have hb:=trivial;with_reducible repeat' (first|simp only[hb,Vc.down,seval,aEN.down,acQ]|refine fsp ?_ ?_<;>intro hb|refine fd ?_|fail)))
 refine anJ (lst 19 l (fun i (s:Int) t h=>s=i∧h=[.live 9 false false [[.int .i64 ndq.frm,.int .i64 ndq.to,slv 2 true ndq.nn (ndq.wants.map agP.cells),.int .i64 ndq.cmd,.int .i64 ndq.after,.int .i64 ndq.st,.int .i64 ndq.ag,.int .i64 ndq.bits,.int .i64 ndq.com]]]∧t 0=slv 2 true nn (l.map agP.cells)∧t 1=.func (.func g) [] [.ptr 0 0 0]∧t 7=.int .i64 l.length∧t 8=.int .i64 i)
  (fun rest s=>idx p rest s) (fun r e t h=>h=[.live 9 false false [[.int .i64 ndq.frm,.int .i64 ndq.to,slv 2 true ndq.nn (ndq.wants.map agP.cells),.int .i64 ndq.cmd,.int .i64 ndq.after,.int .i64 ndq.st,.int .i64 ndq.ag,.int .i64 ndq.bits,.int .i64 ndq.com]]]∧((e=.exit 0∧r= -1)∨(e=.ret∧t 4=.int .i64 r))) ?_ ?_ 0 _ _ ?_) (fun e t h hk=>?_)
 ·rintro s t h Q' kQ ⟨rfl,rfl,h0,h1,h7,h8⟩
  (have hb:=trivial;with_reducible repeat' (first|simp only[hb,Vc.down,seval,aEN.down,h0,h1,h7,h8,ahB,decide_false]|refine fsp ?_ ?_<;>intro hb|refine fd ?_|fail))
  exact kQ _ _ _ ⟨rfl,.inl ⟨rfl,rfl⟩⟩
 ·rintro x rest i s t h J Q' kJ kQ hx hi ⟨rfl,rfl,h0,h1,h7,h8⟩
  have hpx:=hp x (alV hx)
  have hd:decide ((i:Int)<(l.length:Int))=true:=by simpa using hi
  (have hb:=trivial;with_reducible repeat' (first|simp only[hb,Vc.down,seval,aEN.down,h0,h1,h7,h8,hd,hx,agP.cells,hpx,agA hi hl]|refine fsp ?_ ?_<;>intro hb|refine fd ?_|fail))
  ·exact kQ _ _ _ ⟨rfl,.inr ⟨rfl,by simp[up,idx,hb]⟩⟩
  ·exact ai7 (kJ _ _ (i+1) ⟨by simp,rfl,by simp[up,h0],by simp[up,h1],by simp[up,h7],by simp[up]⟩ (by simp[idx,hb]))
 ·exact⟨rfl,rfl,by simp[up,ent],by simp[up,ent],by simp[up],by simp[up]⟩
 ·obtain⟨rfl,⟨rfl,hi⟩|⟨rfl,hi⟩⟩:=hk
  ·(have hb:=trivial;with_reducible repeat' (first|simp only[hb,Vc.down,seval,aEN.down]|refine fsp ?_ ?_<;>intro hb|refine fd ?_|fail))
   rw[hi]
  ·(have hb:=trivial;with_reducible repeat' (first|simp only[hb,Vc.down,seval,aEN.down,hi]|refine fsp ?_ ?_<;>intro hb|refine fd ?_|fail))
theorem aJA{l:List agP}{nn:Bool}{g:Nat}{ndq:axY}{p:agP→Bool}(hp:∀x∈l,om'.call (.fn g) (.agg [.int .i64 x.vote,.bool x.is]::[.ptr 0 0 0]) [.live 9 false false [[.int .i64 ndq.frm,.int .i64 ndq.to,slv 2 true ndq.nn (ndq.wants.map agP.cells),.int .i64 ndq.cmd,.int .i64 ndq.after,.int .i64 ndq.st,.int .i64 ndq.ag,.int .i64 ndq.bits,.int .i64 ndq.com]]]=some (.ret (.bool (p x)),[.live 9 false false [[.int .i64 ndq.frm,.int .i64 ndq.to,slv 2 true ndq.nn (ndq.wants.map agP.cells),.int .i64 ndq.cmd,.int .i64 ndq.after,.int .i64 ndq.st,.int .i64 ndq.ag,.int .i64 ndq.bits,.int .i64 ndq.com]]]))(hl:l.length≤maxLen):
 om'.call (.fn 69) [slv 2 true nn (l.map agP.cells),.func (.func g) [] [.ptr 0 0 0]] [.live 9 false false [[.int .i64 ndq.frm,.int .i64 ndq.to,slv 2 true ndq.nn (ndq.wants.map agP.cells),.int .i64 ndq.cmd,.int .i64 ndq.after,.int .i64 ndq.st,.int .i64 ndq.ag,.int .i64 ndq.bits,.int .i64 ndq.com]]]=some (.ret (.bool (l.any p)),[.live 9 false false [[.int .i64 ndq.frm,.int .i64 ndq.to,slv 2 true ndq.nn (ndq.wants.map agP.cells),.int .i64 ndq.cmd,.int .i64 ndq.after,.int .i64 ndq.st,.int .i64 ndq.ag,.int .i64 ndq.bits,.int .i64 ndq.com]]]):=by
 (refine ce Tryz.func69 ?_;simp only[Tryz.f69];(have hb:=trivial;with_reducible repeat' (first|simp only[hb,Vc.down,seval,aLM hp hl,ayQ p l 0 (Int.le_refl 0)]|refine fsp ?_ ?_<;>intro hb|refine fd ?_|fail)))
def aw9(bits:Int)(l:List agP):Bool:=l.all fun w=>auH bits w.vote==w.is
theorem aSA(n:axY)(hl:n.wants.length≤maxLen)(h0:∀w∈n.wants,0≤w.vote):om'.call (.fn 75) [.agg [.int .i64 n.frm,.int .i64 n.to,slv 2 true n.nn (n.wants.map agP.cells),.int .i64 n.cmd,.int .i64 n.after,.int .i64 n.st,.int .i64 n.ag,.int .i64 n.bits,.int .i64 n.com]] []=some (.ret (.bool (aw9 n.bits n.wants)),[]):=by
 have hc:=aJA (ndq:=n) (l:=n.wants) (nn:=n.nn) (g:=82) (p:=fun w=> !(auH n.bits w.vote==w.is)) (fun w hw=>aNN n w (h0 w hw)) hl
 have q1:aw9 n.bits n.wants= !(n.wants.any fun w=> !(auH n.bits w.vote==w.is)):=List.all_eq_not_any_not
 (refine ce Tryz.func75 ?_;simp only[Tryz.f75];(have hb:=trivial;with_reducible repeat' (first|simp only[hb,Vc.down,seval,a7U.down,hc]|refine fsp ?_ ?_<;>intro hb|refine fd ?_|fail)))
 all_goals simp[q1]
theorem a50(f0 f1 f2 f3:Fn)(a0 a1 a2 a3 c0 c1 c2 c3:List AV):atW Tryz.prog 135 [(0,.func f0 a0 c0),(1,.func f1 a1 c1),(2,.func f2 a2 c2),(3,.func f3 a3 c3)]=some (.agg [.func f0 a0 c0,.func f1 a1 c1,.func f2 a2 c2,.func f3 a3 c3]):=by kernel_rfl
theorem aZF(a b c d:AV):awF Tryz.prog 135 (.agg [a,b,c,d]) (.int .i64 0)=some a:=by kernel_rfl
theorem aY4(a b c d:AV):awF Tryz.prog 135 (.agg [a,b,c,d]) (.int .i64 1)=some b:=by kernel_rfl
theorem aY0(a b c d:AV):awF Tryz.prog 135 (.agg [a,b,c,d]) (.int .i64 2)=some c:=by kernel_rfl
theorem aY5(a b c d:AV):awF Tryz.prog 135 (.agg [a,b,c,d]) (.int .i64 3)=some d:=by kernel_rfl
def aGO(n:axY):Bool:=(n.frm==n.st)&&decide (n.after≤n.ag)&&aw9 n.bits n.wants&&(n.cmd== -1||n.cmd==n.com)
theorem w2:IntKind.i64.wrap 2=2:=Eq.trans rfl rfl
theorem w3:IntKind.i64.wrap 3=3:=Eq.trans rfl rfl
theorem w4:IntKind.i64.wrap 4=4:=Eq.trans rfl rfl
theorem aNX(n:axY)(hl:n.wants.length≤maxLen)(h0:∀w∈n.wants,0≤w.vote):om'.call (.fn 59) [.agg [.int .i64 n.frm,.int .i64 n.to,slv 2 true n.nn (n.wants.map agP.cells),.int .i64 n.cmd,.int .i64 n.after,.int .i64 n.st,.int .i64 n.ag,.int .i64 n.bits,.int .i64 n.com]] []=some (.ret (.bool (aGO n)),[]):=by
 have q1:=a3F n
 have q2:=a5Z n
 have q3:=aSA n hl h0
 have q4:=a0I n
 (refine ce Tryz.func59 ?_;simp only[Tryz.f59];(have hb:=trivial;with_reducible repeat' (first|simp only[hb,Vc.down,seval,a4F.down,a50,aZF,aY4,aY0,aY5,q1,q2,q3,q4,w2,w3,w4]|refine fsp ?_ ?_<;>intro hb|refine fd ?_|fail)))
 (have hb:=trivial;with_reducible repeat' (first|simp only[hb,Vc.down,seval,a4F.down,a50,aZF,aY4,aY0,aY5,q1,q2,q3,q4,w2,w3,w4]|refine fsp ?_ ?_<;>intro hb|refine fd ?_|refine a7X ?_|fail))
 all_goals (refine congrArg (fun b=>(Out.ret (AV.bool b),([]:aaP))) ?_;symm;((try simp only[av8,arI,atT]at *);simp only[aGO, *,auJ,atV,auT,atX,Bool.and_self,Bool.not_not,arI,atT,aoD,auW]))
def nd(x:acS)(st ag bits com:Int):axY:=⟨x.frm,x.to,x.nn,x.wants,x.cmd,x.after,st,ag,bits,com⟩
theorem aP5(x:acS)(st ag bits com:Int){bs:List Bool}{nn:Bool}(hl:x.wants.length≤maxLen)(hv:∀w∈x.wants,0≤w.vote∧bs[w.vote.toNat]?=some (auH bits w.vote)):
 om'.call (.fn 35) [.agg [.int .i64 x.frm,.int .i64 x.to,slv 2 true x.nn (x.wants.map agP.cells),.int .i64 x.cmd,.int .i64 x.after],.int .i64 st,.int .i64 ag,slv 1 true nn (bs.map bv),.int .i64 com] []=some (.ret (.bool (aGO (nd x st ag bits com))),[]):=by
 obtain⟨y,rfl⟩:∃y,y=x:=⟨_,rfl⟩
 (refine ce Tryz.func35 ?_;simp only[Tryz.f35];(have hb:=trivial;with_reducible repeat' (first|simp only[hb,Vc.down,seval,aSH.down,acQ]|refine fsp ?_ ?_<;>intro hb|refine fd ?_|fail)))
 refine anJ (lst 56 y.wants (fun i (zz:Unit) t h=>t 1=.int .i64 st∧t 2=.int .i64 ag∧t 3=slv 1 true nn (bs.map bv)∧t 4=.int .i64 com∧t 5=.ptr 0 0 0∧t 11=.int .i64 i∧(h=[.live 5 false false [[.int .i64 y.frm,.int .i64 y.to,slv 2 true y.nn (y.wants.map agP.cells),.int .i64 y.cmd,.int .i64 y.after]]])) (fun rest zz=>aw9 bits rest) (fun r e t h=>(if r=true then e=.exit 0∧t 1=.int .i64 st∧t 2=.int .i64 ag∧t 4=.int .i64 com∧t 5=.ptr 0 0 0∧h=[.live 5 false false [[.int .i64 y.frm,.int .i64 y.to,slv 2 true y.nn (y.wants.map agP.cells),.int .i64 y.cmd,.int .i64 y.after]]]else e=.ret∧t 10=.bool false)) ?_ ?_ () _ _ ?_) (fun e t h hk=>?_)
 ·rintro _ t h Q' kQ ⟨h1,h2,h3,h4,h5,h11,rfl⟩
  (have hb:=trivial;with_reducible repeat' (first|simp only[hb,Vc.down,seval,aSH.down,h1,h2,h3,h4,h5,h11,ahB,decide_false,acQ]|refine fsp ?_ ?_<;>intro hb|refine fd ?_|fail))
  exact kQ _ _ _ (by rw[if_pos (by rfl)];exact⟨rfl,by simp[up,h1],by simp[up,h2],by simp[up,h4],by simp[up,h5],rfl⟩)
 ·rintro x rest i _ t h J Q' kJ kQ hx hi ⟨h1,h2,h3,h4,h5,h11,rfl⟩
  have hd:decide ((i:Int)<(y.wants.length:Int))=true:=decide_eq_true (by omega)
  have hw:=agA hi hl
  obtain⟨k0,k1⟩:=hv x (alV hx)
  have h0':(0≤x.vote)=True:=eq_true k0
  (have hb:=trivial;with_reducible repeat' (first|simp only[hb,Vc.down,seval,aSH.down,h1,h2,h3,h4,h5,h11,hd,hx,hw,k1,h0',aR1,bv,agP.cells,acQ]|refine fsp ?_ ?_<;>intro hb|refine fd ?_|fail))
  all_goals first
   |exact kQ _ _ _ (by rw[if_neg (by simp_all[aw9])];exact⟨rfl,by simp[up]⟩)
   |(refine ai7 (kJ _ _ () ⟨?_,?_,?_,?_,?_,?_,rfl⟩ ?_);(simp[up,h1]);(simp[up,h2]);(simp[up,h3]);(simp[up,h4]);(simp[up,h5]);(simp[up]);(simp_all[aw9]))
 ·exact⟨by simp[up,ent],by simp[up,ent],by simp[up,ent],by simp[up,ent],by simp[up,ent],by simp[up],rfl⟩
 split at hk
 ·obtain⟨rfl,h1,h2,h4,h5,rfl⟩:=hk
  rename_i hr1
  (have hb:=trivial;with_reducible repeat' (first|simp only[hb,Vc.down,seval,aSH.down,h1,h2,h4,h5]|refine fsp ?_ ?_<;>intro hb|refine fd ?_|fail))
  all_goals (refine congrArg (fun b=>(Out.ret (AV.bool b),([]:aaP))) ?_;symm;simp only[aGO,nd];(try have q9:=hr1);simp_all<;>try (intro q7;exfalso;have:=of_decide_eq_true q7;omega))
 ·obtain⟨rfl,h2⟩:=hk
  rename_i hr1
  (have hb:=trivial;with_reducible repeat' (first|simp only[hb,Vc.down,seval,aSH.down,h2]|refine fsp ?_ ?_<;>intro hb|refine fd ?_|fail))
  all_goals simp_all[aGO,nd]
def aK7(a:Int):Int:=if IntKind.i64.wrap (a+1)<10 then IntKind.i64.wrap (a+1)else 10
def apP(st ag bits com:Int):List acS→Int × Int
 | []=>(st,aK7 ag)
 |x::l=>if aGO (nd x st ag bits com)=true then(x.to,0)else apP st ag bits com l
theorem aTN(m:ad5)(st ag bits com:Int)(hs:m.small)(h0:∀x∈m.moves,∀w∈x.wants,0≤w.vote):
 om'.call (.fn 30) [.agg [slv 3 true m.nS (m.sens.map ak7.cells),slv 4 false m.nV (m.votes.map acT.cells),slv 5 false m.nM (m.moves.map acS.cells),.int .i64 m.states,.int .i64 m.cmds,.int .i64 m.bgn,slv 1 true m.nO (m.opn.map iv)],.agg [.int .i64 st,.int .i64 ag],.agg [.int .i64 bits,.int .i64 com]] []=some (.ret (.agg [.int .i64 (apP st ag bits com m.moves).1,.int .i64 (apP st ag bits com m.moves).2]),[]):=by
 (refine ce Tryz.func30 ?_;simp only[Tryz.f30];(have hb:=trivial;with_reducible repeat' (first|simp only[hb,Vc.down,seval,aQ8.down,acQ]|refine fsp ?_ ?_<;>intro hb|refine fd ?_|fail)))
 refine anJ (lst 32 m.moves (fun i (zz:Unit) t h=>t 4=.ptr 1 0 0∧t 5=.ptr 2 0 0∧t 6=.ptr 3 0 0∧t 10=slv 5 false m.nM (m.moves.map acS.cells)∧t 11=.int .i64 m.moves.length∧t 12=.int .i64 i∧(h[1]?=some (.live 2 true false [[.int .i64 st,.int .i64 ag]])∧h[2]?=some (.live 2 true false [[.int .i64 bits,.int .i64 com]])∧h[3]?=some (.live 2 true false [[.int .i64 0,.int .i64 0]]))) (fun rest zz=>apP st ag bits com rest) (fun r e t h=>(e=.exit 0∧t 4=.ptr 1 0 0∧t 6=.ptr 3 0 0∧h[1]?=some (.live 2 true false [[.int .i64 st,.int .i64 ag]])∧h[3]?=some (.live 2 true false [[.int .i64 0,.int .i64 0]])∧r=(st,aK7 ag))∨(e=.ret∧t 6=.ptr 3 0 0∧h[3]?=some (.live 2 true true [[.int .i64 r.1,.int .i64 r.2]]))) ?_ ?_ () _ _ ?_) (fun e t h hk=>?_)
 ·rintro _ t h Q' kQ ⟨h4,h5,h6,h10,h11,h12,⟨hA,hB,hC⟩⟩
  (have hb:=trivial;with_reducible repeat' (first|simp only[hb,Vc.down,seval,aQ8.down,h4,h5,h6,h10,h11,h12,ahB,decide_false]|refine fsp ?_ ?_<;>intro hb|refine fd ?_|fail))
  exact kQ _ _ _ (.inl ⟨rfl,by simp[up,h4],by simp[up,h6],hA,hC,rfl⟩)
 ·rintro x rest i _ t h J Q' kJ kQ hx hi ⟨h4,h5,h6,h10,h11,h12,⟨hA,hB,hC⟩⟩
  have hd:decide ((i:Int)<(m.moves.length:Int))=true:=decide_eq_true (by omega)
  have hw:=agA hi hs.moves
  have hA1:=ahZ hA
  have hB1:=ahZ hB
  have hC1:=ahZ hC
  have hap:=aNX (nd x st ag bits com) (hs.ws x (alV hx)) (h0 x (alV hx))
  have h3l:3<h.length:=(atY.1 hC).1
  generalize hq:aGO (nd x st ag bits com)=q at hap
  simp only[nd]at hap
  (have hb:=trivial;with_reducible repeat' (first|simp only[hb,Vc.down,seval,aQ8.down,h4,h5,h6,h10,h11,h12,hd,hx,hw,hA1,hB1,hC1,hap,acS.cells,acQ]|refine fsp ?_ ?_<;>intro hb|refine fd ?_|fail))
  ·exact kQ _ _ _ (.inr ⟨rfl,by simp[up,h6],by rw[apD (by simp;omega)];simp[apP,hq,hb]⟩)
  ·(refine ai7 (kJ _ _ () ⟨?_,?_,?_,?_,?_,?_,⟨hA1 _,hB1 _,hC1 _⟩⟩ ?_);(simp[up,h4]);(simp[up,h5]);(simp[up,h6]);(simp[up,h10]);(simp[up,h11]);(simp[up]);(simp[apP,hq,hb]))
 ·exact⟨by simp[up,ent],by simp[up,ent],by simp[up,ent],by simp[up,ent],by simp[up,ent],by simp[up],⟨rfl,rfl,rfl⟩⟩
 rcases hk with⟨rfl,h4,h6,hA,hC,hr⟩|⟨rfl,h6,hC⟩
 ·have hA1:=ahZ hA
  have hC1:=ahZ hC
  have h3l:3<h.length:=(atY.1 hC).1
  have hset:∀c:CB,(h.set 3 c)[3]?=some c:=fun c=>apD h3l
  have hmt:(if IntKind.i64.wrap (ag+1)<10 then IntKind.i64.wrap (ag+1)else 10)=aK7 ag:=rfl
  rw[hr]
  (have hb:=trivial;with_reducible repeat' (first|simp only[hb,Vc.down,seval,aQ8.down,h4,h6,hA,hC,hA1,hC1,hset,hmt]|refine fsp ?_ ?_<;>intro hb|refine fd ?_|fail))
 ·(have hb:=trivial;with_reducible repeat' (first|simp only[hb,Vc.down,seval,aQ8.down,h6,hC]|refine fsp ?_ ?_<;>intro hb|refine fd ?_|fail))
theorem aFV{m:ad5}(h:an4 m=true):∀x∈m.moves,∀w∈x.wants,0≤w.vote∧w.vote.toNat<m.votes.length:=fun x hx w hw=>by
 simp only[an4,asN,am7,decide_eq_true_eq,at0]at h
 have h2:=h.1.2 x hx
 simp only[asR,am7]at h2
 have h3:=h2.1.1.1.1.1
 have h6:m.votes.length≤6:=h.1.1.1.1.1.1.1.1.1.2
 have key:∀(l p:List agP),asY m.votes.length p l=true→w∈l→0≤w.vote∧w.vote.toNat<m.votes.length:=by
  intro l
  induction l with
  |nil=>intro p _ h;cases h
  |cons y l ih=>
   intro p h hm
   simp only[asY,am7]at h
   rcases aoF.1 hm with rfl|hm
   ·have:=h.1.1
    rw[arY (by omega) (by omega)]at this
    simp[inB]at this
    omega
   ·exact ih _ h.2 hm
 exact key x.wants [] h3 hw
def aqM(m:ad5)(st ag:Int)(s:ac6):Int × Int:=apP st ag (ar1 m s.reads m.votes 0 0) s.cmd m.moves
theorem aI2{m:ad5}{l:List Int}(h:aw3 m l=true):l.length=m.sens.length:=by
 simp only[aw3,am7,beq_iff_eq]at h
 omega
theorem aWH{m:ad5}(h:an4 m=true):m.votes.length≤6:=by
 simp only[an4,asN,am7,decide_eq_true_eq]at h
 exact h.1.1.1.1.1.1.1.1.1.2
theorem aZ5(m:ad5)(st ag:Int)(y:ac6)(hs:m.small)(hm:an4 m=true)(hr:aw3 m y.reads=true):om'.call (.fn 11) [.agg [slv 3 true m.nS (m.sens.map ak7.cells),slv 4 false m.nV (m.votes.map acT.cells),slv 5 false m.nM (m.moves.map acS.cells),.int .i64 m.states,.int .i64 m.cmds,.int .i64 m.bgn,slv 1 true m.nO (m.opn.map iv)],.int .i64 st,.int .i64 ag,.agg [slv 1 true y.nn (y.reads.map iv),.int .i64 y.cmd]] []=
 some (.ret (.tup [.int .i64 (aqM m st ag y).1,.int .i64 (aqM m st ag y).2]),[]):=by
 have h6:=aWH hm
 have hV:=aVK m (l:=y.reads) (nn:=y.nn) (aI2 hr) hs h6 (aJO hm)
 have hw0:=aFV hm
 have hbs:∀x∈m.moves,∀w∈x.wants,0≤w.vote∧(m.votes.map (awJ m y.reads))[w.vote.toNat]?=some (auH (ar1 m y.reads m.votes 0 0) w.vote):=fun x hx w hw=>by
  obtain⟨a,b⟩:=hw0 x hx w hw
  refine⟨a,?_⟩
  rw[aMM,aZ8 _ (by simpa using h6) _ (by simpa using b)]
  congr 2;omega
 have hA:=fun(nn:Bool) x (hx:x∈m.moves)=>aP5 x st ag (ar1 m y.reads m.votes 0 0) y.cmd (bs:=m.votes.map (awJ m y.reads)) (nn:=nn) (hs.ws x hx) (hbs x hx)
 unfold aqM
 generalize ar1 m y.reads m.votes 0 0=bits at hA
 clear hbs hw0
 have hmt:(if IntKind.i64.wrap (ag+1)<10 then IntKind.i64.wrap (ag+1)else 10)=aK7 ag:=rfl
 have htk:((m.votes.map (awJ m y.reads)).map bv).take m.votes.length=(m.votes.map (awJ m y.reads)).map bv:=avD (by simp)
 by_cases hn:m.votes=[]
 ·have hV':=hV _ _ (fun _=>rfl) (fun h=>(h hn).elim)
  have hA:=hA false
  rw[hn]at hA;simp only[aeG,aWV]at hA
  (refine ce Tryz.func11 ?_;simp only[Tryz.f11];(have hb:=trivial;with_reducible repeat' (first|simp only[hb,Vc.down,seval,aEC.down,hV',acQ]|refine fsp ?_ ?_<;>intro hb|refine fd ?_|fail)))
  refine anJ (lst 44 m.moves (fun i (zz:Unit) t h=>t 1=.int .i64 st∧t 2=.int .i64 ag∧t 4=.ptr 0 0 0∧t 7=.ptr 1 0 0∧t 10=.nils∧t 11=.int .i64 i∧(h=[.live 7 false false [[slv 3 true m.nS (m.sens.map ak7.cells),slv 4 false m.nV (m.votes.map acT.cells),slv 5 false m.nM (m.moves.map acS.cells),.int .i64 m.states,.int .i64 m.cmds,.int .i64 m.bgn,slv 1 true m.nO (m.opn.map iv)]],.live 2 false false [[slv 1 true y.nn (y.reads.map iv),.int .i64 y.cmd]]])) (fun rest zz=>apP st ag bits y.cmd rest) (fun r e t h=>(e=.exit 0∧t 1=.int .i64 st∧t 2=.int .i64 ag∧r=(st,aK7 ag))∨(e=.ret∧t 8=.int .i64 r.1∧t 9=.int .i64 r.2)) ?_ ?_ () _ _ ?_) (fun e t h hk=>?_)
  ·rintro _ t h Q' kQ ⟨h1,h2,h4,h7,h10,h11,rfl⟩
   (have hb:=trivial;with_reducible repeat' (first|simp only[hb,Vc.down,seval,aEC.down,h1,h2,h4,h7,h10,h11,ahB,decide_false,acQ]|refine fsp ?_ ?_<;>intro hb|refine fd ?_|fail))
   exact kQ _ _ _ (.inl ⟨rfl,by simp[up,h1],by simp[up,h2],rfl⟩)
  ·rintro x rest i _ t h J Q' kJ kQ hx hi ⟨h1,h2,h4,h7,h10,h11,rfl⟩
   have hd:decide ((i:Int)<(m.moves.length:Int))=true:=decide_eq_true (by omega)
   have hw:=agA hi hs.moves
   have hap:=hA x (alV hx)
   generalize hq:aGO (nd x st ag bits y.cmd)=q at hap
   (have hb:=trivial;with_reducible repeat' (first|simp only[hb,Vc.down,seval,aEC.down,h1,h2,h4,h7,h10,h11,hd,hx,hw,hap,htk,acS.cells,acQ]|refine fsp ?_ ?_<;>intro hb|refine fd ?_|fail))
   ·exact kQ _ _ _ (.inr ⟨rfl,by simp[up,apP,hq,hb],by simp[up,apP,hq,hb]⟩)
   ·(refine ai7 (kJ _ _ () ⟨?_,?_,?_,?_,?_,?_,rfl⟩ ?_);(simp[up,h1]);(simp[up,h2]);(simp[up,h4]);(simp[up,h7]);(simp[up,h10]);(simp[up]);(simp[apP,hq,hb]))
  ·exact⟨by simp[up,ent],by simp[up,ent],by simp[up,ent],by simp[up,ent],by simp[up,ent],by simp[up],rfl⟩
  rcases hk with⟨rfl,h1,h2,hr⟩|⟨rfl,h8,h9⟩
  ·rw[hr]
   (have hb:=trivial;with_reducible repeat' (first|simp only[hb,Vc.down,seval,aEC.down,h1,h2,hmt]|refine fsp ?_ ?_<;>intro hb|refine fd ?_|fail))
  ·(have hb:=trivial;with_reducible repeat' (first|simp only[hb,Vc.down,seval,aEC.down,h8,h9]|refine fsp ?_ ?_<;>intro hb|refine fd ?_|fail))
 ·have hV':=hV _ _ (fun h=>(hn h).elim) (fun _=>rfl)
  have hA:=hA true
  simp only[ay4]at hA
  (refine ce Tryz.func11 ?_;simp only[Tryz.f11];(have hb:=trivial;with_reducible repeat' (first|simp only[hb,Vc.down,seval,aEC.down,hV',acQ]|refine fsp ?_ ?_<;>intro hb|refine fd ?_|fail)))
  refine anJ (lst 44 m.moves (fun i (zz:Unit) t h=>t 1=.int .i64 st∧t 2=.int .i64 ag∧t 4=.ptr 0 0 0∧t 7=.ptr 1 0 0∧t 10=.slr 1 2 0 m.votes.length∧t 11=.int .i64 i∧(h=[.live 7 false false [[slv 3 true m.nS (m.sens.map ak7.cells),slv 4 false m.nV (m.votes.map acT.cells),slv 5 false m.nM (m.moves.map acS.cells),.int .i64 m.states,.int .i64 m.cmds,.int .i64 m.bgn,slv 1 true m.nO (m.opn.map iv)]],.live 2 false false [[slv 1 true y.nn (y.reads.map iv),.int .i64 y.cmd]],.live 1 true false ((m.votes.map (awJ m y.reads)).map bv)])) (fun rest zz=>apP st ag bits y.cmd rest) (fun r e t h=>(e=.exit 0∧t 1=.int .i64 st∧t 2=.int .i64 ag∧r=(st,aK7 ag))∨(e=.ret∧t 8=.int .i64 r.1∧t 9=.int .i64 r.2)) ?_ ?_ () _ _ ?_) (fun e t h hk=>?_)
  ·rintro _ t h Q' kQ ⟨h1,h2,h4,h7,h10,h11,rfl⟩
   (have hb:=trivial;with_reducible repeat' (first|simp only[hb,Vc.down,seval,aEC.down,h1,h2,h4,h7,h10,h11,ahB,decide_false,acQ]|refine fsp ?_ ?_<;>intro hb|refine fd ?_|fail))
   exact kQ _ _ _ (.inl ⟨rfl,by simp[up,h1],by simp[up,h2],rfl⟩)
  ·rintro x rest i _ t h J Q' kJ kQ hx hi ⟨h1,h2,h4,h7,h10,h11,rfl⟩
   have hd:decide ((i:Int)<(m.moves.length:Int))=true:=decide_eq_true (by omega)
   have hw:=agA hi hs.moves
   have hap:=hA x (alV hx)
   generalize hq:aGO (nd x st ag bits y.cmd)=q at hap
   (have hb:=trivial;with_reducible repeat' (first|simp only[hb,Vc.down,seval,aEC.down,h1,h2,h4,h7,h10,h11,hd,hx,hw,hap,htk,acS.cells,acQ]|refine fsp ?_ ?_<;>intro hb|refine fd ?_|fail))
   ·exact kQ _ _ _ (.inr ⟨rfl,by simp[up,apP,hq,hb],by simp[up,apP,hq,hb]⟩)
   ·(refine ai7 (kJ _ _ () ⟨?_,?_,?_,?_,?_,?_,rfl⟩ ?_);(simp[up,h1]);(simp[up,h2]);(simp[up,h4]);(simp[up,h7]);(simp[up,h10]);(simp[up]);(simp[apP,hq,hb]))
  ·exact⟨by simp[up,ent],by simp[up,ent],by simp[up,ent],by simp[up,ent],by simp[up,ent],by simp[up],rfl⟩
  rcases hk with⟨rfl,h1,h2,hr⟩|⟨rfl,h8,h9⟩
  ·rw[hr]
   (have hb:=trivial;with_reducible repeat' (first|simp only[hb,Vc.down,seval,aEC.down,h1,h2,hmt]|refine fsp ?_ ?_<;>intro hb|refine fd ?_|fail))
  ·(have hb:=trivial;with_reducible repeat' (first|simp only[hb,Vc.down,seval,aEC.down,h8,h9]|refine fsp ?_ ?_<;>intro hb|refine fd ?_|fail))
def ayA(m:ad5):Bool:=m.votes.all (fun v=>decide (v.sens.length≤10))&&m.moves.all (fun x=>decide (x.wants.length≤10))&&decide (m.sens.length≤10)&&decide (m.votes.length≤10)&&decide (m.moves.length≤30)&&decide (m.opn.length≤20)
theorem aXL(m:ad5)(hs:m.small):om'.call (.fn 5) [.agg [slv 3 true m.nS (m.sens.map ak7.cells),slv 4 false m.nV (m.votes.map acT.cells),slv 5 false m.nM (m.moves.map acS.cells),.int .i64 m.states,.int .i64 m.cmds,.int .i64 m.bgn,slv 1 true m.nO (m.opn.map iv)]] []=some (.ret (.bool (ayA m)),[]):=by
 have l1:decide ((m.sens.length:Int)≤10)=decide (m.sens.length≤10):=by rw[decide_eq_decide];omega
 have l2:decide ((m.votes.length:Int)≤10)=decide (m.votes.length≤10):=by rw[decide_eq_decide];omega
 have l3:decide ((m.moves.length:Int)≤30)=decide (m.moves.length≤30):=by rw[decide_eq_decide];omega
 have l4:decide ((m.opn.length:Int)≤20)=decide (m.opn.length≤20):=by rw[decide_eq_decide];omega
 (refine ce Tryz.func5 ?_;simp only[Tryz.f5];(have hb:=trivial;with_reducible repeat' (first|simp only[hb,Vc.down,seval,TY5.down,acQ]|refine fsp ?_ ?_<;>intro hb|refine fd ?_|fail)))
 refine anJ (lst 57 m.votes (fun i (zz:Unit) t h=>t 1=.ptr 0 0 0∧t 3=.int .i64 i∧(h=[.live 7 false false [[slv 3 true m.nS (m.sens.map ak7.cells),slv 4 false m.nV (m.votes.map acT.cells),slv 5 false m.nM (m.moves.map acS.cells),.int .i64 m.states,.int .i64 m.cmds,.int .i64 m.bgn,slv 1 true m.nO (m.opn.map iv)]]])) (fun rest zz=>rest.all (fun v=>decide (v.sens.length≤10))) (fun r e t h=>(if r=true then e=.exit 0∧t 1=.ptr 0 0 0∧h=[.live 7 false false [[slv 3 true m.nS (m.sens.map ak7.cells),slv 4 false m.nV (m.votes.map acT.cells),slv 5 false m.nM (m.moves.map acS.cells),.int .i64 m.states,.int .i64 m.cmds,.int .i64 m.bgn,slv 1 true m.nO (m.opn.map iv)]]]else e=.ret∧t 2=.bool false)) ?_ ?_ () _ _ ?_) (fun e t h hk=>?_)
 ·rintro _ t h Q' kQ ⟨h1,h3,rfl⟩
  (have hb:=trivial;with_reducible repeat' (first|simp only[hb,Vc.down,seval,TY5.down,h1,h3,ahB,decide_false,acQ]|refine fsp ?_ ?_<;>intro hb|refine fd ?_|fail))
  exact kQ _ _ _ (by rw[if_pos (by rfl)];exact⟨rfl,by simp[up,h1],rfl⟩)
 ·rintro x rest i _ t h J Q' kJ kQ hx hi ⟨h1,h3,rfl⟩
  have hd:decide ((i:Int)<(m.votes.length:Int))=true:=decide_eq_true (by omega)
  have hw:=agA hi hs.votes
  have lx:decide ((10:Int)<(x.sens.length:Int))= !decide (x.sens.length≤10):=by rw[←decide_not,decide_eq_decide];omega
  cases c1:decide (x.sens.length≤10)with
  |false=>
   (have hb:=trivial;with_reducible repeat' (first|simp only[hb,Vc.down,seval,TY5.down,h1,h3,hd,hx,hw,lx,c1,acT.cells,acQ]|refine fsp ?_ ?_<;>intro hb|refine fd ?_|fail))
   exact kQ _ _ _ (by rw[if_neg (by simp only[aoD,c1,atV];simp)];exact⟨rfl,by simp[up]⟩)
  |true=>
   (have hb:=trivial;with_reducible repeat' (first|simp only[hb,Vc.down,seval,TY5.down,h1,h3,hd,hx,hw,lx,c1,acT.cells,acQ]|refine fsp ?_ ?_<;>intro hb|refine fd ?_|fail))
   (refine ai7 (kJ _ _ () ⟨?_,?_,rfl⟩ ?_);(simp[up,h1]);(simp[up]);(simp only[aoD,c1,atX]))
 ·exact⟨by simp[up,ent],by simp[up],rfl⟩
 split at hk
 rotate_left
 ·obtain⟨rfl,h2⟩:=hk
  rename_i hr1
  (have hb:=trivial;with_reducible repeat' (first|simp only[hb,Vc.down,seval,TY5.down,h2]|refine fsp ?_ ?_<;>intro hb|refine fd ?_|fail))
  all_goals simp[ayA,axA.2 hr1]
 obtain⟨rfl,h1,rfl⟩:=hk
 rename_i hr1
 (have hb:=trivial;with_reducible repeat' (first|simp only[hb,Vc.down,seval,TY5.down,h1,acQ]|refine fsp ?_ ?_<;>intro hb|refine fd ?_|fail))
 refine anJ (lst 57 m.moves (fun i (zz:Unit) t h=>t 1=.ptr 0 0 0∧t 4=.int .i64 i∧(h=[.live 7 false false [[slv 3 true m.nS (m.sens.map ak7.cells),slv 4 false m.nV (m.votes.map acT.cells),slv 5 false m.nM (m.moves.map acS.cells),.int .i64 m.states,.int .i64 m.cmds,.int .i64 m.bgn,slv 1 true m.nO (m.opn.map iv)]]])) (fun rest zz=>rest.all (fun x=>decide (x.wants.length≤10))) (fun r e t h=>(if r=true then e=.exit 2∧t 1=.ptr 0 0 0∧h=[.live 7 false false [[slv 3 true m.nS (m.sens.map ak7.cells),slv 4 false m.nV (m.votes.map acT.cells),slv 5 false m.nM (m.moves.map acS.cells),.int .i64 m.states,.int .i64 m.cmds,.int .i64 m.bgn,slv 1 true m.nO (m.opn.map iv)]]]else e=.ret∧t 2=.bool false)) ?_ ?_ () _ _ ?_) (fun e t h hk=>?_)
 ·rintro _ t h Q' kQ ⟨h1,h4,rfl⟩
  (have hb:=trivial;with_reducible repeat' (first|simp only[hb,Vc.down,seval,TY5.down,h1,h4,ahB,decide_false,acQ]|refine fsp ?_ ?_<;>intro hb|refine fd ?_|fail))
  exact kQ _ _ _ (by rw[if_pos (by rfl)];exact⟨rfl,by simp[up,h1],rfl⟩)
 ·rintro x rest i _ t h J Q' kJ kQ hx hi ⟨h1,h4,rfl⟩
  have hd:decide ((i:Int)<(m.moves.length:Int))=true:=decide_eq_true (by omega)
  have hw:=agA hi hs.moves
  have lx:decide ((10:Int)<(x.wants.length:Int))= !decide (x.wants.length≤10):=by rw[←decide_not,decide_eq_decide];omega
  cases c1:decide (x.wants.length≤10)with
  |false=>
   (have hb:=trivial;with_reducible repeat' (first|simp only[hb,Vc.down,seval,TY5.down,h1,h4,hd,hx,hw,lx,c1,acS.cells,acQ]|refine fsp ?_ ?_<;>intro hb|refine fd ?_|fail))
   exact kQ _ _ _ (by rw[if_neg (by simp only[aoD,c1,atV];simp)];exact⟨rfl,by simp[up]⟩)
  |true=>
   (have hb:=trivial;with_reducible repeat' (first|simp only[hb,Vc.down,seval,TY5.down,h1,h4,hd,hx,hw,lx,c1,acS.cells,acQ]|refine fsp ?_ ?_<;>intro hb|refine fd ?_|fail))
   (refine ai7 (kJ _ _ () ⟨?_,?_,rfl⟩ ?_);(simp[up,h1]);(simp[up]);(simp only[aoD,c1,atX]))
 ·exact⟨by simp[up,ent,h1],by simp[up],rfl⟩
 split at hk
 rotate_left
 ·obtain⟨rfl,h2⟩:=hk
  rename_i hr2
  (have hb:=trivial;with_reducible repeat' (first|simp only[hb,Vc.down,seval,TY5.down,h2]|refine fsp ?_ ?_<;>intro hb|refine fd ?_|fail))
  all_goals simp[ayA,axA.2 hr2]
 obtain⟨rfl,h1,rfl⟩:=hk
 rename_i hr2
 (have hb:=trivial;with_reducible repeat' (first|simp only[hb,Vc.down,seval,TY5.down,h1,acQ,l1,l2,l3,l4]|refine fsp ?_ ?_<;>intro hb|refine fd ?_|fail))
 all_goals (refine congrArg (fun b=>(Out.ret (AV.bool b),([]:aaP))) ?_;symm;((try simp only[av8,arI,atT]at *);simp only[ayA, *,auJ,atV,auT,atX,Bool.and_self,Bool.not_not,arI,atT,aoD,auW]))
theorem aIN{α:Type}{d:List AV→Option α}{f:α→List AV}(hd:∀cs x,d cs=some x→cs=f x):∀{rows:List (List AV)} {l:List α},afG d rows=some l→rows=l.map f
 | [],l,h=>by simp[afG]at h;subst h;rfl
 |r::rows,l,h=>by
  simp only[afG,apM,ap1]at h
  obtain⟨x,h1,l',h2,rfl⟩:=h
  rw[hd r x h1,aIN hd h2];rfl
def dSl{α:Type}(n:Nat)(fl:Bool)(d:List AV→Option α):AV→Option (Bool × List α)
 | .nils=>some (false,[])
 | .imm n' fl' rows=>if n'=n∧fl'=fl then(afG d rows).map fun l=>(true,l)else none
 |_=>none
theorem ax9{α:Type}{n:Nat}{fl:Bool}{d:List AV→Option α}{f:α→List AV}(hd:∀cs x,d cs=some x→cs=f x){v:AV}{x:Bool × List α}(h:dSl n fl d v=some x):v=slv n fl x.1 (x.2.map f):=by
 unfold dSl at h
 split at h
 ·cases h;rfl
 ·split at h
  ·rename_i hq
   obtain⟨rfl,rfl⟩:=hq
   obtain⟨l,h1,rfl⟩:=ap1.1 h
   rw[aIN hd h1]
   cases l<;>rfl
  ·cases h
 ·cases h
def aSM:List AV→Option Int
 | [.int .i64 a]=>some a
 |_=>none
theorem aG6(cs:List AV)(x:Int)(h:aSM cs=some x):cs=iv x:=by
 unfold aSM at h
 split at h
 ·cases h;rfl
 ·cases h
def aZS:List AV→Option ak7
 | [.int .i64 a,.int .i64 b,.bool c]=>some ⟨a,b,c⟩
 |_=>none
theorem aWU(cs:List AV)(x:ak7)(h:aZS cs=some x):cs=x.cells:=by
 unfold aZS at h
 split at h
 ·cases h;rfl
 ·cases h
def aUS:List AV→Option acT
 | [l,.int .i64 a,.int .i64 b,.bool c]=>(dSl 1 true aSM l).map fun x=>⟨x.1,x.2,a,b,c⟩
 |_=>none
theorem aSL(cs:List AV)(x:acT)(h:aUS cs=some x):cs=x.cells:=by
 unfold aUS at h
 split at h
 ·obtain⟨y,h1,rfl⟩:=ap1.1 h
  rw[ax9 aG6 h1];rfl
 ·cases h
def aUL:List AV→Option agP
 | [.int .i64 a,.bool c]=>some ⟨a,c⟩
 |_=>none
theorem aUG(cs:List AV)(x:agP)(h:aUL cs=some x):cs=x.cells:=by
 unfold aUL at h
 split at h
 ·cases h;rfl
 ·cases h
def aU4:List AV→Option acS
 | [.int .i64 a,.int .i64 b,l,.int .i64 c,.int .i64 d]=>(dSl 2 true aUL l).map fun x=>⟨a,b,x.1,x.2,c,d⟩
 |_=>none
theorem aSJ(cs:List AV)(x:acS)(h:aU4 cs=some x):cs=x.cells:=by
 unfold aU4 at h
 split at h
 ·obtain⟨y,h1,rfl⟩:=ap1.1 h
  rw[ax9 aUG h1];rfl
 ·cases h
def aJ0:List AV→Option ad5
 | [s,v,x,.int .i64 a,.int .i64 b,.int .i64 c,o]=>(dSl 3 true aZS s).bind fun s=>(dSl 4 false aUS v).bind fun v=>(dSl 5 false aU4 x).bind fun x=>(dSl 1 true aSM o).map fun o=>⟨s.1,s.2,v.1,v.2,x.1,x.2,a,b,c,o.1,o.2⟩
 |_=>none
theorem aDT(cs:List AV)(x:ad5)(h:aJ0 cs=some x):cs=x.cells:=by
 unfold aJ0 at h
 split at h
 ·simp only[apM,ap1]at h
  obtain⟨s,h1,v,h2,y,h3,o,h4,rfl⟩:=h
  rw[ax9 aWU h1,ax9 aSL h2,ax9 aSJ h3,ax9 aG6 h4]
 ·cases h
def aDA(m:ad5):Bool:=decide (m.sens.length≤1000)&&decide (m.votes.length≤1000)&&decide (m.moves.length≤1000)&&decide (m.opn.length≤1000)&&m.votes.all (fun v=>decide (v.sens.length≤1000))&&m.moves.all (fun x=>decide (x.wants.length≤1000))
theorem aAF{m:ad5}(h:aDA m=true):m.small:=by
 simp only[aDA,am7,decide_eq_true_eq,at0]at h
 obtain⟨⟨⟨⟨⟨a,b⟩,c⟩,d⟩,e⟩,f⟩:=h
 exact⟨by unfold maxLen;omega,by unfold maxLen;omega,by unfold maxLen;omega,by unfold maxLen;omega,fun v hv=>by have:=e v hv;unfold maxLen;omega,fun v hv=>by have:=f v hv;unfold maxLen;omega⟩
def aU9:List AV→aaP→Option (Out × aaP)
 | [.agg cs],[]=>(aJ0 cs).bind fun m=>if aDA m=true then some (.ret (.bool (an4 m)),[])else none
 |_,_=>none
def aY8:List AV→aaP→Option (Out × aaP)
 | [.agg cs,.agg [.int .i64 st,.int .i64 ag],.agg [.int .i64 bits,.int .i64 com]],[]=>(aJ0 cs).bind fun m=>if(aDA m&&m.moves.all fun x=>x.wants.all fun w=>decide (0≤w.vote))=true then
     (match apP st ag bits com m.moves with
       |(a,b)=>some (.ret (.agg [.int .i64 a,.int .i64 b]),[]))else none
 |_,_=>none
def aSZ:List AV→aaP→Option (Out × aaP)
 | [.agg cs,l],[]=>(aJ0 cs).bind fun m=>(dSl 1 true aSM l).bind fun l=>if(aDA m&&decide (l.2.length=m.sens.length)&&m.votes.all fun v=>v.sens.all fun k=>decide (0≤k)&&decide (k.toNat<m.sens.length))=true then
     some (.ret (.int .i64 (ar1 m l.2 m.votes 0 0)),[])else none
 |_,_=>none
def pr2:ap6:=⟨fun f=>if f=23 then some aU9 else if f=30 then some aY8 else if f=31 then some aSZ else pr f,pr.md⟩
theorem aZD(f:Nat)(h:pr2 f=none):pr f=none:=by
 simp only[pr2]at h
 split at h
 ·cases h
 ·split at h
  ·cases h
  ·split at h
   ·cases h
   ·exact h
theorem aJU{tab:List Ent}(f:Nat)(h:ayX pr2 tab f=none):pr f=none:=by
 simp only[ayX]at h
 split at h
 ·cases h
 ·exact aZD f h
theorem aAA:∀f p,pr2 f=some p→∀a h r,p a h=some r→om'.call (.fn f) a h=some r:=by
 intro f p hp a h r hr
 simp only[pr2]at hp
 split at hp
 ·rename_i hf
  subst hf
  cases hp
  unfold aU9 at hr
  split at hr
  ·rename_i cs
   obtain⟨s,h1,h2⟩:=apM.1 hr
   split at h2
   ·rename_i hs
    cases h2
    rw[aDT _ _ h1]
    exact aMF s (aAF hs)
   ·cases h2
  ·cases hr
 ·split at hp
  ·rename_i hf
   subst hf
   cases hp
   unfold aY8 at hr
   split at hr
   ·rename_i cs st ag bits com
    obtain⟨s,h1,h2⟩:=apM.1 hr
    split at h2
    ·rename_i hs
     simp only[am7,at0,decide_eq_true_eq]at hs
     cases h2
     rw[aDT _ _ h1]
     exact aTN s st ag bits com (aAF hs.1) hs.2
    ·cases h2
   ·cases hr
  ·split at hp
   ·rename_i hf
    subst hf
    cases hp
    unfold aSZ at hr
    split at hr
    ·rename_i cs l
     simp only[apM]at hr
     obtain⟨s,h1,y,h2,h3⟩:=hr
     split at h3
     ·rename_i hs
      simp only[am7,at0,decide_eq_true_eq]at hs
      cases h3
      rw[aDT _ _ h1,ax9 aG6 h2]
      exact aM0 s hs.1.2 (aAF hs.1.1) (fun v hv k hk=>hs.2 v hv k hk)
     ·cases h3
    ·cases hr
   ·exact aMY hp hr
def exA:AV:=.agg [.imm 3 true [[.int .i64 0,.int .i64 100,.bool false],[.int .i64 0,.int .i64 100,.bool false],[.int .i64 0,.int .i64 100,.bool false]],.imm 4 false [[.imm 1 true [[.int .i64 0],[.int .i64 1],[.int .i64 2]],.int .i64 2,.int .i64 80,.bool true]],.imm 5 false [[.int .i64 0,.int .i64 1,.imm 2 true [[.int .i64 0,.bool true]],.int .i64 (-1),.int .i64 0],[.int .i64 1,.int .i64 2,.nils,.int .i64 (-1),.int .i64 1],[.int .i64 2,.int .i64 0,.imm 2 true [[.int .i64 0,.bool false]],.int .i64 0,.int .i64 2]],.int .i64 3,.int .i64 1,.int .i64 0,.imm 1 true [[.int .i64 3],[.int .i64 1],[.int .i64 0]]]
def exS:AV:=.imm 2 true [[.int .i64 1,.int .i64 (-1)],[.int .i64 1,.int .i64 0],[.int .i64 0,.int .i64 (-1)],[.int .i64 0,.int .i64 0]]
def E0:Ent:=⟨40,[exA],(.ret (.tup [.slr 2 0 0 4,.slr 2 1 0 4]),[.live 2 false false [[.slr 1 2 0 3,.int .i64 (-1)],[.slr 1 3 0 3,.int .i64 0],[.slr 1 4 0 3,.int .i64 (-1)],[.slr 1 5 0 3,.int .i64 0]],.live 2 true false [[.int .i64 1,.int .i64 (-1)],[.int .i64 1,.int .i64 0],[.int .i64 0,.int .i64 (-1)],[.int .i64 0,.int .i64 0]],.live 1 true false [[.int .i64 (-10000)],[.int .i64 (-10000)],[.int .i64 (-10000)]],.live 1 true false [[.int .i64 (-10000)],[.int .i64 (-10000)],[.int .i64 (-10000)]],.live 1 true false [[.int .i64 (-10000)],[.int .i64 0],[.int .i64 0]],.live 1 true false [[.int .i64 (-10000)],[.int .i64 0],[.int .i64 0]]])⟩
def E1:Ent:=⟨41,[exA,exS],(.ret (.tup [.slr 2 0 0 24,.mapr 1]),[.live 2 true false [[.int .i64 0,.int .i64 0],[.int .i64 1,.int .i64 0],[.int .i64 0,.int .i64 1],[.int .i64 1,.int .i64 1],[.int .i64 0,.int .i64 2],[.int .i64 2,.int .i64 0],[.int .i64 0,.int .i64 3],[.int .i64 2,.int .i64 1],[.int .i64 0,.int .i64 4],[.int .i64 2,.int .i64 2],[.int .i64 0,.int .i64 5],[.int .i64 2,.int .i64 3],[.int .i64 0,.int .i64 6],[.int .i64 2,.int .i64 4],[.int .i64 0,.int .i64 7],[.int .i64 2,.int .i64 5],[.int .i64 0,.int .i64 8],[.int .i64 2,.int .i64 6],[.int .i64 0,.int .i64 9],[.int .i64 2,.int .i64 7],[.int .i64 0,.int .i64 10],[.int .i64 2,.int .i64 8],[.int .i64 2,.int .i64 9],[.int .i64 2,.int .i64 10]],.lp [] .skip .skip [.agg [.int .i64 0,.int .i64 0],.agg [.int .i64 0,.int .i64 0,.int .i64 (-1)],.agg [.int .i64 1,.int .i64 0],.agg [.int .i64 0,.int .i64 0,.int .i64 0],.agg [.int .i64 0,.int .i64 1],.agg [.int .i64 0,.int .i64 0,.int .i64 2],.agg [.int .i64 1,.int .i64 1],.agg [.int .i64 1,.int .i64 0,.int .i64 0],.agg [.int .i64 0,.int .i64 2],.agg [.int .i64 0,.int .i64 1,.int .i64 2],.agg [.int .i64 2,.int .i64 0],.agg [.int .i64 1,.int .i64 1,.int .i64 0],.agg [.int .i64 0,.int .i64 3],.agg [.int .i64 0,.int .i64 2,.int .i64 2],.agg [.int .i64 2,.int .i64 1],.agg [.int .i64 2,.int .i64 0,.int .i64 0],.agg [.int .i64 0,.int .i64 4],.agg [.int .i64 0,.int .i64 3,.int .i64 2],.agg [.int .i64 2,.int .i64 2],.agg [.int .i64 2,.int .i64 1,.int .i64 0],.agg [.int .i64 0,.int .i64 5],.agg [.int .i64 0,.int .i64 4,.int .i64 2],.agg [.int .i64 2,.int .i64 3],.agg [.int .i64 2,.int .i64 2,.int .i64 0],.agg [.int .i64 0,.int .i64 6],.agg [.int .i64 0,.int .i64 5,.int .i64 2],.agg [.int .i64 2,.int .i64 4],.agg [.int .i64 2,.int .i64 3,.int .i64 0],.agg [.int .i64 0,.int .i64 7],.agg [.int .i64 0,.int .i64 6,.int .i64 2],.agg [.int .i64 2,.int .i64 5],.agg [.int .i64 2,.int .i64 4,.int .i64 0],.agg [.int .i64 0,.int .i64 8],.agg [.int .i64 0,.int .i64 7,.int .i64 2],.agg [.int .i64 2,.int .i64 6],.agg [.int .i64 2,.int .i64 5,.int .i64 0],.agg [.int .i64 0,.int .i64 9],.agg [.int .i64 0,.int .i64 8,.int .i64 2],.agg [.int .i64 2,.int .i64 7],.agg [.int .i64 2,.int .i64 6,.int .i64 0],.agg [.int .i64 0,.int .i64 10],.agg [.int .i64 0,.int .i64 9,.int .i64 2],.agg [.int .i64 2,.int .i64 8],.agg [.int .i64 2,.int .i64 7,.int .i64 0],.agg [.int .i64 2,.int .i64 9],.agg [.int .i64 2,.int .i64 8,.int .i64 0],.agg [.int .i64 2,.int .i64 10],.agg [.int .i64 2,.int .i64 9,.int .i64 0]] .map])⟩
def E2:Ent:=⟨20,[exA,.int .i64 2],(.ret (.tup [.slr 2 0 0 3,.int .i64 0]),[.live 2 false true [[.slr 1 1 0 3,.int .i64 (-1)],[.slr 1 2 0 3,.int .i64 (-1)],[.slr 1 3 0 3,.int .i64 (-1)]],.live 1 true false [[.int .i64 (-10000)],[.int .i64 (-10000)],[.int .i64 (-10000)]],.live 1 true false [[.int .i64 (-10000)],[.int .i64 (-10000)],[.int .i64 (-10000)]],.live 1 true false [[.int .i64 (-10000)],[.int .i64 (-10000)],[.int .i64 (-10000)]]])⟩
def E3:Ent:=⟨21,[exA,.int .i64 0,.imm 1 true [[.int .i64 2]]],(.ret (.tup [.int .i64 3,.int .i64 0]),[])⟩
def E4:Ent:=⟨21,[exA,.int .i64 0,.imm 1 true [[.int .i64 0]]],(.ret (.tup [.int .i64 0,.int .i64 5]),[])⟩
theorem aZ6:(orc Tryz.prog pr2 400).call (.fn E0.f) E0.args []=some E0.res:=by kernel_rfl
theorem aL6:om'.call (.fn E0.f) E0.args []=some E0.res:=au5 (pr:=pr) (pr2:=pr2) rfl aZD aAA aZ6
def T1:ap6:=ayX pr2 [E0]
theorem a4K:∀f p,T1 f=some p→∀a h r,p a h=some r→om'.call (.fn f) a h=some r:=awV aAA (fun e he=>by
 simp only[aoF,aq0,or_false]at he
 rcases he with rfl
 ·exact aL6)
theorem a2E:(orc Tryz.prog T1 400).call (.fn E1.f) E1.args []=some E1.res:=by kernel_rfl
theorem aQ5:om'.call (.fn E1.f) E1.args []=some E1.res:=au5 (pr:=pr) (pr2:=T1) rfl aJU a4K a2E
def T2:ap6:=ayX pr2 [E0,E1]
theorem a47:∀f p,T2 f=some p→∀a h r,p a h=some r→om'.call (.fn f) a h=some r:=awV aAA (fun e he=>by
 simp only[aoF,aq0,or_false]at he
 rcases he with rfl|rfl
 ·exact aL6
 ·exact aQ5)
theorem a1U:(orc Tryz.prog T2 400).call (.fn E2.f) E2.args []=some E2.res:=by kernel_rfl
theorem a5H:om'.call (.fn E2.f) E2.args []=some E2.res:=au5 (pr:=pr) (pr2:=T2) rfl aJU a47 a1U
def T3:ap6:=ayX pr2 [E0,E1]
theorem a5S:∀f p,T3 f=some p→∀a h r,p a h=some r→om'.call (.fn f) a h=some r:=awV aAA (fun e he=>by
 simp only[aoF,aq0,or_false]at he
 rcases he with rfl|rfl
 ·exact aL6
 ·exact aQ5)
theorem a0V:(orc Tryz.prog T3 400).call (.fn E3.f) E3.args []=some E3.res:=by kernel_rfl
theorem a5E:om'.call (.fn E3.f) E3.args []=some E3.res:=au5 (pr:=pr) (pr2:=T3) rfl aJU a5S a0V
def T4:ap6:=ayX pr2 [E0,E1]
theorem a6E:∀f p,T4 f=some p→∀a h r,p a h=some r→om'.call (.fn f) a h=some r:=awV aAA (fun e he=>by
 simp only[aoF,aq0,or_false]at he
 rcases he with rfl|rfl
 ·exact aL6
 ·exact aQ5)
theorem a3Q:(orc Tryz.prog T4 400).call (.fn E4.f) E4.args []=some E4.res:=by kernel_rfl
theorem a40:om'.call (.fn E4.f) E4.args []=some E4.res:=au5 (pr:=pr) (pr2:=T4) rfl aJU a6E a3Q
def TK:ap6:=ayX pr2 [E2,E3,E4]
theorem a4Z:∀f p,TK f=some p→∀a h r,p a h=some r→om'.call (.fn f) a h=some r:=awV aAA (fun e he=>by
 simp only[aoF,aq0,or_false]at he
 rcases he with rfl|rfl|rfl
 ·exact a5H
 ·exact a5E
 ·exact a40)
theorem aN9:(orc Tryz.prog TK 400).call (.fn 6) [] []=some (.ret (.bool true),[]):=by kernel_rfl
theorem aS6:om'.call (.fn 6) [] []=some (.ret (.bool true),[]):=au5 (pr:=pr) (pr2:=TK) rfl aJU a4Z aN9
theorem aKQ{α:Type}{f:α→List AV}(h:∀x m,alF.refL (alF 8) m (f x)=some (f x,m)):∀(l:List α) (m:List Nat),ao3 m (l.map f)=some (l.map f,m)
 | [],_=>rfl
 |x::l,m=>by
  rw[an9,ao3,h x m]
  show Option.map _ (ao3 m (l.map f))=_
  rw[aKQ h l m];rfl
theorem aGM{α:Type}{f:α→List AV}(h:∀x (g:Nat→Nat),afG (alC 8 g) (f x)=some (f x)):∀(l:List α) (g:Nat→Nat),afG (afG (alC 8 g)) (l.map f)=some (l.map f)
 | [],_=>rfl
 |x::l,g=>by
  rw[an9,afG,h x g]
  show Option.map _ (afG (afG (alC 8 g)) (l.map f))=_
  rw[aGM h l g];rfl
theorem aU0(x:acT)(g:Nat→Nat):afG (alC 8 g) x.cells=some x.cells:=by
 obtain⟨nn,l,a,b,c⟩:=x
 cases l<;>cases nn<;>rfl
theorem aRC(x:acS)(g:Nat→Nat):afG (alC 8 g) x.cells=some x.cells:=by
 obtain⟨a,b,nn,l,c,d⟩:=x
 cases l<;>cases nn<;>rfl
theorem aRE(x:acT)(m:List Nat):alF.refL (alF 8) m x.cells=some (x.cells,m):=by
 obtain⟨nn,l,a,b,c⟩:=x
 cases l<;>cases nn<;>rfl
theorem aUU(x:acS)(m:List Nat):alF.refL (alF 8) m x.cells=some (x.cells,m):=by
 obtain⟨a,b,nn,l,c,d⟩:=x
 cases l<;>cases nn<;>rfl
theorem aK1:om'.call (.fn 37) [.nils] []=some (.ret .nils,[]):=by
 (refine ce Tryz.func37 ?_;simp only[Tryz.f37];(have hb:=trivial;with_reducible repeat' (first|simp only[hb,Va.down,seval,a2L.down]|refine fsp ?_ ?_<;>intro hb|refine fd ?_|fail)))
theorem aHE{l:List Int}(hl:l.length≤1000):om'.call (.fn 37) [.imm 1 true (l.map iv)] []=some (.ret (.slr 1 0 0 l.length),[.live 1 true false (l.map iv)]):=by
 cases l with
 |nil=>
  (refine ce Tryz.func37 ?_;simp only[Tryz.f37];(have hb:=trivial;with_reducible repeat' (first|simp only[hb,Va.down,seval,a2L.down,aeG]|refine fsp ?_ ?_<;>intro hb|refine fd ?_|fail)))
 |cons x l=>
  have h39:(l.length+1≤549755813888)=True:=eq_true (by simp at hl;omega)
  (refine ce Tryz.func37 ?_;simp only[Tryz.f37];(have hb:=trivial;with_reducible repeat' (first|simp only[hb,Va.down,seval,a2L.down,acQ,h39,iv]|refine fsp ?_ ?_<;>intro hb|refine fd ?_|fail)))
theorem a0U:om'.call (.fn 54) [.nils] []=some (.ret .nils,[]):=by
 (refine ce Tryz.func54 ?_;simp only[Tryz.f54];(have hb:=trivial;with_reducible repeat' (first|simp only[hb,Va.down,seval,a3H.down]|refine fsp ?_ ?_<;>intro hb|refine fd ?_|fail)))
theorem a29{l:List ak7}(hl:l.length≤1000):om'.call (.fn 54) [.imm 3 true (l.map ak7.cells)] []=some (.ret (.slr 3 0 0 l.length),[.live 3 true false (l.map ak7.cells)]):=by
 cases l with
 |nil=>
  (refine ce Tryz.func54 ?_;simp only[Tryz.f54];(have hb:=trivial;with_reducible repeat' (first|simp only[hb,Va.down,seval,a3H.down,aeG]|refine fsp ?_ ?_<;>intro hb|refine fd ?_|fail)))
 |cons x l=>
  have h39:(l.length+1≤549755813888)=True:=eq_true (by simp at hl;omega)
  (refine ce Tryz.func54 ?_;simp only[Tryz.f54];(have hb:=trivial;with_reducible repeat' (first|simp only[hb,Va.down,seval,a3H.down,acQ,h39,ak7.cells]|refine fsp ?_ ?_<;>intro hb|refine fd ?_|fail)))
theorem aYL:om'.call (.fn 55) [.nils] []=some (.ret .nils,[]):=by
 (refine ce Tryz.func55 ?_;simp only[Tryz.f55];(have hb:=trivial;with_reducible repeat' (first|simp only[hb,Va.down,seval,a0T.down]|refine fsp ?_ ?_<;>intro hb|refine fd ?_|fail)))
theorem aV4{l:List acT}(hl:l.length≤1000):om'.call (.fn 55) [.imm 4 false (l.map acT.cells)] []=some (.ret (.slr 4 0 0 l.length),[.live 4 false false (l.map acT.cells)]):=by
 cases l with
 |nil=>
  (refine ce Tryz.func55 ?_;simp only[Tryz.f55];(have hb:=trivial;with_reducible repeat' (first|simp only[hb,Va.down,seval,a0T.down,aeG]|refine fsp ?_ ?_<;>intro hb|refine fd ?_|fail)))
 |cons x l=>
  have h39:(l.length+1≤549755813888)=True:=eq_true (by simp at hl;omega)
  have hrr:=aKQ aRE l
  (refine ce Tryz.func55 ?_;simp only[Tryz.f55];(have hb:=trivial;with_reducible repeat' (first|simp only[hb,Va.down,seval,a0T.down,acQ,h39,hrr,acT.cells]|refine fsp ?_ ?_<;>intro hb|refine fd ?_|fail)))
theorem aXV:om'.call (.fn 56) [.nils] []=some (.ret .nils,[]):=by
 (refine ce Tryz.func56 ?_;simp only[Tryz.f56];(have hb:=trivial;with_reducible repeat' (first|simp only[hb,Va.down,seval,a2Y.down]|refine fsp ?_ ?_<;>intro hb|refine fd ?_|fail)))
theorem aW6{l:List acS}(hl:l.length≤1000):om'.call (.fn 56) [.imm 5 false (l.map acS.cells)] []=some (.ret (.slr 5 0 0 l.length),[.live 5 false false (l.map acS.cells)]):=by
 cases l with
 |nil=>
  (refine ce Tryz.func56 ?_;simp only[Tryz.f56];(have hb:=trivial;with_reducible repeat' (first|simp only[hb,Va.down,seval,a2Y.down,aeG]|refine fsp ?_ ?_<;>intro hb|refine fd ?_|fail)))
 |cons x l=>
  have h39:(l.length+1≤549755813888)=True:=eq_true (by simp at hl;omega)
  have hrr:=aKQ aUU l
  (refine ce Tryz.func56 ?_;simp only[Tryz.f56];(have hb:=trivial;with_reducible repeat' (first|simp only[hb,Va.down,seval,a2Y.down,acQ,h39,hrr,acS.cells]|refine fsp ?_ ?_<;>intro hb|refine fd ?_|fail)))
theorem aX0:om'.call (.fn 57) [.nils] []=some (.ret .nils,[]):=by
 (refine ce Tryz.func57 ?_;simp only[Tryz.f57];(have hb:=trivial;with_reducible repeat' (first|simp only[hb,Va.down,seval,a0L.down]|refine fsp ?_ ?_<;>intro hb|refine fd ?_|fail)))
theorem aV9{l:List agP}(hl:l.length≤1000):om'.call (.fn 57) [.imm 2 true (l.map agP.cells)] []=some (.ret (.slr 2 0 0 l.length),[.live 2 true false (l.map agP.cells)]):=by
 cases l with
 |nil=>
  (refine ce Tryz.func57 ?_;simp only[Tryz.f57];(have hb:=trivial;with_reducible repeat' (first|simp only[hb,Va.down,seval,a0L.down,aeG]|refine fsp ?_ ?_<;>intro hb|refine fd ?_|fail)))
 |cons x l=>
  have h39:(l.length+1≤549755813888)=True:=eq_true (by simp at hl;omega)
  (refine ce Tryz.func57 ?_;simp only[Tryz.f57];(have hb:=trivial;with_reducible repeat' (first|simp only[hb,Va.down,seval,a0L.down,acQ,h39,agP.cells]|refine fsp ?_ ?_<;>intro hb|refine fd ?_|fail)))
theorem awL(st:Nat)(fl nn:Bool)(rows:List (List AV)):(nn=false∧rows=[]∧slv st fl nn rows=.nils)∨slv st fl nn rows=.imm st fl rows:=by
 cases rows with
 |nil=>cases nn with
  |false=>exact .inl ⟨rfl,rfl,rfl⟩
  |true=>exact .inr rfl
 |cons r l=>exact .inr rfl
theorem alB{h:aaP}{b:Nat}{c:CB}(e:h[b]?=some c):b<h.length:=(atY.1 e).1
theorem aCS{g:HF}{d:Nat}(b:Bool):rd (d+1) g (.bool b)=some (.bool b,[]):=rfl
theorem aSC{g:HF}{d st b n:Nat}{rows:List (List AV)}{q:List (List AV) × List Nat}(h:(g b).bind agI=some (st,false,rows))(hn:n=rows.length)(hq:alA (rd d g) rows=some q):rd (d+1) g (.slr st b 0 n)=some (.imm st false q.1,b::q.2):=by
 subst hn;simp[rd,h,hq]
theorem _root_.Go.Ev.aqH.set(h:aaP)(b:Nat)(c:CB):aqH [b] h (h.set b c):=⟨by simp,fun b' _ hn=>avI (fun e=>hn (by simp[e]))⟩
structure SI{α:Type}(st:Nat)(f:α→List AV)(l:List α)(h0:aaP)(b i:Nat)(h:aaP):Prop where
 keep:aqH [b] h0 h
 at_:∃w rows R,h[b]?=some (.live st false w rows)∧rows.length=l.length∧alA (rd 4 (hf h)) (rows.take i)=some ((l.take i).map f,R)∧rows.drop i=(l.drop i).map f∧(∀x∈R,h0.length≤x∧x<h.length)∧R.length≤i
theorem axE{α:Type}{f:α→List AV}{rows:List (List AV)}{l:List α}{i:Nat}{x:α}(hl:rows.length=l.length)(hd:rows.drop i=(l.drop i).map f)(hx:l[i]?=some x):rows[i]?=some (f x)∧∀c,(rows.set i c).drop (i+1)=(l.drop (i+1)).map f∧(rows.set i c).take (i+1)=rows.take i++[c]:=by
 have hi:i<l.length:=(atY.1 hx).1
 have h1:rows[i]?=some (f x):=by
  have:=congrArg (·[0]?) hd
  simp only[List.getElem?_drop,List.getElem?_map,Nat.add_zero,hx,Option.map_some]at this
  exact this
 refine⟨h1,fun c=>⟨?_,?_⟩⟩
 ·have:(rows.drop i).drop 1=((l.drop i).map f).drop 1:=by rw[hd]
  rw[ayL,←List.map_drop,ayL]at this
  rw[List.drop_set_of_lt (by omega)]
  simpa [Nat.add_comm]using this
 ·rw[azS,List.take_set_of_le (by omega),apD (by omega)]
  rfl
theorem az7{α:Type}{l:List α}{i:Nat}{x:α}(hx:l[i]?=some x):l.take (i+1)=l.take i++[x]:=by
 rw[azS,hx];rfl
theorem SI.next{α:Type}{st:Nat}{f:α→List AV}{l:List α}{h0:aaP}{b i:Nat}{h:aaP}{w:Bool}{rows:List (List AV)}{R:List Nat}(k:aqH [b] h0 h)(hb:b<h0.length)(hw:h[b]?=some (.live st false w rows))(hl:rows.length=l.length)
 (hr:alA (rd 4 (hf h)) (rows.take i)=some ((l.take i).map f,R)) (hd:rows.drop i=(l.drop i).map f) (hR:∀x∈R,h0.length≤x∧x<h.length) (hn:R.length≤i) {x:α} (hx:l[i]?=some x) (a:aaP) (c:List AV) (R1:List Nat) (w':Bool)
 (hc:rdL (rd 4 (hf (h++a))) c=some (f x,R1)) (h1:∀y∈R1,h.length≤y∧y<(h++a).length) (h2:R1.length≤1):SI st f l h0 b (i+1) ((h++a).set b (.live st false w' (rows.set i c))):=by
 have hbl:b<h.length:=av7 hb k.len
 have e:=axE hl hd hx
 have agr:∀(S:List Nat) (g:aaP),(∀y∈S,y≠b)→Agr S (hf g) (hf (g.set b (.live st false w' (rows.set i c)))):=fun S g hS y hy z hz=>by
  show((g.set b _)[y]?).bind agI=_
  rw[avI (fun e=>hS y hy e.symm)];exact hz
 refine⟨((k.trans (aqH.app h a)).trans (aqH.set _ b _)).mono (fun y hy=>by simp at hy;simp[hy]),w',rows.set i c,R++R1,apD (by simp;omega),by simpa using hl,?_,(e.2 c).1,fun y hy=>?_,by simp;omega⟩
 ·rw[(e.2 c).2,az7 hx,List.map_append]
  refine auD (p:=((l.take i).map f,R)) (q:=(f x,R1)) ?_ ?_
  ·exact aqE hr (fun y hy z hz=>agr R (h++a) (fun y hy=>by have:=hR y hy;omega) y hy z (by
    show((h++a)[y]?).bind agI=_
    rw[List.getElem?_append_left (hR y hy).2];exact hz))
  ·exact aq7 hc (agr R1 _ fun y hy=>by have:=h1 y hy;omega)
 ·have hlen:=k.len
  rcases List.mem_append.1 hy with hy|hy
  ·have:=hR y hy;simp;omega
  ·have:=h1 y hy;simp at this ⊢;omega
theorem SI.zero{α:Type}{st:Nat}{f:α→List AV}{l:List α}{h0:aaP}{b:Nat}{w:Bool}(hw:h0[b]?=some (.live st false w (l.map f))):SI st f l h0 b 0 h0:=
 ⟨(aqH.refl h0).mono (fun y hy=>by simp at hy),w,l.map f,[],hw,by simp,rfl,by simp,fun y hy=>by simp at hy,Nat.le_refl _⟩
theorem SI.done{α:Type}{st:Nat}{f:α→List AV}{l:List α}{h0:aaP}{b:Nat}{h:aaP}{nn:Bool}(S:SI st f l h0 b l.length h)(hs:slv st false nn (l.map f)=.imm st false (l.map f)):∃R,rd 5 (hf h) (.slr st b 0 l.length)=some (slv st false nn (l.map f),b::R)∧(∀x∈R,h0.length≤x∧x<h.length)∧R.length≤l.length:=by
 obtain⟨w,rows,R,hw,hl,hr,hd,hR,hn⟩:=S.at_
 rw[avD (by omega),avD (Nat.le_refl _)]at hr
 refine⟨R,?_,hR,hn⟩
 rw[hs]
 have e:((hf h) b).bind agI=some (st,false,rows):=by show(h[b]?).bind agI=_;rw[hw];rfl
 exact aSC e hl.symm hr
structure ad5.tiny(m:ad5):Prop where
 sens:m.sens.length≤1000
 votes:m.votes.length≤1000
 moves:m.moves.length≤1000
 opn:m.opn.length≤1000
 vs:∀v∈m.votes,v.sens.length≤1000
 ws:∀x∈m.moves,x.wants.length≤1000
def SlO(st b:Nat)(rows:List (List AV))(nn:Bool)(v:AV)(h:aaP):Prop:=
 (slv st false nn rows=.nils∧rows=[]∧v=.nils)∨(slv st false nn rows=.imm st false rows∧v=.slr st b 0 rows.length∧b<h.length∧∃w,h[b]?=some (.live st false w rows))
def SlD{α:Type}(st:Nat)(f:α→List AV)(l:List α)(nn:Bool)(v:AV)(h0:aaP)(b i:Nat)(h:aaP):Prop:=
 (slv st false nn (l.map f)=.nils∧l=[]∧v=.nils∧aqH [] h0 h)∨(slv st false nn (l.map f)=.imm st false (l.map f)∧v=.slr st b 0 l.length∧b<h0.length∧SI st f l h0 b i h)
theorem SlO.zero{α:Type}{st:Nat}{f:α→List AV}{l:List α}{nn:Bool}{v:AV}{h0:aaP}{b:Nat}(h:SlO st b (l.map f) nn v h0):SlD st f l nn v h0 b 0 h0:=by
 rcases h with⟨h1,h2,h3⟩|⟨h1,h2,h3,w,h4⟩
 ·exact .inl ⟨h1,azT.1 h2,h3,aqH.refl h0⟩
 ·exact .inr ⟨h1,by simpa using h2,h3,SI.zero h4⟩
theorem SlD.keep{α:Type}{st:Nat}{f:α→List AV}{l:List α}{nn:Bool}{v:AV}{h0 h:aaP}{b i:Nat}(D:SlD st f l nn v h0 b i h):aqH [b] h0 h:=by
 rcases D with⟨_,_,_,k⟩|⟨_,_,_,k⟩
 ·exact k.mono (fun y hy=>by simp at hy)
 ·exact k.keep
theorem SlD.read{α:Type}{st:Nat}{f:α→List AV}{l:List α}{nn:Bool}{v:AV}{h0 h:aaP}{b:Nat}(D:SlD st f l nn v h0 b l.length h):∃R,rd 5 (hf h) v=some (slv st false nn (l.map f),R)∧(∀x∈R,(x=b∧b<h0.length)∨(h0.length≤x∧x<h.length))∧R.length≤l.length+1:=by
 rcases D with⟨h1,h2,h3,_⟩|⟨h1,h2,h3,S⟩
 ·exact⟨[],by rw[h1,h3];rfl,fun x hx=>by simp at hx,by simp⟩
 ·obtain⟨R,r1,r2,r3⟩:=S.done h1
  exact⟨b::R,by rw[h2];exact r1,fun x hx=>by
   rcases aoF.1 hx with rfl|hx
   ·exact .inl ⟨rfl,h3⟩
   ·exact .inr (r2 x hx),by simpa using r3⟩
theorem SlD.agr{α:Type}{st:Nat}{f:α→List AV}{l:List α}{nn:Bool}{v:AV}{h0 h:aaP}{b i:Nat}(D:SlD st f l nn v h0 b i h){R:List Nat}(hR:∀x∈R,x<h0.length∧(b<h0.length→v≠.nils→x≠b)):Agr R (hf h0) (hf h):=by
 rcases D with⟨_,_,_,k⟩|⟨_,hv,hl,S⟩
 ·exact k.agr (fun x hx=>⟨(hR x hx).1,by simp⟩)
 ·exact S.keep.agr (fun x hx=>⟨(hR x hx).1,by simpa using (hR x hx).2 hl (by rw[hv];simp)⟩)
theorem SlO.mono{st b:Nat}{rows:List (List AV)}{nn:Bool}{v:AV}{h g:aaP}{X:List Nat}(o:SlO st b rows nn v h)(k:aqH X h g)(hb:b∉X):SlO st b rows nn v g:=by
 rcases o with h1|⟨h1,h2,h3,w,h4⟩
 ·exact .inl h1
 ·exact .inr ⟨h1,h2,av7 h3 k.len,w,by rw[k.same b h3 hb];exact h4⟩
theorem SlD.len{α:Type}{st:Nat}{f:α→List AV}{l:List α}{nn:Bool}{v:AV}{h0 h:aaP}{b i:Nat}(D:SlD st f l nn v h0 b i h):v=.nils∧l.length=0∨v=.slr st b 0 l.length:=by
 rcases D with⟨_,h2,h3,_⟩|⟨_,h2,_,_⟩
 ·exact .inl ⟨h3,by rw[h2];rfl⟩
 ·exact .inr h2
theorem a24(m:ad5)(hM:m.tiny)(ho:m.opn≠[]):RdV om' 24 [.agg [slv 3 true m.nS (m.sens.map ak7.cells),slv 4 false m.nV (m.votes.map acT.cells),slv 5 false m.nM (m.moves.map acS.cells),.int .i64 m.states,.int .i64 m.cmds,.int .i64 m.bgn,slv 1 true m.nO (m.opn.map iv)]] (.agg m.cells) (4+m.votes.length+m.moves.length):=by
 refine RdV.of ?_
 refine a3P rfl Tryz.func24 rfl rfl ?_
 simp only[Tryz.f24]
 generalize hC2:Code.seq (Code.seq (Code.region 2 _ _) _) _=C2
 have key:∀(t:Tm) (h:aaP) (sv vv mv ov:AV) (vb mb:Nat) (Rs Ro:List Nat) (w w1:Bool),t 1=.ptr 0 0 0→t 2=.ptr 1 0 0→h[0]?=some (.live 7 false w [[sv,vv,mv,.int .i64 m.states,.int .i64 m.cmds,.int .i64 m.bgn,ov]])→h[1]?=some (.live 7 false w1 [[.nils,.nils,.nils,.int .i64 0,.int .i64 0,.int .i64 0,.nils]])→
  rd 5 (hf h) sv=some (slv 3 true m.nS (m.sens.map ak7.cells),Rs)→rd 5 (hf h) ov=some (slv 1 true m.nO (m.opn.map iv),Ro)→Rs.length≤1→Ro.length≤1→(∀b∈Rs++Ro,b<h.length∧2≤b∧b≠vb∧b≠mb)→
  SlO 4 vb (m.votes.map acT.cells) m.nV vv h→SlO 5 mb (m.moves.map acS.cells) m.nM mv h→2≤vb→2≤mb→vb≠mb→
  FnE Tryz.prog 0 [.cell 2 27] (fun o h'=>∃v R,o=.ret v∧rd 6 (hf h') v=some (.agg m.cells,R)∧R.length≤4+(m.votes.length+m.moves.length)∧∀c∈h',Rnm c) (evM om' Tryz.prog 4996 C2 [] ⟨mk 60 t,h⟩):=by
  intro t h sv vv mv ov vb mb Rs Ro w w1 h1 h2 h0 h00 hsv hov hRs hRo hR hv hm hvb hmb hvm
  rw[←hC2]
  have V0:=hv.zero
  have hlv:ln Tryz.prog 23 (some vv)=some (.ret (.int .i64 (m.votes.length:Nat)),[]):=by
   rcases V0.len with⟨rfl,e⟩|rfl
   ·simp only[Va.down,seval,av1.down,e]
   ·simp only[Va.down,seval,av1.down]
  have hlm:ln Tryz.prog 24 (some mv)=some (.ret (.int .i64 (m.moves.length:Nat)),[]):=by
   rcases hm.zero.len with⟨rfl,e⟩|rfl
   ·simp only[Va.down,seval,av1.down,e]
   ·simp only[Va.down,seval,av1.down]
  refine hid (fun KK iN hK=>?_)
  (have hb:=trivial;with_reducible repeat' (first|simp only[hb,Va.down,seval,av1.down,h1,h2,h0,h00,hlv,hlm]|refine fsp ?_ ?_<;>intro hb|refine fd ?_|fail))
  have lt0:0<h.length:=alB h0
  have lt1:1<h.length:=alB h00
  refine anJ (lst 60 m.votes (fun i (_:Unit) t g=>t 1=.ptr 0 0 0∧t 2=.ptr 1 0 0∧t 23=.int .i64 (m.votes.length:Nat)∧t 24=.int .i64 i∧SlD 4 acT.cells m.votes m.nV vv h vb i g) (fun _ _=>())
   (fun _ e t g=>e=.exit 0∧t 1=.ptr 0 0 0∧t 2=.ptr 1 0 0∧SlD 4 acT.cells m.votes m.nV vv h vb m.votes.length g) ?_ ?_ () _ _ ?_) (fun e t g hk=>?_)
  ·rintro _ t g Q' kQ ⟨g1,g2,g23,g24,D⟩
   (have hb:=trivial;with_reducible repeat' (first|simp only[hb,Va.down,seval,av1.down,g23,g24,ahB,decide_false]|refine fsp ?_ ?_<;>intro hb|refine fd ?_|fail))
   exact kQ _ _ _ ⟨rfl,by simp[up,g1],by simp[up,g2],D⟩
  ·rintro x rest i _ t g J Q' kJ kQ hx hi ⟨g1,g2,g23,g24,D⟩
   have hdd:decide ((i:Int)<(m.votes.length:Int))=true:=decide_eq_true (by omega)
   have hdi:((i:Int)<(m.votes.length:Int))=True:=eq_true (by omega)
   have hww:=agA hi (by have:=hM.votes;unfold maxLen;omega)
   rcases D with⟨_,h2e,_⟩|⟨hs,hve,hbl,S⟩
   ·rw[h2e]at hx;simp at hx
   subst hve
   obtain⟨w',rows,R,hw',hl',hr',hd',hR',hn'⟩:=S.at_
   have hrow:=(axE hl' hd' hx).1
   simp only[acT.cells]at hrow
   have g0:g[0]?=_:=(S.keep.same 0 lt0 (by simp;omega)).trans h0
   have hsx:=hM.vs x (alV hx)
   have hgl:=S.keep.len
   have hsb:aCE (g.length-1) 2 vb=1000:=by unfold aCE;rw[if_neg (by omega)];omega
   have hs0:aCE (g.length-1) 2 g.length=1001:=by unfold aCE;rw[if_neg (by omega)];omega
   have gA0:=ahZ g0
   have gAv:=ahZ hw'
   have hci:=aHE hsx
   rcases awL 1 true x.nn (x.sens.map iv)with⟨e1,e2,e3⟩|e3
   ·rw[e3]at hrow
    (have hb:=trivial;with_reducible repeat' (first|simp only[hb,Va.down,seval,av1.down,g1,g2,g23,g24,hdd,hdi,hww,g0,hw',hrow,aK1]|refine fsp ?_ ?_<;>intro hb|((refine aGB (g.length-1) 2 ?_ ?_);(simp (discharger:=decide) only[aGR,aB0,an9,aeG,aw4,aAD,aC6,azJ,aB4,aoU,aoG,hsb,hs0];kernel_rfl);intro _)|refine fdq ?_|fail))
    refine ai7 (kJ _ _ () ⟨by simp[up,g1],by simp[up,g2],by simp[up,g23],by simp[up],.inr ⟨hs,rfl,hbl,?_⟩⟩ rfl)
    have hq:rd 4 (hf (g++[])) .nils=some (slv 1 true x.nn (x.sens.map iv),[]):=by rw[e3];rfl
    have N:=SI.next S.keep hbl hw' hl' hr' hd' hR' hn' hx [] [.nils,.int .i64 x.need,.int .i64 x.level,.bool x.above] [] true (agK hq (agK (aoL ..) (agK (aoL ..) (agK (aCS ..) as0)))) (fun y hy=>by simp at hy) (by simp)
    simpa using N
   ·rw[e3]at hrow
    (have hb:=trivial;with_reducible repeat' (first|simp only[hb,Va.down,seval,av1.down,g1,g2,g23,g24,hdd,hdi,hww,g0,hw',hrow,hci,gA0,gAv]|refine fsp ?_ ?_<;>intro hb|((refine aGB (g.length-1) 2 ?_ ?_);(simp (discharger:=decide) only[aGR,aB0,an9,aeG,aw4,aAD,aC6,azJ,aB4,aoU,aoG,hsb,hs0];kernel_rfl);intro _)|refine fdq ?_|fail))
    refine ai7 (kJ _ _ () ⟨by simp[up,g1],by simp[up,g2],by simp[up,g23],by simp[up],.inr ⟨hs,rfl,hbl,?_⟩⟩ rfl)
    have hq:rd 4 (hf (g++[.live 1 true false (x.sens.map iv)])) (.slr 1 g.length 0 x.sens.length)=some (slv 1 true x.nn (x.sens.map iv),[g.length]):=by rw[e3];exact apI (by show((g++[_])[g.length]?).bind agI=_;simp[agI]) (by simp)
    exact SI.next S.keep hbl hw' hl' hr' hd' hR' hn' hx [.live 1 true false (x.sens.map iv)] [.slr 1 g.length 0 x.sens.length,.int .i64 x.need,.int .i64 x.level,.bool x.above] [g.length] true
     (agK hq (agK (aoL ..) (agK (aoL ..) (agK (aCS ..) as0)))) (fun y hy=>by simp at hy;simp[hy]) (by simp)
  ·exact⟨by simp[up,h1],by simp[up,h2],by simp[up],by simp[up],V0⟩
  obtain⟨rfl,g1,g2,D⟩:=hk
  have gl:=D.keep.len
  have g0:g[0]?=_:=(D.keep.same 0 lt0 (by simp;omega)).trans h0
  have g00:g[1]?=_:=(D.keep.same 1 lt1 (by simp;omega)).trans h00
  have M0:=(hm.mono D.keep (by simpa using fun e=>hvm e.symm)).zero
  (have hb:=trivial;with_reducible repeat' (first|simp only[hb,Va.down,seval,av1.down,g1,g2,g0,g00,hlm]|refine fsp ?_ ?_<;>intro hb|refine fd ?_|fail))
  refine anJ (lst 60 m.moves (fun i (_:Unit) t f=>t 1=.ptr 0 0 0∧t 2=.ptr 1 0 0∧t 42=.int .i64 (m.moves.length:Nat)∧t 43=.int .i64 i∧SlD 5 acS.cells m.moves m.nM mv g mb i f) (fun _ _=>())
   (fun _ e t f=>e=.exit 2∧t 1=.ptr 0 0 0∧t 2=.ptr 1 0 0∧SlD 5 acS.cells m.moves m.nM mv g mb m.moves.length f) ?_ ?_ () _ _ ?_) (fun e t f hk=>?_)
  ·rintro _ t f Q' kQ ⟨f1,f2,f42,f43,E⟩
   (have hb:=trivial;with_reducible repeat' (first|simp only[hb,Va.down,seval,av1.down,f42,f43,ahB,decide_false]|refine fsp ?_ ?_<;>intro hb|refine fd ?_|fail))
   exact kQ _ _ _ ⟨rfl,by simp[up,f1],by simp[up,f2],E⟩
  ·rintro x rest i _ t f J Q' kJ kQ hx hi ⟨f1,f2,f42,f43,E⟩
   have hdd:decide ((i:Int)<(m.moves.length:Int))=true:=decide_eq_true (by omega)
   have hdi:((i:Int)<(m.moves.length:Int))=True:=eq_true (by omega)
   have hww:=agA hi (by have:=hM.moves;unfold maxLen;omega)
   rcases E with⟨_,h2e,_⟩|⟨hs,hve,hbl,S⟩
   ·rw[h2e]at hx;simp at hx
   subst hve
   obtain⟨w',rows,R,hw',hl',hr',hd',hR',hn'⟩:=S.at_
   have hrow:=(axE hl' hd' hx).1
   simp only[acS.cells]at hrow
   have f0:f[0]?=_:=(S.keep.same 0 (by omega) (by simp;omega)).trans g0
   have hsx:=hM.ws x (alV hx)
   have hgl:=S.keep.len
   have hsb:aCE (f.length-1) 2 mb=1000:=by unfold aCE;rw[if_neg (by omega)];omega
   have hs0:aCE (f.length-1) 2 f.length=1001:=by unfold aCE;rw[if_neg (by omega)];omega
   have gA0:=ahZ f0
   have gAv:=ahZ hw'
   have hci:=aV9 hsx
   rcases awL 2 true x.nn (x.wants.map agP.cells)with⟨e1,e2,e3⟩|e3
   ·rw[e3]at hrow
    (have hb:=trivial;with_reducible repeat' (first|simp only[hb,Va.down,seval,av1.down,f1,f2,f42,f43,hdd,hdi,hww,f0,hw',hrow,aX0]|refine fsp ?_ ?_<;>intro hb|((refine aGB (f.length-1) 2 ?_ ?_);(simp (discharger:=decide) only[aGR,aB0,an9,aeG,aw4,aAD,aC6,azJ,aB4,aoU,aoG,hsb,hs0];kernel_rfl);intro _)|refine fdq ?_|fail))
    refine ai7 (kJ _ _ () ⟨by simp[up,f1],by simp[up,f2],by simp[up,f42],by simp[up],.inr ⟨hs,rfl,hbl,?_⟩⟩ rfl)
    have hq:rd 4 (hf (f++[])) .nils=some (slv 2 true x.nn (x.wants.map agP.cells),[]):=by rw[e3];rfl
    have N:=SI.next S.keep hbl hw' hl' hr' hd' hR' hn' hx [] [.int .i64 x.frm,.int .i64 x.to,.nils,.int .i64 x.cmd,.int .i64 x.after] [] true (agK (aoL ..) (agK (aoL ..) (agK hq (agK (aoL ..) (agK (aoL ..) as0))))) (fun y hy=>by simp at hy) (by simp)
    simpa using N
   ·rw[e3]at hrow
    (have hb:=trivial;with_reducible repeat' (first|simp only[hb,Va.down,seval,av1.down,f1,f2,f42,f43,hdd,hdi,hww,f0,hw',hrow,hci,gA0,gAv]|refine fsp ?_ ?_<;>intro hb|((refine aGB (f.length-1) 2 ?_ ?_);(simp (discharger:=decide) only[aGR,aB0,an9,aeG,aw4,aAD,aC6,azJ,aB4,aoU,aoG,hsb,hs0];kernel_rfl);intro _)|refine fdq ?_|fail))
    refine ai7 (kJ _ _ () ⟨by simp[up,f1],by simp[up,f2],by simp[up,f42],by simp[up],.inr ⟨hs,rfl,hbl,?_⟩⟩ rfl)
    have hq:rd 4 (hf (f++[.live 2 true false (x.wants.map agP.cells)])) (.slr 2 f.length 0 x.wants.length)=some (slv 2 true x.nn (x.wants.map agP.cells),[f.length]):=by rw[e3];exact apI (by show((f++[_])[f.length]?).bind agI=_;simp[agI]) (by simp)
    exact SI.next S.keep hbl hw' hl' hr' hd' hR' hn' hx [.live 2 true false (x.wants.map agP.cells)] [.int .i64 x.frm,.int .i64 x.to,.slr 2 f.length 0 x.wants.length,.int .i64 x.cmd,.int .i64 x.after] [f.length] true
     (agK (aoL ..) (agK (aoL ..) (agK hq (agK (aoL ..) (agK (aoL ..) as0))))) (fun y hy=>by simp at hy;simp[hy]) (by simp)
  ·exact⟨by simp[up,g1],by simp[up,g2],by simp[up],by simp[up],M0⟩
  obtain⟨rfl,f1,f2,E⟩:=hk
  have fl:=E.keep.len
  have f0:f[0]?=_:=(E.keep.same 0 (by omega) (by simp;omega)).trans g0
  have f00:f[1]?=_:=(E.keep.same 1 (by omega) (by simp;omega)).trans g00
  obtain⟨Rv,r1,r2,r3⟩:=D.read
  obtain⟨Rm,s1,s2,s3⟩:=E.read
  have cs:sv.isCell=true∧sv.flat=false:=auR hsv
  have co:ov.isCell=true∧ov.flat=false:=auR hov
  have cv:vv.isCell=true∧vv.flat=false:=auR r1
  have cm:mv.isCell=true∧mv.flat=false:=auR s1
  obtain⟨cs1,cs2⟩:=cs
  obtain⟨co1,co2⟩:=co
  obtain⟨cv1,cv2⟩:=cv
  obtain⟨cm1,cm2⟩:=cm
  have fs1:∀c,(f.set 1 c)[1]?=some c:=fun c=>apD (by omega)
  (have hb:=trivial;with_reducible repeat' (first|simp only[hb,Va.down,seval,av1.down,f1,f2,f0,f00,cs1,cs2,co1,co2,cv1,cv2,cm1,cm2,auT,auJ,aoD,auW]|refine fsp ?_ ?_<;>intro hb|refine fd ?_|fail))
  have ag1:∀(R:List Nat),(∀x∈R,2≤x)→∀c,Agr R (hf f) (hf (f.set 1 c)):=fun R hR c x hx z hz=>by
   show((f.set 1 c)[x]?).bind agI=_
   rw[avI (by have:=hR x hx;omega)];exact hz
  have hmb1:mv≠.nils→mb<h.length:=fun hne=>by
   rcases hm with⟨_,_,h3⟩|⟨_,_,h3,_⟩
   ·exact(hne h3).elim
   ·exact h3
  have A:∀(R:List Nat) (x v:AV) c,(∀b∈R,b<h.length∧2≤b∧b≠vb∧b≠mb)→rd 5 (hf h) v=some (x,R)→rd 5 (hf (f.set 1 c)) v=some (x,R):=fun R x v c hR hv=>by
   have a1:=aqL hv (D.agr (R:=R) fun b hb'=>⟨(hR b hb').1,fun _ _=>(hR b hb').2.2.1⟩)
   have a2:=aqL a1 (E.agr (R:=R) fun b hb'=>⟨av7 (hR b hb').1 gl,fun _ _=>(hR b hb').2.2.2⟩)
   exact aqL a2 (ag1 R (fun b hb'=>(hR b hb').2.1) c)
  have B:∀c,rd 5 (hf (f.set 1 c)) vv=some (slv 4 false m.nV (m.votes.map acT.cells),Rv):=fun c=>by
   have a2:=aqL r1 (E.agr (R:=Rv) fun b hb'=>by
    have hne:mv≠.nils→b≠mb:=fun hne=>by
     have:=hmb1 hne
     rcases r2 b hb' with⟨rfl,_⟩|h1
     ·exact hvm
     ·omega
    refine⟨?_,fun _=>hne⟩
    rcases r2 b hb' with⟨_,h1⟩|h1<;>omega)
   exact aqL a2 (ag1 Rv (fun b hb'=>by rcases r2 b hb' with⟨rfl,_⟩|h1<;>omega) c)
  have Cm:∀c,rd 5 (hf (f.set 1 c)) mv=some (slv 5 false m.nM (m.moves.map acS.cells),Rm):=fun c=>
   aqL s1 (ag1 Rm (fun b hb'=>by rcases s2 b hb' with⟨rfl,_⟩|h1<;>omega) c)
  refine hK _ ?_
  rw[aLA]
  refine aQ0 (vs:=[.agg [sv,vv,mv,.int .i64 m.states,.int .i64 m.cmds,.int .i64 m.bgn,ov]]) ?_ (aUD (aI5 (agK (A Rs _ _ _ (fun b h=>hR b (List.mem_append_left _ h)) hsv) (agK (B _) (agK (Cm _) (agK (aoL ..) (agK (aoL ..) (agK (aoL ..) (agK (A Ro _ _ _ (fun b h=>hR b (List.mem_append_right _ h)) hov) as0)))))))) ?_ fun v' h' R' k1 k2 k3=>⟨v',R',rfl,k1,?_,k3⟩)
  ·simp only[Va.down,seval,av1.down,f2,fs1]
  ·have v1:=hM.votes
   have v2:=hM.moves
   simp only[azU,aoG];omega
  ·rw[k2];simp only[azU,aoG];omega
 have k1:=a29 hM.sens
 have k2:=aV4 hM.votes
 have k3:=aW6 hM.moves
 have k5:=aGM aU0 m.votes
 have k6:=aGM aRC m.moves
 have k4:=aHE hM.opn
 rcases awL 1 true m.nO (m.opn.map iv)with⟨_,e,_⟩|e4
 ·exact(ho (azT.1 e)).elim
 rcases awL 3 true m.nS (m.sens.map ak7.cells)with⟨f1,e1',e1⟩|e1<;>rcases awL 4 false m.nV (m.votes.map acT.cells)with⟨f2,e2',e2⟩|e2<;>rcases awL 5 false m.nM (m.moves.map acS.cells)with⟨f3,e3',e3⟩|e3
 all_goals rw[e1,e2,e3,e4]
 all_goals (have hb:=trivial;with_reducible repeat' (first|simp only[hb,Va.down,seval,av1.down,a0U,aYL,aXV,k1,k2,k3,k4,k5,k6]|refine fsp ?_ ?_<;>intro hb|refine fd ?_|fail))
 ·exact key _ _ .nils .nils .nils (.slr 1 2 0 m.opn.length) 100 101 [] [2] true false (by simp[up]) (by simp[up]) rfl rfl (by rw[e1];rfl) (by rw[e4];exact apI rfl (by simp)) (by simp) (by simp) (by simp) (.inl ⟨e2,e2',rfl⟩) (.inl ⟨e3,e3',rfl⟩) (by omega) (by omega) (by omega)
 ·exact key _ _ .nils .nils (.slr 5 2 0 m.moves.length) (.slr 1 3 0 m.opn.length) 100 2 [] [3] true false (by simp[up]) (by simp[up]) rfl rfl (by rw[e1];rfl) (by rw[e4];exact apI rfl (by simp)) (by simp) (by simp) (by simp) (.inl ⟨e2,e2',rfl⟩) (.inr ⟨e3,by simp,by simp,_,rfl⟩) (by omega) (by omega) (by omega)
 ·exact key _ _ .nils (.slr 4 2 0 m.votes.length) .nils (.slr 1 3 0 m.opn.length) 2 101 [] [3] true false (by simp[up]) (by simp[up]) rfl rfl (by rw[e1];rfl) (by rw[e4];exact apI rfl (by simp)) (by simp) (by simp) (by simp) (.inr ⟨e2,by simp,by simp,_,rfl⟩) (.inl ⟨e3,e3',rfl⟩) (by omega) (by omega) (by omega)
 ·exact key _ _ .nils (.slr 4 2 0 m.votes.length) (.slr 5 3 0 m.moves.length) (.slr 1 4 0 m.opn.length) 2 3 [] [4] true false (by simp[up]) (by simp[up]) rfl rfl (by rw[e1];rfl) (by rw[e4];exact apI rfl (by simp)) (by simp) (by simp) (by simp) (.inr ⟨e2,by simp,by simp,_,rfl⟩) (.inr ⟨e3,by simp,by simp,_,rfl⟩) (by omega) (by omega) (by omega)
 ·exact key _ _ (.slr 3 2 0 m.sens.length) .nils .nils (.slr 1 3 0 m.opn.length) 100 101 [2] [3] true false (by simp[up]) (by simp[up]) rfl rfl (by rw[e1];exact apI rfl (by simp)) (by rw[e4];exact apI rfl (by simp)) (by simp) (by simp) (by simp) (.inl ⟨e2,e2',rfl⟩) (.inl ⟨e3,e3',rfl⟩) (by omega) (by omega) (by omega)
 ·exact key _ _ (.slr 3 2 0 m.sens.length) .nils (.slr 5 3 0 m.moves.length) (.slr 1 4 0 m.opn.length) 100 3 [2] [4] true false (by simp[up]) (by simp[up]) rfl rfl (by rw[e1];exact apI rfl (by simp)) (by rw[e4];exact apI rfl (by simp)) (by simp) (by simp) (by simp) (.inl ⟨e2,e2',rfl⟩) (.inr ⟨e3,by simp,by simp,_,rfl⟩) (by omega) (by omega) (by omega)
 ·exact key _ _ (.slr 3 2 0 m.sens.length) (.slr 4 3 0 m.votes.length) .nils (.slr 1 4 0 m.opn.length) 3 101 [2] [4] true false (by simp[up]) (by simp[up]) rfl rfl (by rw[e1];exact apI rfl (by simp)) (by rw[e4];exact apI rfl (by simp)) (by simp) (by simp) (by simp) (.inr ⟨e2,by simp,by simp,_,rfl⟩) (.inl ⟨e3,e3',rfl⟩) (by omega) (by omega) (by omega)
 ·exact key _ _ (.slr 3 2 0 m.sens.length) (.slr 4 3 0 m.votes.length) (.slr 5 4 0 m.moves.length) (.slr 1 5 0 m.opn.length) 3 4 [2] [5] true false (by simp[up]) (by simp[up]) rfl rfl (by rw[e1];exact apI rfl (by simp)) (by rw[e4];exact apI rfl (by simp)) (by simp) (by simp) (by simp) (.inr ⟨e2,by simp,by simp,_,rfl⟩) (.inr ⟨e3,by simp,by simp,_,rfl⟩) (by omega) (by omega) (by omega)
end Go.Proofs.YtfkokgjfpojeoaaGreatDoor
