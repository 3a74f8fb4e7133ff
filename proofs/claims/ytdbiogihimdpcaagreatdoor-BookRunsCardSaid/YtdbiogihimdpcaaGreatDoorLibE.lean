/- The evaluator and its soundness. -/
import Derived.Test.YtdbiogihimdpcaaGreatDoorLibD
open And renaming intro→aaS
open Option renaming map_eq_some_iff→aaW,bind_eq_some_iff→aa0,bind_some→abT,map_some→aeH
open Eq renaming trans→aa6
open List renaming mem_cons_of_mem→abB,mem_cons_self→abO,mem_append→abY,mem_append_left→ab9,mem_append_right→acF,mem_cons→acK,getElem?_eq_some_iff→acZ,nil_append→adV,getElem?_set_ne→aeM,getElem?_append_left→aeP,prefix_refl→aeW,getElem?_eq_getElem→aeZ,append_nil→ae6,flatMap_cons→ae7
set_option linter.unusedSimpArgs false
set_option linter.unusedVariables false
namespace Go.Ev
open Go.RowKit
section
variable {P:Program} {O:Gn} {pr:Qk}
def rnX(O:Gn)(P:Program)(n:Nat)(k:List Aq)(t:List AV)(b:Nat)(h2:Ab)(x:Option CB):R:=
 match x with
 |some (.lp _ _ _ _ .ready)=>Dz (Ed O P n) k .normal ⟨t,h2.set b .dead⟩
 |some (.lp _ _ _ _ (.done .ret))=>Dz (Ed O P n) k .ret ⟨t,h2.set b .dead⟩
 |some (.lp _ _ _ _ (.done (.exit i)))=>Dz (Ed O P n) k (.exit i) ⟨t,h2.set b .dead⟩
 |_=>none
def rnE(O:Gn)(P:Program)(n:Nat)(k:List Aq)(t:List AV)(b:Nat)(h1:Ab)(x:OE):R:=
 match x with
 |some (.ret _,es)=>rnX O P n k t b (Ba h1 es) ((Ba h1 es)[b]?)
 |_=>none
def rnC(O:Gn)(h1:Ab)(b:Nat)(fv:Option AV):OE:=
 match fv with
 |some (.func (.func g) a c)=>cr (Hj O (hf h1) h1.length (Zm g (a++[.yl b]++c)) (a++[.yl b]++c))
 |_=>none
theorem awQ(n:Nat)(k:List Aq)(t:List AV)(b:Nat)(h1:Ab)(x:Option Nr):
 (x.bind fun d=>match d.out with
   | .ret _=>
     let h2:=Ba h1 d.es
     match h2[b]? with
     |some (.lp _ _ _ _ .ready)=>Dz (Ed O P n) k .normal ⟨t,h2.set b .dead⟩
     |some (.lp _ _ _ _ (.done .ret))=>Dz (Ed O P n) k .ret ⟨t,h2.set b .dead⟩
     |some (.lp _ _ _ _ (.done (.exit i)))=>Dz (Ed O P n) k (.exit i) ⟨t,h2.set b .dead⟩
     |_=>none
   | .pan _=>none)=rnE O P n k t b h1 (cr x):=by
 cases x with
 |none=>rfl
 |some d=>
  obtain⟨o,es,fs⟩:=d
  cases o<;>rfl
theorem asM(n:Nat)(f:Operand)(ps:Array Nat)(asg body:Code)(k:List Aq)(t:List AV)(h:Ab):
 Ed O P (n+1) (.rangeFunc f ps asg body) k ⟨t,h⟩=rnE O P n k t h.length (h++[.lp ps.toList asg body t .ready]) (rnC O (h++[.lp ps.toList asg body t .ready]) h.length (Ak t f)):=by
 simp only[Ed,rnC]
 cases Ak t f with
 |none=>rfl
 |some v=>
  simp only[abT]
  cases v with
  |func fn a c=>
   cases fn with
   |func g=>exact awQ n k t h.length _ _
   |_=>rfl
  |_=>rfl
theorem atE(h1:Ab)(b g:Nat)(a c:List AV):rnC O h1 b (some (.func (.func g) a c))=if oJ (a++[.yl b]++c)=true then shC O h1 g (a++[.yl b]++c)else cr (Ew O (hf h1) h1.length (.fn g) (a++[.yl b]++c)):=aiF h1 g _
theorem am3(n:Nat)(k:List Aq)(t:List AV)(b:Nat)(h1:Ab)(v:AV)(es:List Ad):rnE O P n k t b h1 (some (.ret v,es))=rnX O P n k t b (Ba h1 es) ((Ba h1 es)[b]?):=aa6 rfl rfl
theorem ae1(n:Nat)(k:List Aq)(t:List AV)(b:Nat)(h2:Ab)(ps:List Nat)(asg body:Code)(tm:List AV):rnX O P n k t b h2 (some (.lp ps asg body tm .ready))=Dz (Ed O P n) k .normal ⟨t,h2.set b .dead⟩:=aa6 rfl rfl
def slK(h:Ab)(b:Nat)(ok:Ta→Bool)(st:Ta)(x:Option CB):Option Ab:=
 match x with
 |some (.lp ps asg body tmps st')=>if ok st' then some (h.set b (.lp ps asg body tmps st))else none
 |_=>none
theorem awW(h:Ab)(b:Nat)(ok:Ta→Bool)(st:Ta):Td h b ok st=slK h b ok st (h[b]?):=by
 unfold Td slK
 cases h[b]? with
 |none=>rfl
 |some c=>cases c<;>rfl
theorem afX(h:Ab)(b:Nat)(st:Ta)(ps:List Nat)(asg body:Code)(tm:List AV):slK h b Ta.isReady st (some (.lp ps asg body tm .ready))=some (h.set b (.lp ps asg body tm st)):=aa6 rfl rfl
theorem an9(h:Ab)(b:Nat)(st:Ta)(ps:List Nat)(asg body:Code)(tm:List AV):slK h b Ta.isBusy st (some (.lp ps asg body tm .busy))=some (h.set b (.lp ps asg body tm st)):=aa6 rfl rfl
def aoS(O:Gn)(P:Program)(body:Code)(t:List AV)(x:Option Ab):R:=
 match x with
 |some h1=>Ed O P 5000 body [] ⟨t,h1⟩
 |none=>none
def akR(O:Gn)(P:Program)(b:Nat)(body:Code)(x:R):R:=
 match x with
 |some (.normal,s)=>aoS O P body s.tmps (Td s.h b Ta.isReady .busy)
 |_=>none
def wF(r:Bool)(x:Option Ab):Option (Eo × Ab):=x.map fun h2=>(.ret (.bool r),h2)
def ac5(b:Nat)(x:R):Option (Eo × Ab):=
 match x with
 |some (.normal,s)=>wF true (Td s.h b Ta.isBusy .ready)
 |some (.ret,s)=>wF false (Td s.h b Ta.isBusy (.done .ret))
 |some (.exit i,s)=>wF false (Td s.h b Ta.isBusy (.done (.exit i)))
 |_=>none
theorem aeJ(body:Code)(t:List AV)(h:Ab):aoS O P body t (some h)=Ed O P 5000 body [] ⟨t,h⟩:=aa6 rfl rfl
theorem wB(b:Nat)(body:Code)(t:List AV)(h:Ab):akR O P b body (some (.normal,⟨t,h⟩))=aoS O P body t (Td h b Ta.isReady .busy):=aa6 rfl rfl
theorem adP(r:Bool)(h:Ab):wF r (some h)=some (.ret (.bool r),h):=aa6 rfl rfl
theorem agJ{vs:List AV}{b:Nat}{h:Ab}{ps:List Nat}{asg body:Code}{tm:List AV}{st:Ta}(hb:h[b]?=some (.lp ps asg body tm st))(hl:ps.length=vs.length):
 Qd O P (vs++[.yl b]) h=ac5 b (akR O P b body (Ed O P 5000 asg [] ⟨Ud tm ps vs,h⟩)):=by
 unfold Qd
 simp only[List.reverse_append,List.reverse_cons,List.reverse_nil,adV,List.cons_append,List.reverse_reverse,List.length_reverse,hb,hl,if_true,Ou]
 cases Ed O P 5000 asg [] ⟨Ud tm ps vs,h⟩with
 |none=>rfl
 |some x=>
  obtain⟨e,s⟩:=x
  cases e with
  |normal=>
   simp only[abT,akR]
   cases Td s.h b Ta.isReady .busy with
   |none=>rfl
   |some h1=>
    simp only[abT,aoS]
    cases Ed O P 5000 body [] ⟨s.tmps,h1⟩with
    |none=>rfl
    |some y=>
     obtain⟨e,s⟩:=y
     cases e with
     |normal=>simp only[abT,Si,ac5,wF];cases Td s.h b Ta.isBusy .ready<;>rfl
     |ret=>simp only[abT,Si,ac5,wF];cases Td s.h b Ta.isBusy (.done .ret)<;>rfl
     |exit i=>simp only[abT,Si,ac5,wF];cases Td s.h b Ta.isBusy (.done (.exit i))<;>rfl
     |pan v=>rfl
  |_=>rfl
def RnE(b:Nat)(Q:Eo→Ab→Prop)(x:R):Prop:=∃o h',ac5 b x=some (o,h')∧Q o h'
def RnQ(O:Gn)(args:List AV)(h:Ab)(Q:Eo→Ab→Prop):Prop:=∃o h',O.call .round args h=some (o,h')∧Q o h'
theorem RnQ.start{vs:List AV}{b:Nat}{h:Ab}{ps:List Nat}{asg body:Code}{tm:List AV}{st:Ta}{Q:Eo→Ab→Prop}(hb:h[b]?=some (.lp ps asg body tm st))(hl:ps.length=vs.length)
 (he:RnE b Q (akR (om P pr) P b body (Ed (om P pr) P 5000 asg [] ⟨Ud tm ps vs,h⟩))):RnQ (om P pr) (vs++[.yl b]) h Q:=by
 obtain⟨o,h',e,q⟩:=he
 exact⟨o,h',vH ((agJ hb hl).trans e),q⟩
theorem aQ{C:R→Prop}{n f b:Nat}{k:List Aq}{t:List AV}{h1 h2:Ab}{args:List AV}{Q:Eo→Ab→Prop}(hq:ShQ O f args h2 Q)(hk:∀o h',Q o h'→C (rnE O P n k t b h1 (shK h1 (some (o,h'))))):C (rnE O P n k t b h1 (shK h1 (O.call (.sh f) args h2))):=by
 obtain⟨o,h',e,q⟩:=hq
 rw[e];exact hk o h' q
theorem ae5(b:Nat)(Q:Eo→Ab→Prop)(t:List AV)(h:Ab):RnE b Q (some (.normal,⟨t,h⟩))=∃o h',wF true (Td h b Ta.isBusy .ready)=some (o,h')∧Q o h':=aa6 rfl rfl
theorem anA(h:Ab)(f:Nat)(args:List AV):anO O h f args=if(mU args||O.md f)=true then some [.all]else ftR h args:=aa6 rfl rfl
theorem aj7{b:Nat}{Q:Eo→Ab→Prop}:¬RnE b Q none:=fun⟨_,_,h,_⟩=>by simp[ac5]at h
theorem anP(n:Nat)(t:Tm)(p:Nat)(ps:List Nat)(v:AV)(vs:List AV):Ud (mk n t) (p::ps) (v::vs)=Ud (mk n (up t p v)) ps vs:=by
 simp only[Ud,akE]
theorem arZ(n:Nat)(t:Tm)(vs:List AV):Ud (mk n t) [] vs=mk n t:=by cases vs<;>rfl
end
def xJ(f:Nat→Nat):Et→Et
 | .cells b o n=>.cells (f b) o n
 | .blk b=>.blk (f b)
 | .all=>.all
def lgF(f:Nat→Nat)(log:Ya):List (List Et × List Et):=log.map fun x=>(x.1.map fun e=>xJ f e.foot,x.2.map (xJ f))
def zL(x y:List Et × List Et):Bool:=x.1.any (fun f=>(y.1++y.2).any f.meets)||y.1.any (fun f=>x.2.any f.meets)
def agS(ops:List Oper)(lg:List (List Et × List Et)):Bool:=
 (iG ops).all fun(i,j)=>match lg[i]?,lg[j]? with
   |some x,some y=> !zL x y
   |_,_=>false
def La(n q:Nat)(b:Nat):Nat:=if b<q then b else b-n+1000
theorem Bo{n q b:Nat}(h:b<q):La n q b=b:=by simp[La,h]
theorem Br{n q k:Nat}(h:q≤k):La n q (n+k)=k+1000:=by
 unfold La
 rw[if_neg (by omega)]
 omega
theorem tW(f:Nat→Nat)(x y:Et)(h:x.meets y=true):(xJ f x).meets (xJ f y)=true:=by
 cases x<;>cases y<;>simp_all[Et.meets,xJ]
theorem ajW(f:Nat→Nat)(x y:List Ad × List Et)(h:Tc x y=true):zL (x.1.map fun e=>xJ f e.foot,x.2.map (xJ f)) (y.1.map fun e=>xJ f e.foot,y.2.map (xJ f))=true:=by
 simp only[Tc,zL,Bool.or_eq_true,List.any_eq_true,abY,List.mem_map]at h ⊢
 rcases h with⟨a,⟨e,he,rfl⟩,b,hb,hm⟩|⟨a,⟨e,he,rfl⟩,b,hb,hm⟩
 ·refine .inl ⟨_,⟨e,he,rfl⟩,xJ f b,?_,tW f _ _ hm⟩
  rcases hb with⟨e',he',rfl⟩|hb
  ·exact .inl ⟨e',he',rfl⟩
  ·exact .inr ⟨b,hb,rfl⟩
 ·exact .inr ⟨_,⟨e,he,rfl⟩,xJ f b,⟨b,hb,rfl⟩,tW f _ _ hm⟩
theorem amP(f:Nat→Nat){ops:List Oper}{log:Ya}(h:agS ops (lgF f log)=true):Gg ops log=true:=by
 simp only[agS,Gg,List.all_eq_true]at h ⊢
 rintro⟨i,j⟩ hij
 have:=h (i,j) hij
 simp only[lgF,List.getElem?_map]at this ⊢
 cases hi:log[i]? with
 |none=>simp[hi]at this
 |some x=>
  cases hj:log[j]? with
  |none=>simp[hi,hj]at this
  |some y=>
   simp only[hi,hj,aeH,Bool.not_eq_true',Bool.not_eq_eq_eq_not]at this ⊢
   cases hc:Tc x y with
   |false=>rfl
   |true=>rw[ajW f x y hc]at this;cases this
theorem Dh(n q:Nat){C:R→Prop}{ops:List Oper}{log:Ya}{k:R}(hb:agS ops (lgF (La n q) log)=true)(h:True→C k):C (Ii (Gg ops log) k):=asH (amP _ hb) h
theorem Dc(f:Nat→Nat):lgF f []=[]:=aa6 rfl rfl
theorem Bq(f:Nat→Nat)(x:List Ad)(y:List Et)(l:Ya):lgF f ((x,y)::l)=(x.map (fun e=>xJ f e.foot),y.map (xJ f))::lgF f l:=aa6 rfl rfl
theorem Bf(f:Nat→Nat)(b o n:Nat):xJ f (.cells b o n)=.cells (f b) o n:=aa6 rfl rfl
theorem Db(f:Nat→Nat)(b:Nat):xJ f (.blk b)=.blk (f b):=aa6 rfl rfl
theorem Dj(f:Nat→Nat):xJ f .all=.all:=aa6 rfl rfl
theorem Df(b:Nat)(c:CB):Ad.foot (.new b c)=.blk b:=aa6 rfl rfl
theorem Di(b:Nat)(c:CB):Ad.foot (.put b c)=.blk b:=aa6 rfl rfl
theorem Bd(b r o:Nat)(vs:List AV):Ad.foot (.cells b r o vs)=.cells b o vs.length:=aa6 rfl rfl
section
variable {P:Program} {O:Gn}
theorem agN(t:List AV)(h:Ab)(ty:TypeId)(x i:Operand):Fp O P t h (.index ty x i)=r1 ((Ak t x).bind fun x=>(Ak t i).bind fun i=>mQ P ty x i):=by
 rw[Ei _ _ _ rfl]
 simp only[exec]
 cases Ak t x with
 |none=>rfl
 |some a=>
  cases Ak t i with
  |none=>rfl
  |some b=>exact Hh _
end
def EVs:=PLift.up (aaS @asM (aaS @atE (aaS @am3 (aaS @ae1 (aaS @awW (aaS @afX (aaS @an9 (aaS @aeJ (aaS @wB (aaS @adP (aaS @ae5 (aaS @anP (aaS @anA (aaS @agN @arZ))))))))))))))
set_option maxRecDepth 100000
def EVZ:=PLift.up (aaS EVa.down (aaS EVb.down (aaS EVc.down (aaS EVd.down (aaS EVe.down (aaS EVf.down (aaS EVg.down (aaS EVh.down (aaS EVi.down (aaS EVj.down (aaS EVk.down (aaS EVl.down (aaS EVm.down (aaS EVn.down (aaS EVo.down (aaS EVp.down EVq.down))))))))))))))))
section
variable {P:Program} {O:Gn}
class NoN(C:R→Prop):Prop where
 no:¬C none
instance{q:Nat}{rs:List ResultVar}{Q:Eo→Ab→Prop}:NoN (FnE P q rs Q):=⟨ai3⟩
instance{rs:List ResultVar}{Q:Eo→Ab→Prop}:NoN (FnS P rs Q):=⟨akV⟩
instance{N:Nat}{J:Tm→Ab→Prop}{Q:Ex→St→Prop}:NoN (rI N J Q):=⟨afA⟩
instance{b:Nat}{Q:Eo→Ab→Prop}:NoN (RnE b Q):=⟨aj7⟩
end
section
variable {P:Program} {O:Gn}
class Spl(r:R)(b:outParam Bool)(x y:outParam R):Prop where
 sp:∀{C:R→Prop},(b=true→C x)→(b=false→C y)→C r
instance{n:Nat}{k:List Aq}{d:Option Nat}{op:Op}{cs:List CO}{b w:Bool}{t:List AV}{h:Ab}:Spl (rcG O P n k d op cs (.bool b) w t h) b (rcG O P n k d op cs (.bool true) w t h) (rcG O P n k d op cs (.bool false) w t h):=⟨aw4⟩
instance{n:Nat}{x y:Code}{k:List Aq}{g:Bool}{s:St}:Spl (cdK O P n x y k (some (.bool g)) s) g (Ed O P n x k s) (Ed O P n y k s):=⟨axS⟩
instance{n:Nat}{k:List Aq}{d:Option Nat}{op:Op}{cs:List CO}{b w:Bool}{t:List AV}{h:Ab}:Spl (rqG O P n k d op cs (.bool b) w t h) b (rqG O P n k d op cs (.bool true) w t h) (rqG O P n k d op cs (.bool false) w t h):=⟨axM⟩
instance{n:Nat}{k:List Aq}{d:Option Nat}{op:Op}{cs:List CO}{b w:Bool}{t:List AV}{h:Ab}:Spl (rwG O P n k d op cs (.bool b) w t h) b (rwG O P n k d op cs (.bool true) w t h) (rwG O P n k d op cs (.bool false) w t h):=⟨axD⟩
instance{n:Nat}{k:List Aq}{ops:List Oper}{d:Option Nat}{op:Op}{cs:List CO}{b w:Bool}{t:List AV}{h:Ab}{log:Ya}:Spl (rlG O P n k ops d op cs (.bool b) w t h log) b (rlG O P n k ops d op cs (.bool true) w t h log) (rlG O P n k ops d op cs (.bool false) w t h log):=⟨axK⟩
theorem Af{C:R→Prop}{r x y:R}{b:Bool}(h1:b=true→C x)(h2:b=false→C y)(s:Spl r b x y:=by infer_instance):C r:=s.sp h1 h2
class Drw(i:Nat)(r:R)(c:outParam Bool)(r':outParam R):Prop where
 dr:∀{C:R→Prop},¬C none→c=true→C r'→C r
instance{b:Bool}{k:R}:Drw 0 (Ii b k) b k:=⟨fun _=>apL⟩
instance{n id:Nat}{ops:Array Oper}{k:List Aq}{t:List AV}{h:Ab}:Drw 1 (Ed O P (n+1) (.region id ops true) k ⟨t,h⟩) (Qm ops.toList&&abD ops.toList) (rw O P n k (ops.toList.map (Jd ops.toList)) t h):=⟨fun h=>awS h⟩
instance{n id:Nat}{ops:Array Oper}{k:List Aq}{t:List AV}{h:Ab}:Drw 2 (Ed O P (n+1) (.region id ops true) k ⟨t,h⟩) (Qm ops.toList&&aw2 ops.toList) (rq O P n k (ops.toList.map (Jd ops.toList)) t h):=⟨fun h=>axH h⟩
instance{n id:Nat}{ops:Array Oper}{k:List Aq}{t:List AV}{h:Ab}:Drw 3 (Ed O P (n+1) (.region id ops true) k ⟨t,h⟩) (Qm ops.toList) (rl O P n k ops.toList (ops.toList.map (Jd ops.toList)) t h []):=⟨fun h=>awD h⟩
structure Dw(r r':R):Prop where
 dr:∀{C:R→Prop},¬C none→C r'→C r
theorem dg{r r':R}{c:Bool}[d:Drw 0 r c r'](h:c=true:=by kernel_rfl):Dw r r':=⟨fun n k=>d.dr n h k⟩
theorem dw(i:Nat){r r':R}{c:Bool}[d:Drw i r c r'](h:c=true:=by decide+kernel):Dw r r':=⟨fun n k=>d.dr n h k⟩
theorem fd{C:R→Prop}{r r':R}[n:NoN C](k:C r')(e:Dw r r':=by first|exact dg|exact dw 1|exact dw 2|exact dw 3):C r:=e.dr n.no k
theorem fdl{C:R→Prop}{r r':R}[n:NoN C](k:C r')(e:Dw r r':=by first|exact dg|exact dw 1|exact dw 3):C r:=e.dr n.no k
theorem Wz{C:R→Prop}{r r':R}[n:NoN C](k:C r')(e:Dw r r':=by first|exact dw 1|exact dw 2|exact dw 3):C r:=e.dr n.no k
end
section
variable {P:Program} {O:Gn}
def Un(O:Gn)(P:Program)(n:Nat)(k:List Aq)(c:Code)(C:R→Prop):R→Prop
 |some (.normal,s)=>C (lpK O P n k (O.loop c s))
 |some (e,s)=>C (Dz (Ed O P n) k e s)
 |none=>False
theorem ac4(n:Nat)(k:List Aq)(c:Code)(C:R→Prop)(s:St):Un O P n k c C (some (.normal,s))=C (lpK O P n k (O.loop c s)):=aa6 rfl rfl
theorem anJ(n:Nat)(k:List Aq)(c:Code)(C:R→Prop)(i:Nat)(s:St):Un O P n k c C (some (.exit i,s))=C (Dz (Ed O P n) k (.exit i) s):=aa6 rfl rfl
instance{n:Nat}{k:List Aq}{c:Code}{C:R→Prop}:NoN (Un O P n k c C):=⟨fun h=>h⟩
theorem av0{pr:Qk}{C:R→Prop}[N:NoN C]{n:Nat}{k:List Aq}{c:Code}{s:St}(h:Un (om P pr) P n k c C (Ed (om P pr) P 5000 c [] s)):C (lpK (om P pr) P n k ((om P pr).loop c s)):=by
 cases hm:Ed (om P pr) P 5000 c [] s with
 |none=>rw[hm]at h;exact h.elim
 |some x=>
  obtain⟨e,s'⟩:=x
  rw[hm]at h
  cases e with
  |normal=>
   replace h:C (lpK (om P pr) P n k ((om P pr).loop c s')):=h
   cases hl:(om P pr).loop c s' with
   |none=>rw[hl]at h;exact(N.no h).elim
   |some y=>
    obtain⟨e,s''⟩:=y
    rw[hl]at h
    rw[Za hm hl];exact h
  |exit i=>rw[Is hm (by simp)];exact h
  |ret=>rw[Is hm (by simp)];exact h
  |pan v=>rw[Is hm (by simp)];exact h
end
theorem aiG:IntKind.i64.wrap 1=1:=aa6 rfl rfl
def EE:=PLift.up (aaS EVZ.down (aaS @aiG (aaS @ac4 (aaS @anJ (aaS @Jd.eq_1 (aaS @Ak.eq_1 (aaS @Ak.eq_2 (aaS @Ak.eq_4 (aaS @Dn.eq_1 (aaS @Dn.eq_2 (aaS @pX.eq_3 (aaS @hQ.eq_1 (aaS @hQ.eq_2 (aaS @hQ.eq_5 (aaS @Ba.eq_1 (aaS @Ba.eq_2 (aaS @Du.eq_1 (aaS @Du.eq_2 (aaS @Du.eq_3 (aaS @Nl.eq_1 (aaS @Ee.eq_1 (aaS @bsK.eq_1 (aaS @Ui.eq_1 (aaS @Ui.eq_2 (aaS @decide_true @decide_false)))))))))))))))))))))))))
def EF:=PLift.up (aaS EE.down EVr.down)
def EG:=PLift.up (aaS EF.down EVs.down)
def On(m:List Nat)(F:Nat→Option Nat):Prop:=∀i b,m[i]?=some b→F i=some b
theorem On.mono{m m':List Nat}{F:Nat→Option Nat}(h:On m' F)(hp:m <+:m'):On m F:=fun _ _ hi=>h _ _ (Qs hp hi)
structure Gd(m m' R:List Nat):Prop where
 pre:m <+:m'
 nd:m.Nodup→m'.Nodup
 sub:∀b∈m',b∈m∨b∈R
theorem Gd.refl(m R:List Nat):Gd m m R:=⟨aeW _,id,fun _ h=>.inl h⟩
theorem Gd.trans{m m1 m2 R1 R2 R:List Nat}(h1:Gd m m1 R1)(h2:Gd m1 m2 R2)(k1:∀b∈R1,b∈R)(k2:∀b∈R2,b∈R):Gd m m2 R:=
 ⟨h1.pre.trans h2.pre,fun h=>h2.nd (h1.nd h),fun b hb=>(h2.sub b hb).elim (fun h=>(h1.sub b h).imp id (k1 b)) (fun h=>.inr (k2 b h))⟩
theorem ajY(m:List Nat)(b:Nat){R:List Nat}(hb:b∈R):Gd m (place m b).2 R:=by
 refine⟨(Qn m b).2.1,(Qn m b).2.2,fun x hx=>?_⟩
 unfold place at hx
 split at hx
 ·exact .inl hx
 ·rcases abY.1 hx with h|h
  ·exact .inl h
  ·simp at h;subst h;exact .inr hb
def Sp(e:Nat)(x:AV)(R:List Nat):Prop:=∀m,∃x' m',Ey e m x=some (x',m')∧Gd m m' R∧∀F,On m' F→Hm e F x'=some x
def SpL(e:Nat)(l:List AV)(R:List Nat):Prop:=∀m,∃l' m',Ey.refL (Ey e) m l=some (l',m')∧Gd m m' R∧∀F,On m' F→Az (Hm e F) l'=some l
def SpR(l:List (List AV))(R:List Nat):Prop:=∀m,∃l' m',Ky m l=some (l',m')∧Gd m m' R∧∀F,On m' F→Az (Az (Hm 8 F)) l'=some l
theorem spL{f:AV→Option (AV × List Nat)}{e:Nat}:∀{l:List AV} {p:List AV × List Nat},Pj f l=some p→(∀x∈l,∀q,f x=some q→Sp e x q.2)→SpL e l p.2
 | [],p,h,_=>fun m=>⟨[],m,rfl,Gd.refl _ _,fun _ _=>rfl⟩
 |a::l,p,h,hf=>fun m=>by
  simp only[Pj,aa0,aaW]at h
  obtain⟨q,hq,r,hr,rfl⟩:=h
  obtain⟨x',m1,e1,g1,k1⟩:=hf a (abO ..) q hq m
  obtain⟨l',m2,e2,g2,k2⟩:=spL hr (fun x hx=>hf x (abB _ hx)) m1
  refine⟨x'::l',m2,by simp[Ey.refL,e1,e2],g1.trans g2 (fun _ h=>ab9 _ h) (fun _ h=>acF _ h),fun F hF=>?_⟩
  simp[Az,k1 F (hF.mono g2.pre),k2 F hF]
theorem spR{f:AV→Option (AV × List Nat)}:∀{l:List (List AV)} {p:List (List AV) × List Nat},Dq f l=some p→(∀r∈l,∀x∈r,∀q,f x=some q→Sp 8 x q.2)→SpR l p.2
 | [],p,h,_=>fun m=>⟨[],m,rfl,Gd.refl _ _,fun _ _=>rfl⟩
 |a::l,p,h,hf=>fun m=>by
  simp only[Dq,aa0,aaW]at h
  obtain⟨q,hq,r,hr,rfl⟩:=h
  obtain⟨x',m1,e1,g1,k1⟩:=spL hq (hf a (abO ..)) m
  obtain⟨l',m2,e2,g2,k2⟩:=spR hr (fun x hx=>hf x (abB _ hx)) m1
  refine⟨x'::l',m2,by simp[Ky,e1,e2],g1.trans g2 (fun _ h=>ab9 _ h) (fun _ h=>acF _ h),fun F hF=>?_⟩
  simp[Az,k1 F (hF.mono g2.pre),k2 F hF]
theorem sp{g:HF}:∀{d e:Nat} {v:AV} {p:AV × List Nat},d≤e→rd d g v=some p→Sp e v p.2
 |0,e,v,p,_,h=>by simp[rd]at h
 |d+1,0,v,p,he,h=>by omega
 |d+1,e+1,v,p,he,h=>by
  have IH:∀x q,rd d g x=some q→Sp e x q.2:=fun x q hx=>sp (by omega) hx
  intro m
  cases v with
  |slr st b r len=>
   simp only[rd,aa0]at h
   obtain⟨z,_,h⟩:=h
   split at h
   ·have hb:b∈p.2:=by
     cases hfl:z.2.1 with
     |true=>rw[hfl]at h;simp at h;rw[←h];simp
     |false=>rw[hfl]at h;simp only[cond_false,aaW]at h;obtain⟨q,_,rfl⟩:=h;simp
    exact⟨_,_,rfl,ajY m b hb,fun F hF=>by simp[Hm,hF _ _ (Qn m b).1]⟩
   ·cases h
  |agg cs=>
   simp only[rd,aaW]at h
   obtain⟨q,hq,rfl⟩:=h
   obtain⟨l',m1,e1,g1,k1⟩:=spL hq (fun x _=>IH x) m
   exact⟨.agg l',m1,by simp[Ey,e1],g1,fun F hF=>by simp[Hm,k1 F hF]⟩
  |iface t x=>
   simp only[rd,aaW]at h
   obtain⟨q,hq,rfl⟩:=h
   obtain⟨l',m1,e1,g1,k1⟩:=IH x q hq m
   exact⟨.iface t l',m1,by simp[Ey,e1],g1,fun F hF=>by simp[Hm,k1 F hF]⟩
  |func fn a b=>
   cases a with
   |cons=>simp[rd]at h
   |nil=>
    cases b with
    |cons=>simp[rd]at h
    |nil=>exact⟨_,m,rfl,Gd.refl _ _,fun _ _=>rfl⟩
  |ptr b r o=>simp[rd]at h
  |tup cs=>simp[rd]at h
  |yl b=>simp[rd]at h
  |imm=>simp[rd]at h
  |iptr=>simp[rd]at h
  |_=>exact⟨_,m,rfl,Gd.refl _ _,fun _ _=>rfl⟩
def Cl(g:HF)(S:List Nat):Prop:=∀b∈S,∃z,(g b).bind Dl=some z∧(z.2.1=false→∃d q,d≤8∧Dq (rd d g) z.2.2=some q∧∀x∈q.2,x∈S)
theorem Cl.nil(g:HF):Cl g []:=fun _ h=>by cases h
theorem Cl.app{g:HF}{S T:List Nat}(h1:Cl g S)(h2:Cl g T):Cl g (S++T):=fun b hb=>by
 rcases abY.1 hb with h|h
 ·obtain⟨z,k1,k2⟩:=h1 b h
  exact⟨z,k1,fun e=>by obtain⟨d,q,a1,a2,a3⟩:=k2 e;exact⟨d,q,a1,a2,fun x hx=>ab9 _ (a3 x hx)⟩⟩
 ·obtain⟨z,k1,k2⟩:=h2 b h
  exact⟨z,k1,fun e=>by obtain⟨d,q,a1,a2,a3⟩:=k2 e;exact⟨d,q,a1,a2,fun x hx=>acF _ (a3 x hx)⟩⟩
theorem clL{g:HF}{f:AV→Option (AV × List Nat)}:∀{l:List AV} {p:List AV × List Nat},Pj f l=some p→(∀x∈l,∀q,f x=some q→Cl g q.2)→Cl g p.2
 | [],p,h,_=>by simp[Pj]at h;subst h;exact Cl.nil g
 |a::l,p,h,hf=>by
  simp only[Pj,aa0,aaW]at h
  obtain⟨q,hq,r,hr,rfl⟩:=h
  exact(hf a (abO ..) q hq).app (clL hr fun x hx=>hf x (abB _ hx))
theorem clR{g:HF}{f:AV→Option (AV × List Nat)}:∀{l:List (List AV)} {p:List (List AV) × List Nat},Dq f l=some p→(∀r∈l,∀x∈r,∀q,f x=some q→Cl g q.2)→Cl g p.2
 | [],p,h,_=>by simp[Dq]at h;subst h;exact Cl.nil g
 |a::l,p,h,hf=>by
  simp only[Dq,aa0,aaW]at h
  obtain⟨q,hq,r,hr,rfl⟩:=h
  exact(clL hq (hf a (abO ..))).app (clR hr fun x hx=>hf x (abB _ hx))
theorem aa4{g:HF}:∀{d:Nat} {v:AV} {p:AV × List Nat},d≤9→rd d g v=some p→Cl g p.2
 |0,v,p,_,h=>by simp[rd]at h
 |d+1,v,p,hd,h=>by
  have IH:∀x q,rd d g x=some q→Cl g q.2:=fun x q hx=>aa4 (by omega) hx
  cases v with
  |slr st b r len=>
   simp only[rd,aa0]at h
   obtain⟨z,hz,h⟩:=h
   have hz':(g b).bind Dl=some z:=aa0.2 hz
   split at h
   ·cases hfl:z.2.1 with
    |true=>
     rw[hfl]at h;simp at h;rw[←h]
     intro b' hb'
     simp at hb';subst hb'
     exact⟨z,hz',fun e=>by rw[hfl]at e;cases e⟩
    |false=>
     rw[hfl]at h;simp only[cond_false,aaW]at h
     obtain⟨q,hq,rfl⟩:=h
     intro b' hb'
     rcases acK.1 hb' with rfl|hb'
     ·exact⟨z,hz',fun _=>⟨d,q,by omega,hq,fun x hx=>abB _ hx⟩⟩
     ·obtain⟨z',k1,k2⟩:=clR hq (fun r _ x _=>IH x) b' hb'
      exact⟨z',k1,fun e=>by obtain⟨d',q',a1,a2,a3⟩:=k2 e;exact⟨d',q',a1,a2,fun x hx=>abB _ (a3 x hx)⟩⟩
   ·cases h
  |agg cs=>
   simp only[rd,aaW]at h
   obtain⟨q,hq,rfl⟩:=h
   exact clL hq fun x _=>IH x
  |iface t x=>
   simp only[rd,aaW]at h
   obtain⟨q,hq,rfl⟩:=h
   exact IH x q hq
  |func fn a b=>
   cases a<;>cases b<;>first|(simp[rd]at h;subst h;exact Cl.nil g)|(simp[rd]at h)
  |_=>first|(simp[rd]at h;subst h;exact Cl.nil g)|(simp[rd]at h)
theorem gK{F:Nat→Option Nat}(f:Nat→Nat):∀{e:Nat} {x' x:AV},Hm e F x'=some x→∃y,Dp e f x'=some y
 |0,x',x,h=>by simp[Hm]at h
 |e+1,x',x,h=>by
  have L:∀{l l1:List AV},Az (Hm e F) l=some l1→∃y,Az (Dp e f) l=some y:=fun {l}=>by
   induction l with
   |nil=>exact fun _=>⟨[],rfl⟩
   |cons a l ih=>
    intro l1 h
    simp only[Az,aa0,aaW]at h
    obtain⟨b,hb,c,hc,_⟩:=h
    obtain⟨y,hy⟩:=gK f hb
    obtain⟨ys,hys⟩:=ih hc
    exact⟨y::ys,by simp[Az,hy,hys]⟩
  cases x' with
  |agg cs=>simp only[Hm,aaW]at h;obtain⟨_,h,_⟩:=h;obtain⟨y,hy⟩:=L h;exact⟨.agg y,by simp[Dp,hy]⟩
  |tup cs=>simp only[Hm,aaW]at h;obtain⟨_,h,_⟩:=h;obtain⟨y,hy⟩:=L h;exact⟨.tup y,by simp[Dp,hy]⟩
  |iface t x=>simp only[Hm,aaW]at h;obtain⟨_,h,_⟩:=h;obtain⟨y,hy⟩:=gK f h;exact⟨.iface t y,by simp[Dp,hy]⟩
  |func fn a b=>
   simp only[Hm,aa0,aaW]at h
   obtain⟨_,h1,_,h2,_⟩:=h
   obtain⟨y,hy⟩:=L h1
   obtain⟨y2,hy2⟩:=L h2
   exact⟨.func fn y y2,by simp[Dp,hy,hy2]⟩
  |_=>exact⟨_,rfl⟩
theorem sF{α β γ:Type}{f:α→Option β}{f':α→Option γ}(H:∀a b,f a=some b→∃c,f' a=some c):∀{l:List α} {r:List β},Az f l=some r→∃s,Az f' l=some s
 | [],_,_=>⟨[],rfl⟩
 |a::l,r,h=>by
  simp only[Az,aa0,aaW]at h
  obtain⟨b,hb,c,hc,_⟩:=h
  obtain⟨y,hy⟩:=H a b hb
  obtain⟨ys,hys⟩:=sF H hc
  exact⟨y::ys,by simp[Az,hy,hys]⟩
def Stn(F:Nat→Option Nat)(c':CB)(z:Nat × Bool × List (List AV)):Prop:=
 ∃rows',Dl c'=some (z.1,z.2.1,rows')∧(z.2.1=true→rows'=z.2.2)∧(z.2.1=false→Az (Az (Hm 8 F)) rows'=some z.2.2)
def Rnm(c:CB):Prop:=∀f,∃c',Hv f c=some c'
theorem spB{g:HF}{S:List Nat}(H:Cl g S){b:Nat}(hb:b∈S)(m:List Nat):∃c c' m' z,g b=some c∧Dl c=some z∧Zu m c=some (c',m')∧Gd m m' S∧(∀F,On m' F→Stn F c' z)∧Rnm c':=by
 obtain⟨z,hz,hc⟩:=H b hb
 obtain⟨c,k1,k2⟩:=aa0.1 hz
 have R:∀rows,z.2.1=false→rows=z.2.2→∃l' m',Ky m rows=some (l',m')∧Gd m m' S∧∀F,On m' F→Az (Az (Hm 8 F)) l'=some rows:=fun rows e er=>by
  obtain⟨d,q,a1,a2,a3⟩:=hc e
  obtain⟨l',m',e1,g1,e2⟩:=spR (er▸a2) (fun r _ x _ q hx=>sp a1 hx) m
  exact⟨l',m',e1,⟨g1.pre,g1.nd,fun x hx=>(g1.sub x hx).imp id (a3 x)⟩,e2⟩
 have R2:∀l' rows m',(∀F,On m' F→Az (Az (Hm 8 F)) l'=some rows)→∀f,∃y,Az (Az (Dp 8 f)) l'=some y:=fun l' rows m' h f=>
  sF (fun a b hab=>sF (fun a b hab=>gK f hab) hab) (h (fun i=>m'[i]?) (fun _ _ h=>h))
 cases c with
 |live st fl w rows=>
  simp[Dl]at k2;subst k2
  cases fl with
  |true=>exact⟨_,_,m,_,k1,rfl,rfl,Gd.refl _ _,fun F _=>⟨rows,rfl,fun _=>rfl,fun e=>by cases e⟩,fun f=>⟨_,rfl⟩⟩
  |false=>
   obtain⟨l',m',e1,g1,e2⟩:=R rows rfl rfl
   refine⟨_,.live st false w l',m',_,k1,rfl,by simp[Zu,e1],g1,fun F hF=>⟨l',rfl,fun e=>(by cases e),fun _=>e2 F hF⟩,fun f=>?_⟩
   obtain⟨y,hy⟩:=R2 l' rows m' e2 f
   exact⟨.live st false w y,by simp[Hv,hy]⟩
 |frz st fl rows=>
  simp[Dl]at k2;subst k2
  cases fl with
  |true=>exact⟨_,_,m,_,k1,rfl,rfl,Gd.refl _ _,fun F _=>⟨rows,rfl,fun _=>rfl,fun e=>by cases e⟩,fun f=>⟨_,rfl⟩⟩
  |false=>
   obtain⟨l',m',e1,g1,e2⟩:=R rows rfl rfl
   refine⟨_,.frz st false l',m',_,k1,rfl,by simp[Zu,e1],g1,fun F hF=>⟨l',rfl,fun e=>(by cases e),fun _=>e2 F hF⟩,fun f=>?_⟩
   obtain⟨y,hy⟩:=R2 l' rows m' e2 f
   exact⟨.frz st false y,by simp[Hv,hy]⟩
 |dead=>simp[Dl]at k2
 |lp=>simp[Dl]at k2
theorem aj3{S:List Nat}:∀{m:List Nat},m.Nodup→(∀b∈m,b∈S)→m.length≤S.length:=by
 induction S with
 |nil=>intro m _ h;cases m with
  |nil=>simp
  |cons a m=>exact absurd (h a (abO ..)) (by simp)
 |cons s S ih=>
  intro m hn h
  have h2:=ih (m:=m.erase s) (hn.erase s) (fun b hb=>by
   have hb':=List.mem_of_mem_erase hb
   rcases acK.1 (h b hb')with rfl|h'
   ·exact absurd hb (hn.not_mem_erase)
   ·exact h')
  have h3:m.length≤(m.erase s).length+1:=by
   by_cases hs:s∈m
   ·rw[List.length_erase_of_mem hs];omega
   ·rw[List.erase_of_not_mem hs];omega
  simp;omega
theorem spC{g:HF}{S:List Nat}(H:Cl g S):∀(n i:Nat) (m:List Nat),m.Nodup→(∀b∈m,b∈S)→S.length<n+i→i≤m.length→
 ∃cs m',Ld n g i m=some (cs,m')∧m <+:m'∧m'.Nodup∧(∀b∈m',b∈S)∧i+cs.length=m'.length∧(∀c∈cs,Rnm c)∧
  ∀F,On m' F→∀j c',cs[j]?=some c'→∃b z,m'[i+j]?=some b∧(g b).bind Dl=some z∧Stn F c' z
 |0,i,m,hn,hs,hl,hi=>by have:=aj3 hn hs;omega
 |n+1,i,m,hn,hs,hl,hi=>by
  unfold Ld
  cases hm:m[i]? with
  |none=>
   have:m.length≤i:=List.getElem?_eq_none_iff.1 hm
   exact⟨[],m,rfl,aeW _,hn,hs,by simp;omega,(fun c hc=>by cases hc),fun F _ j c' hj=>by simp at hj⟩
  |some b=>
   have hlt:=(acZ.1 hm).1
   obtain⟨c,c',m1,z,k1,k2,k3,g1,k4,k5⟩:=spB H (hs b (List.mem_of_getElem? hm)) m
   obtain⟨cs,m',e1,p1,p2,p3,p4,p5,p6⟩:=spC H n (i+1) m1 (g1.nd hn) (fun b hb=>(g1.sub b hb).elim (hs b) id) (by omega) (by have:=g1.pre.length_le;omega)
   refine⟨c'::cs,m',by simp[k1,k3,e1],g1.pre.trans p1,p2,p3,by simp;omega,fun x hx=>?_,fun F hF j x hj=>?_⟩
   ·rcases acK.1 hx with rfl|hx
    ·exact k5
    ·exact p5 x hx
   ·cases j with
    |zero=>
     simp at hj;subst hj
     exact⟨b,z,Qs (g1.pre.trans p1) (by simpa using hm),by rw[k1];exact k2,k4 F (hF.mono p1)⟩
    |succ j=>
     simp at hj
     obtain⟨b',z',a1,a2,a3⟩:=p6 F hF j x hj
     exact⟨b',z',by rw[←a1];congr 1;omega,a2,a3⟩
theorem as2{h:Ab}{v:AV}{R:List Nat}(hs:Sp 8 v R)(hc:Cl (hf h) R)(hR:R.length<5000):
 ∃v' cs F,Sz 0 v h=some (v',cs)∧aqS F (hf cs) (hf h)∧Hm 8 F v'=some v∧∀c∈cs,Rnm c:=by
 obtain⟨v',m,e1,g1,k1⟩:=hs []
 have hm:∀b∈m,b∈R:=fun b hb=>(g1.sub b hb).elim (fun h=>by cases h) id
 obtain⟨cs,m',e2,p1,p2,p3,p4,p5,p6⟩:=spC hc 5000 0 m (g1.nd List.nodup_nil) hm (by omega) (Nat.zero_le _)
 refine⟨v',cs,fun i=>m'[i]?,by simp[Sz,Md,Ey.refL,e1,e2,List.range_zero],fun i b hi z hz=>?_,k1 _ (fun _ _ h=>Qs p1 h),p5⟩
 have hlt:=(acZ.1 hi).1
 obtain⟨b',z',a1,a2,rows',a3,a4,a5⟩:=p6 (fun i=>m'[i]?) (fun _ _ h=>h) i _ (aeZ (by omega))
 rw[Nat.zero_add]at a1
 have hbb:b=b':=by have hi':m'[i]?=some b:=hi;rw[hi']at a1;cases a1;rfl
 subst hbb
 rw[hz]at a2;cases a2
 exact⟨rows',by show(cs[i]?).bind Dl=_;rw[aeZ (by omega)];exact a3,a4,a5⟩
theorem Xv{f:Nat→Nat}{F:Nat→Option Nat}(hF:∀b,F (f b)=some b):∀{e:Nat} {x x1:AV},Dp e f x=some x1→Hm e F x1=some x
 |0,x,x1,h=>by simp[Dp]at h
 |e+1,x,x1,h=>by
  have L:∀{l l1:List AV},Az (Dp e f) l=some l1→Az (Hm e F) l1=some l:=fun {l}=>by
   induction l with
   |nil=>intro l1 h;simp[Az]at h;subst h;rfl
   |cons a l ih=>
    intro l1 h
    simp only[Az,aa0,aaW]at h
    obtain⟨b,hb,c,hc,rfl⟩:=h
    simp[Az,Xv hF hb,ih hc]
  cases x with
  |agg cs=>simp only[Dp,aaW]at h;obtain⟨_,h,rfl⟩:=h;simp[Hm,L h]
  |tup cs=>simp only[Dp,aaW]at h;obtain⟨_,h,rfl⟩:=h;simp[Hm,L h]
  |iface t x=>simp only[Dp,aaW]at h;obtain⟨_,h,rfl⟩:=h;simp[Hm,Xv hF h]
  |func fn a b=>
   simp only[Dp,aa0,aaW]at h
   obtain⟨_,h1,_,h2,rfl⟩:=h
   simp[Hm,L h1,L h2]
  |_=>simp only[Dp,Option.some.injEq]at h;subst h;simp[Hm,hF]
theorem Xi{α β:Type}{f:α→Option β}{f':β→Option α}(H:∀a b,f a=some b→f' b=some a):∀{l:List α} {r:List β},Az f l=some r→Az f' r=some l
 | [],r,h=>by simp[Az]at h;subst h;rfl
 |a::l,r,h=>by
  simp only[Az,aa0,aaW]at h
  obtain⟨b,hb,c,hc,rfl⟩:=h
  simp[Az,H a b hb,Xi H hc]
theorem tK{f:Nat→Nat}:∀{cs:List CB} (_:∀c∈cs,Rnm c) (base:Nat),∃ns cs1,Jj f base cs=some ns∧(∀G,Ba G ns=G++cs1)∧Az (Hv f) cs=some cs1
 | [],_,base=>⟨[],[],rfl,fun G=>by simp[Ba],rfl⟩
 |c::cs,h,base=>by
  obtain⟨c1,e1⟩:=h c (abO ..) f
  obtain⟨ns,cs1,e2,e3,e4⟩:=tK (f:=f) (cs:=cs) (fun c hc=>h c (abB _ hc)) (base+1)
  exact⟨.new base c1::ns,c1::cs1,by simp[Jj,e1,e2],fun G=>by simp[Ba,Du,e3],by simp[Az,e1,e4]⟩
theorem ah8{f:Nat→Nat}{F:Nat→Option Nat}(hF:∀b,F (f b)=some b){c c1:CB}(h:Hv f c=some c1){z:Nat × Bool × List (List AV)}(hz:Dl c=some z):Stn F c1 z:=by
 cases c with
 |live st fl w rows=>
  simp[Dl]at hz;subst hz
  cases fl with
  |true=>simp[Hv]at h;subst h;exact⟨rows,rfl,fun _=>rfl,fun e=>by cases e⟩
  |false=>
   simp only[Hv,aaW]at h
   obtain⟨r,hr,rfl⟩:=h
   exact⟨r,rfl,fun e=>(by cases e),fun _=>Xi (fun a b hab=>Xi (fun a b hab=>Xv hF hab) hab) hr⟩
 |frz st fl rows=>
  simp[Dl]at hz;subst hz
  cases fl with
  |true=>simp[Hv]at h;subst h;exact⟨rows,rfl,fun _=>rfl,fun e=>by cases e⟩
  |false=>
   simp only[Hv,aaW]at h
   obtain⟨r,hr,rfl⟩:=h
   exact⟨r,rfl,fun e=>(by cases e),fun _=>Xi (fun a b hab=>Xi (fun a b hab=>Xv hF hab) hab) hr⟩
 |dead=>simp[Dl]at hz
 |lp=>simp[Dl]at hz
structure Kp(lent:List Nat)(H H1:Ab):Prop where
 len:H.length≤H1.length
 rows:∀b,b<H.length→(hf H1 b).bind Dl=(hf H b).bind Dl
 same:∀b,b<H.length→b∉lent→H1[b]?=H[b]?
theorem rK{H:Ab}:∀(l:List Nat) (G:Ab),G.length=H.length→(∀b,(hf G b).bind Dl=(hf H b).bind Dl)→
 (Ba G (Ec (hf H) l)).length=H.length∧(∀b,(hf (Ba G (Ec (hf H) l)) b).bind Dl=(hf H b).bind Dl)∧∀b,b∉l→(Ba G (Ec (hf H) l))[b]?=G[b]?
 | [],G,h1,h2=>⟨h1,h2,fun _ _=>rfl⟩
 |a::l,G,h1,h2=>by
  unfold Ec
  have other:∀b,b∉a::l→b∉l:=fun b hb h=>hb (abB _ h)
  split
  ·rename_i st fl w rows ha
   have hlt:a<G.length:=by rw[h1];exact(acZ.1 ha).1
   obtain⟨k1,k2,k3⟩:=rK (H:=H) l (G.set a (.frz st fl rows)) (by simp[h1]) (fun b=>by
    by_cases hb:a=b
    ·subst hb
     show((G.set a _)[a]?).bind Dl=_
     rw[List.getElem?_set_self hlt,ha];rfl
    ·show((G.set a _)[b]?).bind Dl=_
     rw[aeM hb];exact h2 b)
   refine⟨k1,k2,fun b hb=>?_⟩
   show(Ba (G.set a _) _)[b]?=_
   rw[k3 b (other b hb),aeM (fun e=>hb (by rw[←e];exact abO ..))]
  ·obtain⟨k1,k2,k3⟩:=rK l G h1 h2
   exact⟨k1,k2,fun b hb=>k3 b (other b hb)⟩
theorem abC{O:Gn}{H:Ab}{f:Nat}{args vs:List AV}{v:AV}{h':Ab}(hh:oJ args=false)(ha:Az (cT H) args=some vs)(hp:vs.all (Bj 8)=true)
 (hc:O.call (.fn f) vs []=some (.ret v,h')) (h1:∀f,∃y,Dp 8 f v=some y) (h2:∀c∈h',Rnm c):
 ∃v1 es H1 F,cl O H (some (.func (.func f) [] [])) (some args)=some (.ret v1,es)∧Ba H es=H1∧aqS F (hf H1) (hf h')∧Hm 8 F v1=some v∧Kp (args.flatMap (Be 12 (hf H))) H H1∧∀i b,F i=some b→H.length≤i:=by
 obtain⟨v1,e1⟩:=h1 (fun i=>H.length+i)
 obtain⟨ns,cs1,e2,e3,e4⟩:=tK (f:=fun i=>H.length+i) h2 H.length
 generalize hFF:(fun i=>if H.length≤i then some (i-H.length)else none:Nat→Option Nat)=F
 have hF:∀b,F (H.length+b)=some b:=fun b=>by rw[←hFF];simp
 have key:∃fz:List Ad,cl O H (some (.func (.func f) [] [])) (some args)=some (.ret v1,fz++ns)∧(fz=[]∨fz=Ec (hf H) (args.flatMap (Be 12 (hf H)))):=by
  rw[ah9,adV,ae6,if_neg (by rw[hh];simp),ak1 ha hp,hc]
  refine⟨_,by simp only[crR,abT,Eo.v,e1,e2,aeH,Eo.map];rfl,?_⟩
  split
  ·exact .inl rfl
  ·exact .inr rfl
 obtain⟨fz,ec,hfz⟩:=key
 have hK:(Ba H fz).length=H.length∧(∀b,(hf (Ba H fz) b).bind Dl=(hf H b).bind Dl)∧∀b,b∉args.flatMap (Be 12 (hf H))→(Ba H fz)[b]?=H[b]?:=by
  rcases hfz with rfl|rfl
  ·exact⟨rfl,fun _=>rfl,fun _ _=>rfl⟩
  ·exact rK _ H rfl (fun _=>rfl)
 obtain⟨k1,k2,k3⟩:=hK
 have hap:Ba H (fz++ns)=Ba H fz++cs1:=by rw[Zt,e3]
 refine⟨v1,_,_,F,ec,hap,fun i b hi z hz=>?_,Xv hF e1,⟨by simp[k1],fun b hb=>?_,fun b hb hl=>?_⟩,fun i b hi=>?_⟩
 ·rw[←hFF]at hi;simp only at hi
  split at hi
  ·rename_i hle
   simp only[Option.some.injEq]at hi
   obtain⟨c,hcc,hcz⟩:=aa0.1 hz
   obtain⟨c1,g1,g2⟩:=Tz e4 (show h'[b]?=some c from hcc)
   obtain⟨rows',r1,r2,r3⟩:=ah8 hF g2 hcz
   refine⟨rows',?_,r2,r3⟩
   show((Ba H fz++cs1)[i]?).bind Dl=_
   rw[List.getElem?_append_right (by omega),k1,hi,g1]
   exact r1
  ·cases hi
 ·rw[←k2 b]
  show((Ba H fz++cs1)[b]?).bind Dl=_
  rw[aeP (by omega)];rfl
 ·rw[aeP (by omega)];exact k3 b hl
 ·rw[←hFF]at hi;simp only at hi
  split at hi
  ·assumption
  ·cases hi
theorem fdx{C:R→Prop}{r r':R}[n:NoN C](k:C r')(e:Dw r r':=by first|exact dw 1|exact dw 3):C r:=e.dr n.no k
theorem jS{g:HF}(f:Nat→Nat):∀{d e:Nat} {v:AV} {p:AV × List Nat},d≤e→rd d g v=some p→∃y,Dp e f v=some y
 |0,e,v,p,_,h=>by simp[rd]at h
 |d+1,0,v,p,he,h=>by omega
 |d+1,e+1,v,p,he,h=>by
  have L:∀{l:List AV} {q:List AV × List Nat},Pj (rd d g) l=some q→∃y,Az (Dp e f) l=some y:=fun {l}=>by
   induction l with
   |nil=>exact fun _=>⟨[],rfl⟩
   |cons a l ih=>
    intro q h
    simp only[Pj,aa0,aaW]at h
    obtain⟨b,hb,c,hc,_⟩:=h
    obtain⟨y,hy⟩:=jS f (show d≤e by omega) hb
    obtain⟨ys,hys⟩:=ih hc
    exact⟨y::ys,by simp[Az,hy,hys]⟩
  cases v with
  |agg cs=>simp only[rd,aaW]at h;obtain⟨_,h,_⟩:=h;obtain⟨y,hy⟩:=L h;exact⟨.agg y,by simp[Dp,hy]⟩
  |iface t x=>simp only[rd,aaW]at h;obtain⟨_,h,_⟩:=h;obtain⟨y,hy⟩:=jS f (show d≤e by omega) h;exact⟨.iface t y,by simp[Dp,hy]⟩
  |func fn a b=>
   cases a<;>cases b<;>first|exact⟨_,rfl⟩|(simp[rd]at h)
  |tup cs=>simp[rd]at h
  |_=>exact⟨_,rfl⟩
theorem sL{g:HF}(f:Nat→Nat){d e:Nat}(hd:d≤e):∀{l:List AV} {q:List AV × List Nat},Pj (rd d g) l=some q→∃y,Az (Dp e f) l=some y
 | [],q,_=>⟨[],rfl⟩
 |a::l,q,h=>by
  simp only[Pj,aa0,aaW]at h
  obtain⟨b,hb,c,hc,_⟩:=h
  obtain⟨y,hy⟩:=jS f hd hb
  obtain⟨ys,hys⟩:=sL f hd hc
  exact⟨y::ys,by simp[Az,hy,hys]⟩
theorem Yl{g:HF}:∀{d e:Nat} {v:AV} {p:AV × List Nat},d≤e→rd d g v=some p→Ih e g v=some p.1
 |0,e,v,p,_,h=>by simp[rd]at h
 |d+1,0,v,p,he,h=>by omega
 |d+1,e+1,v,p,he,h=>by
  cases v with
  |slr st b r len=>exact jT (ab3 he h)
  |agg cs=>
   simp only[rd,aaW]at h
   obtain⟨q,hq,rfl⟩:=h
   simp[Ih,eH (f':=Ih e g) hq (fun x _ q' hx=>Yl (show d≤e by omega) hx)]
  |iface t x=>
   simp only[rd,aaW]at h
   obtain⟨q,hq,rfl⟩:=h
   simp[Ih,Yl (show d≤e by omega) hq]
  |func fn a b=>cases a<;>cases b<;>first|(simp[rd]at h;subst h;rfl)|(simp[rd]at h)
  |_=>first|(simp[rd]at h;subst h;rfl)|(simp[rd]at h)
theorem aiN{f:AV→Option (AV × List Nat)}{f':AV→List Nat}:∀{l:List AV} {p:List AV × List Nat},Pj f l=some p→(∀x∈l,∀q,f x=some q→∀b∈f' x,b∈q.2)→∀b∈l.flatMap f',b∈p.2
 | [],p,h,_=>fun b hb=>by simp at hb
 |a::l,p,h,hf=>fun b hb=>by
  simp only[Pj,aa0,aaW]at h
  obtain⟨q,hq,r,hr,rfl⟩:=h
  rw[ae7]at hb
  rcases abY.1 hb with hb|hb
  ·exact ab9 _ (hf a (abO ..) q hq b hb)
  ·exact acF _ (aiN hr (fun x hx=>hf x (abB _ hx)) b hb)
theorem apN{f:AV→Option (AV × List Nat)}{f':AV→List Nat}:∀{l:List (List AV)} {p:List (List AV) × List Nat},Dq f l=some p→(∀r∈l,∀x∈r,∀q,f x=some q→∀b∈f' x,b∈q.2)→∀b∈l.flatMap (fun cs=>cs.flatMap f'),b∈p.2
 | [],p,h,_=>fun b hb=>by simp at hb
 |a::l,p,h,hf=>fun b hb=>by
  simp only[Dq,aa0,aaW]at h
  obtain⟨q,hq,r,hr,rfl⟩:=h
  rw[ae7]at hb
  rcases abY.1 hb with hb|hb
  ·exact ab9 _ (aiN hq (hf a (abO ..)) b hb)
  ·exact acF _ (apN hr (fun x hx=>hf x (abB _ hx)) b hb)
theorem kK{g:HF}:∀{e d:Nat} {v:AV} {p:AV × List Nat},rd d g v=some p→∀b∈Be e g v,b∈p.2
 |0,d,v,p,_,b,hb=>by simp[Be]at hb
 |e+1,0,v,p,h,b,hb=>by simp[rd]at h
 |e+1,d+1,v,p,h,b,hb=>by
  cases v with
  |slr st c r len=>
   simp only[rd,aa0]at h
   obtain⟨z,hz,h⟩:=h
   split at h
   ·rename_i hq
    obtain⟨rfl,rfl,rfl⟩:=hq
    simp only[Be,eM (aa0.2 hz)]at hb
    cases hfl:z.2.1 with
    |true=>rw[hfl]at h hb;simp at h hb;rw[←h];simp[hb]
    |false=>
     rw[hfl]at h hb
     simp only[cond_false,aaW]at h
     obtain⟨q,hq',rfl⟩:=h
     rcases acK.1 hb with rfl|hb
     ·exact abO ..
     ·exact abB _ (apN hq' (fun r _ x _ q' hx b hb=>kK hx b hb) b (by simpa using hb))
   ·cases h
  |agg cs=>
   simp only[rd,aaW]at h
   obtain⟨q,hq,rfl⟩:=h
   exact aiN hq (fun x _ q' hx b hb=>kK hx b hb) b hb
  |iface t x=>
   simp only[rd,aaW]at h
   obtain⟨q,hq,rfl⟩:=h
   exact kK hq b hb
  |_=>simp[Be]at hb
theorem afV{e:Nat}{f:Nat→Nat}{cs y:List AV}(h:Az (Dp e f) cs=some y):Dp (e+1) f (.tup cs)=some (.tup y):=by simp[Dp,h]
theorem sV{e:Nat}{F:Nat→Option Nat}{v:AV}{outs:List AV}(h:Hm (e+1) F v=some (.tup outs)):∃o,v=.tup o∧Az (Hm e F) o=some outs:=by
 cases v with
 |tup cs=>simp[Hm]at h;exact⟨_,rfl,h⟩
 |func fn a b=>simp only[Hm,aa0,aaW]at h;obtain⟨_,_,_,_,h⟩:=h;cases h
 |_=>simp[Hm]at h
theorem at0{e:Nat}{vs:List AV}{R:List Nat}(h:SpL e vs R):Sp (e+1) (.tup vs) R:=fun m=>by
 obtain⟨l',m',a1,a2,a3⟩:=h m
 exact⟨.tup l',m',by simp[Ey,a1],a2,fun F hF=>by simp[Hm,a3 F hF]⟩
def zF(O:Gn)(f:Nat)(vs xs:List AV)(k:Nat):Prop:=
 ∃outs h' R,O.call (.fn f) vs []=some (.ret (.tup outs),h')∧Pj (rd 6 (hf h')) outs=some (xs,R)∧R.length≤k∧∀c∈h',Rnm c
def RdV(O:Gn)(f:Nat)(vs:List AV)(x:AV)(k:Nat):Prop:=
 ∃v h' R,O.call (.fn f) vs []=some (.ret v,h')∧rd 6 (hf h') v=some (x,R)∧R.length≤k∧∀c∈h',Rnm c
theorem zF.cl{O:Gn}{f:Nat}{vs xs:List AV}{k:Nat}(K:zF O f vs xs k){H:Ab}{args:List AV}(hh:oJ args=false)(ha:Az (cT H) args=some vs)(hp:vs.all (Bj 8)=true):
 ∃outs es H1 R,cl O H (some (.func (.func f) [] [])) (some args)=some (.ret (.tup outs),es)∧Ba H es=H1∧Kp (args.flatMap (Be 12 (hf H))) H H1∧Pj (rd 6 (hf H1)) outs=some (xs,R)∧R.length≤k∧∀b∈R,H.length≤b:=by
 obtain⟨outs,h',R,hc,hr,hk,hn⟩:=K
 obtain⟨v1,es,H1,F,e1,e2,e3,e4,e5,e6⟩:=abC hh ha hp hc (fun f=>by obtain⟨y,hy⟩:=sL f (show 6≤7 by omega) hr;exact⟨.tup y,afV hy⟩) hn
 obtain⟨o1,rfl,ho⟩:=sV e4
 obtain⟨R',k1,k2,k3⟩:=fE (f':=rd 6 (hf H1)) (Z:=fun i=>∃b,F i=some b) ho hr (fun x' x q a b=>sC e3 a b)
 exact⟨o1,es,H1,R',e1,e2,e5,k1,by rw[k2];exact hk,fun b hb=>by obtain⟨c,hc⟩:=k3 b hb;exact e6 b c hc⟩
theorem RdV.cl{O:Gn}{f:Nat}{vs:List AV}{x:AV}{k:Nat}(K:RdV O f vs x k){H:Ab}{args:List AV}(hh:oJ args=false)(ha:Az (cT H) args=some vs)(hp:vs.all (Bj 8)=true):
 ∃v es H1 R,cl O H (some (.func (.func f) [] [])) (some args)=some (.ret v,es)∧Ba H es=H1∧Kp (args.flatMap (Be 12 (hf H))) H H1∧rd 6 (hf H1) v=some (x,R)∧R.length≤k∧∀b∈R,H.length≤b:=by
 obtain⟨v,h',R,hc,hr,hk,hn⟩:=K
 obtain⟨v1,es,H1,F,e1,e2,e3,e4,e5,e6⟩:=abC hh ha hp hc (fun f=>jS f (show 6≤8 by omega) hr) hn
 obtain⟨R',k1,k2,k3⟩:=sC e3 e4 hr
 exact⟨v1,es,H1,R',e1,e2,e5,k1,by rw[k2];exact hk,fun b hb=>by obtain⟨c,hc⟩:=k3 b hb;exact e6 b c hc⟩
theorem zF.at{O:Gn}{f:Nat}{vs xs:List AV}{k:Nat}(K:zF O f vs xs k){H:Ab}{args:List AV}{E:OE}(hE:Ev.cl O H (some (.func (.func f) [] [])) (some args)=E)(hh:oJ args=false)(ha:Az (cT H) args=some vs)(hp:vs.all (Bj 8)=true):
 ∃outs es H1 R,E=some (.ret (.tup outs),es)∧Ba H es=H1∧Kp (args.flatMap (Be 12 (hf H))) H H1∧Pj (rd 6 (hf H1)) outs=some (xs,R)∧R.length≤k∧∀b∈R,H.length≤b:=by
 obtain⟨outs,es,H1,R,e,r⟩:=K.cl hh ha hp
 exact⟨outs,es,H1,R,hE.symm.trans e,r⟩
theorem wW{O:Gn}{H:Ab}{f:Nat}{args vs:List AV}{v:AV}(hh:oJ args=false)(ha:Az (cT H) args=some vs)(hp:vs.all (Bj 8)=true)(hc:O.call (.fn f) vs []=some (.ret v,[]))(h1:Bj 8 v=true)(h2:hasImm 8 v=false):
 cl O H (some (.func (.func f) [] [])) (some args)=some (.ret v,[]):=by
 rw[ah9,adV,ae6,if_neg (by rw[hh];simp),ak1 ha hp,hc,qE,if_pos ⟨h1,h2⟩]
theorem aaY{h:Ab}{vs xs:List AV}{R:List Nat}{Q:Eo→Ab→Prop}(h1:Pj (rd 6 (hf h)) vs=some (xs,R))(hR:R.length<5000)(h2:Ui vs=.tup vs)
 (q:∀outs h' R',Pj (rd 6 (hf h')) outs=some (xs,R')→R'.length=R.length→(∀c∈h',Rnm c)→Q (.ret (.tup outs)) h'):Rt 0 (some vs) h Q:=by
 obtain⟨v',cs,F,e1,e2,e3,e4⟩:=as2 (v:=.tup vs) (at0 (spL (e:=7) h1 (fun x _ q hx=>sp (by omega) hx))) (clL h1 (fun x _ q hx=>aa4 (by omega) hx)) hR
 obtain⟨o1,rfl,ho⟩:=sV e3
 obtain⟨R',k1,k2,_⟩:=fE (f':=rd 6 (hf cs)) (Z:=fun i=>∃b,F i=some b) ho h1 (fun x' x q a b=>sC e2 a b)
 exact⟨_,_,by simp[aiC,h2,e1],q _ _ _ k1 k2 e4⟩
theorem Gs{C:R→Prop}[n:NoN C]{r:R}(h:∀K:R→Prop,NoN K→(∀x,C x→K x)→K r):C r:=h C n fun _ h=>h
theorem wU{v:AV}{H:Ab}{b:Nat}(l:List CB)(hb:b<H.length)(hv:∀a c r m,v=.slr a c r m→c≠b):(kl 0 v H++l)[b]?=H[b]?:=by
 rw[aeP (by rw[Bt];exact hb)]
 unfold kl
 split
 ·rename_i a c r m
  rw[aeM];simpa using hv a c r m rfl
 ·rfl
theorem kN{H:Ab}{b:Nat}{z:Nat × Bool × List (List AV)}(h:(hf H b).bind Dl=some z):b<H.length:=by
 obtain⟨c,hc,_⟩:=aa0.1 h
 exact(acZ.1 hc).1
theorem Wb{g g':HF}{d:Nat}{l:List AV}{p:List AV × List Nat}(h:Pj (rd d g) l=some p)(ha:Agr p.2 g g'):Pj (rd d g') l=some p:=
 aB h fun _ _ _ hq hs=>cN hq fun b hb=>ha b (hs b hb)
theorem Yw{g g':HF}{d:Nat}{l:List (List AV)}{p:List (List AV) × List Nat}(h:Dq (rd d g) l=some p)(ha:Agr p.2 g g'):Dq (rd d g') l=some p:=
 Vv h fun _ _ _ _ _ hq hs=>cN hq fun b hb=>ha b (hs b hb)
theorem bF{H:Ab}{d:Nat}{l:List AV}{p:List AV × List Nat}(hd:d≤9)(h:Pj (rd d (hf H)) l=some p):∀b∈p.2,b<H.length:=fun b hb=>by
 obtain⟨z,hz,_⟩:=clL h (fun x _ q hx=>aa4 hd hx) b hb
 exact kN hz
theorem gV{H:Ab}{d:Nat}{l:List (List AV)}{p:List (List AV) × List Nat}(hd:d≤9)(h:Dq (rd d (hf H)) l=some p):∀b∈p.2,b<H.length:=fun b hb=>by
 obtain⟨z,hz,_⟩:=clR h (fun r _ x _ q hx=>aa4 hd hx) b hb
 exact kN hz
theorem nK{f:AV→Option (AV × List Nat)}:∀{l:List (List AV)} {p:List (List AV) × List Nat},Dq f l=some p→l.length=p.1.length
 | [],p,h=>by simp[Dq]at h;subst h;rfl
 |a::l,p,h=>by
  simp only[Dq,aa0,aaW]at h
  obtain⟨q,hq,r,hr,rfl⟩:=h
  simp[nK hr]
theorem mL{f:AV→Option (AV × List Nat)}:∀{l:List (List AV)} {p:List (List AV) × List Nat} {i:Nat} {X:List AV},Dq f l=some p→p.1[i]?=some X→∃r R,l[i]?=some r∧Pj f r=some (X,R)
 | [],p,i,X,h,hx=>by simp[Dq]at h;subst h;simp at hx
 |a::l,p,i,X,h,hx=>by
  simp only[Dq,aa0,aaW]at h
  obtain⟨q,hq,r,hr,rfl⟩:=h
  cases i with
  |zero=>simp at hx;subst hx;exact⟨a,q.2,rfl,hq⟩
  |succ i=>simp at hx;obtain⟨r',R',k1,k2⟩:=mL hr hx;exact⟨r',R',by simpa using k1,k2⟩
theorem ab5{f:AV→Option (AV × List Nat)}:∀{l:List AV} {p:List AV × List Nat},Pj f l=some p→l.length=p.1.length
 | [],p,h=>by simp[Pj]at h;subst h;rfl
 |a::l,p,h=>by
  simp only[Pj,aa0,aaW]at h
  obtain⟨q,hq,r,hr,rfl⟩:=h
  simp[ab5 hr]
theorem Fz{f:AV→Option (AV × List Nat)}{l xs:List AV}{x:AV}{R:List Nat}(h:Pj f l=some (x::xs,R)):∃a l' R1 R2,l=a::l'∧f a=some (x,R1)∧Pj f l'=some (xs,R2)∧R=R1++R2:=by
 cases l with
 |nil=>simp[Pj]at h
 |cons a l=>
  simp only[Pj,aa0,aaW]at h
  obtain⟨q,hq,r,hr,he⟩:=h
  simp only[Prod.mk.injEq,List.cons.injEq]at he
  obtain⟨⟨rfl,rfl⟩,rfl⟩:=he
  exact⟨a,l,q.2,r.2,rfl,hq,hr,rfl⟩
theorem fD{f:AV→Option (AV × List Nat)}{l:List AV}{R:List Nat}(h:Pj f l=some ([],R)):l=[]∧R=[]:=by
 cases l with
 |nil=>simp[Pj]at h;exact⟨rfl,h⟩
 |cons a l=>have:=ab5 h;simp at this
theorem lO{g:HF}{d:Nat}{v:AV}{xs:List AV}{R:List Nat}(h:rd (d+1) g v=some (.agg xs,R)):∃cs,v=.agg cs∧Pj (rd d g) cs=some (xs,R):=by
 cases v with
 |slr st b r len=>
  simp only[rd,aa0]at h
  obtain⟨z,_,h⟩:=h
  split at h
  ·cases hfl:z.2.1<;>rw[hfl]at h<;>simp at h
  ·cases h
 |agg cs=>
  simp only[rd,aaW]at h
  obtain⟨q,hq,he⟩:=h
  simp only[Prod.mk.injEq,AV.agg.injEq]at he
  obtain⟨rfl,rfl⟩:=he
  exact⟨cs,rfl,hq⟩
 |func fn a b=>cases a<;>cases b<;>simp[rd]at h
 |iface t x=>simp[rd]at h
 |_=>simp[rd]at h
theorem rQ{g:HF}{d:Nat}{v:AV}{k:IntKind}{n:Int}{R:List Nat}(h:rd (d+1) g v=some (.int k n,R)):v=.int k n∧R=[]:=by
 cases v with
 |slr st b r len=>
  simp only[rd,aa0]at h
  obtain⟨z,_,h⟩:=h
  split at h
  ·cases hfl:z.2.1<;>rw[hfl]at h<;>simp at h
  ·cases h
 |func fn a b=>cases a<;>cases b<;>simp[rd]at h
 |int k' n'=>simp[rd]at h;exact⟨by simp[h],h.2⟩
 |agg cs=>simp[rd]at h
 |iface t x=>simp[rd]at h
 |_=>simp[rd]at h
theorem cO{g:HF}{d st:Nat}{fl nn:Bool}{v:AV}{rows:List (List AV)}{R:List Nat}(h:rd (d+1) g v=some (Ao st fl nn rows,R)):v.isCell=true∧v.flat=false:=by
 have hs:Ao st fl nn rows=.nils∨∃r,Ao st fl nn rows=.imm st fl r:=by
  cases rows with
  |nil=>cases nn with
   |true=>exact .inr ⟨_,rfl⟩
   |false=>exact .inl rfl
  |cons=>exact .inr ⟨_,rfl⟩
 generalize Ao st fl nn rows=X at h hs
 cases v with
 |func fn a b=>cases a<;>cases b<;>first|exact⟨rfl,rfl⟩|(simp[rd]at h)
 |agg cs=>simp only[rd,aaW]at h;obtain⟨_,_,h⟩:=h;simp only[Prod.mk.injEq]at h;obtain⟨h,_⟩:=h;subst h;rcases hs with hs|⟨_,hs⟩<;>cases hs
 |ptr b r o=>exact⟨rfl,rfl⟩
 |yl b=>exact⟨rfl,rfl⟩
 |tup cs=>simp[rd]at h
 |bool b=>simp[rd]at h;obtain⟨h,_⟩:=h;subst h;rcases hs with hs|⟨_,hs⟩<;>cases hs
 |int k n=>simp[rd]at h;obtain⟨h,_⟩:=h;subst h;rcases hs with hs|⟨_,hs⟩<;>cases hs
 |str s=>simp[rd]at h;obtain⟨h,_⟩:=h;subst h;rcases hs with hs|⟨_,hs⟩<;>cases hs
 |_=>exact⟨rfl,rfl⟩
theorem uU{g:HF}{d st:Nat}{fl nn:Bool}{v:AV}{rows:List (List AV)}{R:List Nat}(h:rd (d+1) g v=some (Ao st fl nn rows,R)):
 (v=.nils∧rows=[])∨∃b rows',v=.slr st b 0 rows.length∧(g b).bind Dl=some (st,fl,rows')∧rows'.length=rows.length∧(fl=true→rows'=rows)∧(fl=false→∃R',Dq (rd d g) rows'=some (rows,R')):=by
 have hs:(Ao st fl nn rows=.nils∧rows=[])∨Ao st fl nn rows=.imm st fl rows:=by
  cases rows with
  |nil=>cases nn with
   |true=>exact .inr rfl
   |false=>exact .inl ⟨rfl,rfl⟩
  |cons=>exact .inr rfl
 generalize Ao st fl nn rows=X at h hs
 cases v with
 |nils=>simp[rd]at h;obtain⟨rfl,_⟩:=h;rcases hs with⟨_,hs⟩|hs
        ·exact .inl ⟨rfl,hs⟩
        ·cases hs
 |slr st' b r len=>
  simp only[rd,aa0]at h
  obtain⟨z,hz,h⟩:=h
  split at h
  ·rename_i hq
   obtain⟨q1,rfl,q3⟩:=hq
   obtain⟨z1,z2,z3⟩:=z
   simp only at q1 q3 h
   subst q1
   cases z2 with
   |true=>
    simp at h
    obtain⟨rfl,_⟩:=h
    rcases hs with⟨hs,_⟩|hs
    ·cases hs
    ·cases hs
     exact .inr ⟨b,_,by rw[q3],aa0.2 hz,rfl,fun _=>rfl,fun e=>by cases e⟩
   |false=>
    simp only[cond_false,aaW]at h
    obtain⟨q,hq,he⟩:=h
    simp only[Prod.mk.injEq]at he
    obtain⟨rfl,_⟩:=he
    rcases hs with⟨hs,_⟩|hs
    ·cases hs
    ·cases hs
     have hl:z3.length=q.1.length:=nK hq
     exact .inr ⟨b,z3,by rw[q3,hl],aa0.2 hz,hl,fun e=>(by cases e),fun _=>⟨q.2,hq⟩⟩
  ·cases h
 |func fn a b=>cases a<;>cases b<;>simp[rd]at h<;>(obtain⟨rfl,_⟩:=h;rcases hs with⟨hs,_⟩|hs<;>cases hs)
 |agg cs=>simp only[rd,aaW]at h;obtain⟨_,_,h⟩:=h;simp only[Prod.mk.injEq]at h;obtain⟨rfl,_⟩:=h;rcases hs with⟨hs,_⟩|hs<;>cases hs
 |iface t x=>simp only[rd,aaW]at h;obtain⟨_,_,h⟩:=h;simp only[Prod.mk.injEq]at h;obtain⟨rfl,_⟩:=h;rcases hs with⟨hs,_⟩|hs<;>cases hs
 |ptr b r o=>simp[rd]at h
 |yl b=>simp[rd]at h
 |tup cs=>simp[rd]at h
 |imm=>simp[rd]at h
 |iptr=>simp[rd]at h
 |_=>simp[rd]at h;obtain⟨rfl,_⟩:=h;rcases hs with⟨hs,_⟩|hs<;>cases hs
theorem aoE{H:Ab}{b st:Nat}{fl:Bool}{rows:List (List AV)}(h:(hf H b).bind Dl=some (st,fl,rows))(i:Nat):Pl (H[b]?) i=rows[i]?:=by
 obtain⟨c,hc,hz⟩:=aa0.1 h
 rw[show H[b]?=some c from hc]
 cases c<;>simp[Dl]at hz<;>(obtain⟨_,_,rfl⟩:=hz;rfl)
theorem ahA{n:Nat}{rows:List (List AV)}{v:AV}{H:Ab}(ho:Do 0 n false rows v H){d:Nat}{q:List (List AV) × List Nat}(hq:Dq (rd d (hf H)) rows=some q)(hn:rows=[]→v=.nils):
 ∃R,rd (d+1) (hf H) v=some (Ao n false false q.1,R)∧R.length≤1+q.2.length:=by
 rcases ho with⟨rfl,rfl⟩|⟨b,w,rfl,hb⟩
 ·simp[Dq]at hq;subst hq;exact⟨[],by simp[rd,Ao],by simp⟩
 ·have hne:rows≠[]:=fun e=>by have:=hn e;cases this
  have hb':(hf H (b+0)).bind Dl=some (n,false,rows):=by show(H[b]?).bind Dl=_;rw[hb];rfl
  refine⟨(b+0)::q.2,?_,by simp;omega⟩
  simp only[rd,hb',abT,if_true,and_self,cond_false,hq,aeH]
  have hl:q.1≠[]:=fun e=>by
   cases rows with
   |nil=>exact hne rfl
   |cons r rs=>
    simp only[Dq,aa0,aaW]at hq
    obtain⟨_,_,_,_,rfl⟩:=hq
    cases e
  cases hq1:q.1 with
  |nil=>exact absurd hq1 hl
  |cons r rs=>rfl
theorem Hi{g:HF}{d:Nat}(k:IntKind)(n:Int):rd (d+1) g (.int k n)=some (.int k n,[]):=rfl
theorem Yo{g:HF}{d:Nat}:rd (d+1) g .nils=some (.nils,[]):=rfl
theorem aaZ{g:HF}{d st b n:Nat}{rows:List (List AV)}(h:(g b).bind Dl=some (st,true,rows))(hn:n=rows.length):rd (d+1) g (.slr st b 0 n)=some (.imm st true rows,[b]):=by
 subst hn;simp[rd,h]
theorem Jg{g:HF}{d:Nat}{cs xs:List AV}{R:List Nat}(h:Pj (rd d g) cs=some (xs,R)):rd (d+1) g (.agg cs)=some (.agg xs,R):=by simp[rd,h]
theorem Ie{f:AV→Option (AV × List Nat)}:Pj f []=some ([],[]):=rfl
theorem Ae{f:AV→Option (AV × List Nat)}{a x:AV}{l xs:List AV}{R1 R2:List Nat}(h1:f a=some (x,R1))(h2:Pj f l=some (xs,R2)):Pj f (a::l)=some (x::xs,R1++R2):=by simp[Pj,h1,h2]
theorem aiD{x:Option (List AV)}{vs:List AV}{h:Ab}{Q:Eo→Ab→Prop}(hx:x=some vs)(k:Rt 0 (some vs) h Q):Rt 0 x h Q:=hx▸k
theorem zF.of{O:Gn}{f:Nat}{vs xs:List AV}{k:Nat}(h:Ql O f vs [] fun o h'=>∃outs R,o=.ret (.tup outs)∧Pj (rd 6 (hf h')) outs=some (xs,R)∧R.length≤k∧∀c∈h',Rnm c):zF O f vs xs k:=by
 obtain⟨o,h',e,v,R,rfl,k1,k2,k3⟩:=h
 exact⟨v,h',R,e,k1,k2,k3⟩
theorem iS{f:AV→Option (AV × List Nat)}:∀{l:List (List AV)} {p:List (List AV) × List Nat} {r:List AV} {q:List AV × List Nat},Dq f l=some p→Pj f r=some q→Dq f (l++[r])=some (p.1++[q.1],p.2++q.2)
 | [],p,r,q,h,hr=>by simp[Dq]at h;subst h;simp[Dq,hr]
 |a::l,p,r,q,h,hr=>by
  simp only[Dq,aa0,aaW]at h
  obtain⟨q1,hq1,r1,hr1,rfl⟩:=h
  simp[Dq,hq1,iS hr1 hr]
end Go.Ev
