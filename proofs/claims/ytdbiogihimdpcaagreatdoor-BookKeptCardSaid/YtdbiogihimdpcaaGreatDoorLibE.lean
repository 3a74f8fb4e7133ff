/- The evaluator and its soundness. -/
import Derived.Test.YtdbiogihimdpcaaGreatDoorLibD
open And renaming intro→aaF
open Option renaming map_eq_some_iff→aaR,bind_eq_some_iff→aaV,bind_some→acY,map_some→adA
open Eq renaming trans→abL
open List renaming mem_cons_of_mem→abT,mem_cons_self→acK,mem_append→acZ,mem_append_left→ac2,mem_append_right→ac3,mem_cons→ac4,getElem?_eq_some_iff→ac5,getElem?_set_ne→aeG,getElem?_append_left→aeO,nil_append→aiT,prefix_refl→ai5,getElem?_eq_getElem→ai6,flatMap_cons→ai7
set_option linter.unusedSimpArgs false
set_option linter.unusedVariables false
namespace Go.Ev
open Go.RowKit
section
variable {P:Program} {O:Ez} {pr:Oe}
def rnX(O:Ez)(P:Program)(n:Nat)(k:List Ai)(t:List AV)(b:Nat)(h2:Aa)(x:Option CB):R:=
 match x with
 |some (.lp _ _ _ _ .ready)=>Cd (Cj O P n) k .normal ⟨t,h2.set b .dead⟩
 |some (.lp _ _ _ _ (.done .ret))=>Cd (Cj O P n) k .ret ⟨t,h2.set b .dead⟩
 |some (.lp _ _ _ _ (.done (.exit i)))=>Cd (Cj O P n) k (.exit i) ⟨t,h2.set b .dead⟩
 |_=>none
def rnE(O:Ez)(P:Program)(n:Nat)(k:List Ai)(t:List AV)(b:Nat)(h1:Aa)(x:OE):R:=
 match x with
 |some (.ret _,es)=>rnX O P n k t b (Ar h1 es) ((Ar h1 es)[b]?)
 |_=>none
def rnC(O:Ez)(h1:Aa)(b:Nat)(fv:Option AV):OE:=
 match fv with
 |some (.func (.func g) a c)=>cr (Ge O (hf h1) h1.length (Xv g (a++[.yl b]++c)) (a++[.yl b]++c))
 |_=>none
theorem asM(n:Nat)(k:List Ai)(t:List AV)(b:Nat)(h1:Aa)(x:Option Kr):
 (x.bind fun d=>match d.out with
   | .ret _=>
     let h2:=Ar h1 d.es
     match h2[b]? with
     |some (.lp _ _ _ _ .ready)=>Cd (Cj O P n) k .normal ⟨t,h2.set b .dead⟩
     |some (.lp _ _ _ _ (.done .ret))=>Cd (Cj O P n) k .ret ⟨t,h2.set b .dead⟩
     |some (.lp _ _ _ _ (.done (.exit i)))=>Cd (Cj O P n) k (.exit i) ⟨t,h2.set b .dead⟩
     |_=>none
   | .pan _=>none)=rnE O P n k t b h1 (cr x):=by
 cases x with
 |none=>rfl
 |some d=>
  obtain⟨o,es,fs⟩:=d
  cases o<;>rfl
theorem apH(n:Nat)(f:Operand)(ps:Array Nat)(asg body:Code)(k:List Ai)(t:List AV)(h:Aa):
 Cj O P (n+1) (.rangeFunc f ps asg body) k ⟨t,h⟩=rnE O P n k t h.length (h++[.lp ps.toList asg body t .ready]) (rnC O (h++[.lp ps.toList asg body t .ready]) h.length (Ah t f)):=by
 simp only[Cj,rnC]
 cases Ah t f with
 |none=>rfl
 |some v=>
  simp only[acY]
  cases v with
  |func fn a c=>
   cases fn with
   |func g=>exact asM n k t h.length _ _
   |_=>rfl
  |_=>rfl
theorem arK(h1:Aa)(b g:Nat)(a c:List AV):rnC O h1 b (some (.func (.func g) a c))=if mU (a++[.yl b]++c)=true then shC O h1 g (a++[.yl b]++c)else cr (Du O (hf h1) h1.length (.fn g) (a++[.yl b]++c)):=ad5 h1 g _
theorem ajI(n:Nat)(k:List Ai)(t:List AV)(b:Nat)(h1:Aa)(v:AV)(es:List Ad):rnE O P n k t b h1 (some (.ret v,es))=rnX O P n k t b (Ar h1 es) ((Ar h1 es)[b]?):=abL rfl rfl
theorem ab6(n:Nat)(k:List Ai)(t:List AV)(b:Nat)(h2:Aa)(ps:List Nat)(asg body:Code)(tm:List AV):rnX O P n k t b h2 (some (.lp ps asg body tm .ready))=Cd (Cj O P n) k .normal ⟨t,h2.set b .dead⟩:=abL rfl rfl
def slK(h:Aa)(b:Nat)(ok:Px→Bool)(st:Px)(x:Option CB):Option Aa:=
 match x with
 |some (.lp ps asg body tmps st')=>if ok st' then some (h.set b (.lp ps asg body tmps st))else none
 |_=>none
theorem auI(h:Aa)(b:Nat)(ok:Px→Bool)(st:Px):Qa h b ok st=slK h b ok st (h[b]?):=by
 unfold Qa slK
 cases h[b]? with
 |none=>rfl
 |some c=>cases c<;>rfl
theorem af1(h:Aa)(b:Nat)(st:Px)(ps:List Nat)(asg body:Code)(tm:List AV):slK h b Px.isReady st (some (.lp ps asg body tm .ready))=some (h.set b (.lp ps asg body tm st)):=abL rfl rfl
theorem alF(h:Aa)(b:Nat)(st:Px)(ps:List Nat)(asg body:Code)(tm:List AV):slK h b Px.isBusy st (some (.lp ps asg body tm .busy))=some (h.set b (.lp ps asg body tm st)):=abL rfl rfl
def amZ(O:Ez)(P:Program)(body:Code)(t:List AV)(x:Option Aa):R:=
 match x with
 |some h1=>Cj O P 5000 body [] ⟨t,h1⟩
 |none=>none
def ag5(O:Ez)(P:Program)(b:Nat)(body:Code)(x:R):R:=
 match x with
 |some (.normal,s)=>amZ O P body s.tmps (Qa s.h b Px.isReady .busy)
 |_=>none
def sJ(r:Bool)(x:Option Aa):Option (Dx × Aa):=x.map fun h2=>(.ret (.bool r),h2)
def abP(b:Nat)(x:R):Option (Dx × Aa):=
 match x with
 |some (.normal,s)=>sJ true (Qa s.h b Px.isBusy .ready)
 |some (.ret,s)=>sJ false (Qa s.h b Px.isBusy (.done .ret))
 |some (.exit i,s)=>sJ false (Qa s.h b Px.isBusy (.done (.exit i)))
 |_=>none
theorem aa5(body:Code)(t:List AV)(h:Aa):amZ O P body t (some h)=Cj O P 5000 body [] ⟨t,h⟩:=abL rfl rfl
theorem rQ(b:Nat)(body:Code)(t:List AV)(h:Aa):ag5 O P b body (some (.normal,⟨t,h⟩))=amZ O P body t (Qa h b Px.isReady .busy):=abL rfl rfl
theorem aa8(r:Bool)(h:Aa):sJ r (some h)=some (.ret (.bool r),h):=abL rfl rfl
theorem ahR{vs:List AV}{b:Nat}{h:Aa}{ps:List Nat}{asg body:Code}{tm:List AV}{st:Px}(hb:h[b]?=some (.lp ps asg body tm st))(hl:ps.length=vs.length):
 Nh O P (vs++[.yl b]) h=abP b (ag5 O P b body (Cj O P 5000 asg [] ⟨Rj tm ps vs,h⟩)):=by
 unfold Nh
 simp only[List.reverse_append,List.reverse_cons,List.reverse_nil,aiT,List.cons_append,List.reverse_reverse,List.length_reverse,hb,hl,if_true,Mc]
 cases Cj O P 5000 asg [] ⟨Rj tm ps vs,h⟩with
 |none=>rfl
 |some x=>
  obtain⟨e,s⟩:=x
  cases e with
  |normal=>
   simp only[acY,ag5]
   cases Qa s.h b Px.isReady .busy with
   |none=>rfl
   |some h1=>
    simp only[acY,amZ]
    cases Cj O P 5000 body [] ⟨s.tmps,h1⟩with
    |none=>rfl
    |some y=>
     obtain⟨e,s⟩:=y
     cases e with
     |normal=>simp only[acY,Pl,abP,sJ];cases Qa s.h b Px.isBusy .ready<;>rfl
     |ret=>simp only[acY,Pl,abP,sJ];cases Qa s.h b Px.isBusy (.done .ret)<;>rfl
     |exit i=>simp only[acY,Pl,abP,sJ];cases Qa s.h b Px.isBusy (.done (.exit i))<;>rfl
     |pan v=>rfl
  |_=>rfl
def RnE(b:Nat)(Q:Dx→Aa→Prop)(x:R):Prop:=∃o h',abP b x=some (o,h')∧Q o h'
def RnQ(O:Ez)(args:List AV)(h:Aa)(Q:Dx→Aa→Prop):Prop:=∃o h',O.call .round args h=some (o,h')∧Q o h'
theorem RnQ.start{vs:List AV}{b:Nat}{h:Aa}{ps:List Nat}{asg body:Code}{tm:List AV}{st:Px}{Q:Dx→Aa→Prop}(hb:h[b]?=some (.lp ps asg body tm st))(hl:ps.length=vs.length)
 (he:RnE b Q (ag5 (om P pr) P b body (Cj (om P pr) P 5000 asg [] ⟨Rj tm ps vs,h⟩))):RnQ (om P pr) (vs++[.yl b]) h Q:=by
 obtain⟨o,h',e,q⟩:=he
 exact⟨o,h',uC ((ahR hb hl).trans e),q⟩
theorem Xn{C:R→Prop}{n f b:Nat}{k:List Ai}{t:List AV}{h1 h2:Aa}{args:List AV}{Q:Dx→Aa→Prop}(hq:ShQ O f args h2 Q)(hk:∀o h',Q o h'→C (rnE O P n k t b h1 (shK h1 (some (o,h'))))):C (rnE O P n k t b h1 (shK h1 (O.call (.sh f) args h2))):=by
 obtain⟨o,h',e,q⟩:=hq
 rw[e];exact hk o h' q
theorem ab3(b:Nat)(Q:Dx→Aa→Prop)(t:List AV)(h:Aa):RnE b Q (some (.normal,⟨t,h⟩))=∃o h',sJ true (Qa h b Px.isBusy .ready)=some (o,h')∧Q o h':=abL rfl rfl
theorem akL(h:Aa)(f:Nat)(args:List AV):ajG O h f args=if(iS args||O.md f)=true then some [.all]else ftR h args:=abL rfl rfl
theorem aeL{b:Nat}{Q:Dx→Aa→Prop}:¬RnE b Q none:=fun⟨_,_,h,_⟩=>by simp[abP]at h
theorem amX(n:Nat)(t:Tm)(p:Nat)(ps:List Nat)(v:AV)(vs:List AV):Rj (mk n t) (p::ps) (v::vs)=Rj (mk n (up t p v)) ps vs:=by
 simp only[Rj,ah2]
theorem aq2(n:Nat)(t:Tm)(vs:List AV):Rj (mk n t) [] vs=mk n t:=by cases vs<;>rfl
end
def uN(f:Nat→Nat):Dm→Dm
 | .cells b o n=>.cells (f b) o n
 | .blk b=>.blk (f b)
 | .all=>.all
def lgF(f:Nat→Nat)(log:Wz):List (List Dm × List Dm):=log.map fun x=>(x.1.map fun e=>uN f e.foot,x.2.map (uN f))
def vF(x y:List Dm × List Dm):Bool:=x.1.any (fun f=>(y.1++y.2).any f.meets)||y.1.any (fun f=>x.2.any f.meets)
def ae2(ops:List Oper)(lg:List (List Dm × List Dm)):Bool:=
 (eZ ops).all fun(i,j)=>match lg[i]?,lg[j]? with
   |some x,some y=> !vF x y
   |_,_=>false
def Zx(n q:Nat)(b:Nat):Nat:=if b<q then b else b-n+1000
theorem Eo{n q b:Nat}(h:b<q):Zx n q b=b:=by simp[Zx,h]
theorem Es{n q k:Nat}(h:q≤k):Zx n q (n+k)=k+1000:=by
 unfold Zx
 rw[if_neg (by omega)]
 omega
theorem rH(f:Nat→Nat)(x y:Dm)(h:x.meets y=true):(uN f x).meets (uN f y)=true:=by
 cases x<;>cases y<;>simp_all[Dm.meets,uN]
theorem aeK(f:Nat→Nat)(x y:List Ad × List Dm)(h:Qb x y=true):vF (x.1.map fun e=>uN f e.foot,x.2.map (uN f)) (y.1.map fun e=>uN f e.foot,y.2.map (uN f))=true:=by
 simp only[Qb,vF,Bool.or_eq_true,List.any_eq_true,acZ,List.mem_map]at h ⊢
 rcases h with⟨a,⟨e,he,rfl⟩,b,hb,hm⟩|⟨a,⟨e,he,rfl⟩,b,hb,hm⟩
 ·refine .inl ⟨_,⟨e,he,rfl⟩,uN f b,?_,rH f _ _ hm⟩
  rcases hb with⟨e',he',rfl⟩|hb
  ·exact .inl ⟨e',he',rfl⟩
  ·exact .inr ⟨b,hb,rfl⟩
 ·exact .inr ⟨_,⟨e,he,rfl⟩,uN f b,⟨b,hb,rfl⟩,rH f _ _ hm⟩
theorem ajN(f:Nat→Nat){ops:List Oper}{log:Wz}(h:ae2 ops (lgF f log)=true):Et ops log=true:=by
 simp only[ae2,Et,List.all_eq_true]at h ⊢
 rintro⟨i,j⟩ hij
 have:=h (i,j) hij
 simp only[lgF,List.getElem?_map]at this ⊢
 cases hi:log[i]? with
 |none=>simp[hi]at this
 |some x=>
  cases hj:log[j]? with
  |none=>simp[hi,hj]at this
  |some y=>
   simp only[hi,hj,adA,Bool.not_eq_true',Bool.not_eq_eq_eq_not]at this ⊢
   cases hc:Qb x y with
   |false=>rfl
   |true=>rw[aeK f x y hc]at this;cases this
theorem Gy(n q:Nat){C:R→Prop}{ops:List Oper}{log:Wz}{k:R}(hb:ae2 ops (lgF (Zx n q) log)=true)(h:True→C k):C (He (Et ops log) k):=arV (ajN _ hb) h
theorem Hg(f:Nat→Nat):lgF f []=[]:=abL rfl rfl
theorem Ep(f:Nat→Nat)(x:List Ad)(y:List Dm)(l:Wz):lgF f ((x,y)::l)=(x.map (fun e=>uN f e.foot),y.map (uN f))::lgF f l:=abL rfl rfl
theorem Dq(f:Nat→Nat)(b o n:Nat):uN f (.cells b o n)=.cells (f b) o n:=abL rfl rfl
theorem Hi(f:Nat→Nat)(b:Nat):uN f (.blk b)=.blk (f b):=abL rfl rfl
theorem Hh(f:Nat→Nat):uN f .all=.all:=abL rfl rfl
theorem Hf(b:Nat)(c:CB):Ad.foot (.new b c)=.blk b:=abL rfl rfl
theorem Ha(b:Nat)(c:CB):Ad.foot (.put b c)=.blk b:=abL rfl rfl
theorem Dp(b r o:Nat)(vs:List AV):Ad.foot (.cells b r o vs)=.cells b o vs.length:=abL rfl rfl
section
variable {P:Program} {O:Ez}
theorem ag1(t:List AV)(h:Aa)(ty:TypeId)(x i:Operand):Eg O P t h (.index ty x i)=r1 ((Ah t x).bind fun x=>(Ah t i).bind fun i=>jY P ty x i):=by
 rw[Dk _ _ _ rfl]
 simp only[exec]
 cases Ah t x with
 |none=>rfl
 |some a=>
  cases Ah t i with
  |none=>rfl
  |some b=>exact Gq _
end
def EVs:=PLift.up (aaF @apH (aaF @arK (aaF @ajI (aaF @ab6 (aaF @auI (aaF @af1 (aaF @alF (aaF @aa5 (aaF @rQ (aaF @aa8 (aaF @ab3 (aaF @amX (aaF @akL (aaF @ag1 @aq2))))))))))))))
set_option maxRecDepth 100000
def EVZ:=PLift.up (aaF EVa.down (aaF EVb.down (aaF EVc.down (aaF EVd.down (aaF EVe.down (aaF EVf.down (aaF EVg.down (aaF EVh.down (aaF EVi.down (aaF EVj.down (aaF EVk.down (aaF EVl.down (aaF EVm.down (aaF EVn.down (aaF EVo.down (aaF EVp.down EVq.down))))))))))))))))
section
variable {P:Program} {O:Ez}
class NoN(C:R→Prop):Prop where
 no:¬C none
instance{q:Nat}{rs:List ResultVar}{Q:Dx→Aa→Prop}:NoN (FnE P q rs Q):=⟨ahV⟩
instance{rs:List ResultVar}{Q:Dx→Aa→Prop}:NoN (FnS P rs Q):=⟨aiY⟩
instance{N:Nat}{J:Tm→Aa→Prop}{Q:Ex→St→Prop}:NoN (oV N J Q):=⟨ah0⟩
instance{b:Nat}{Q:Dx→Aa→Prop}:NoN (RnE b Q):=⟨aeL⟩
end
section
variable {P:Program} {O:Ez}
class Spl(r:R)(b:outParam Bool)(x y:outParam R):Prop where
 sp:∀{C:R→Prop},(b=true→C x)→(b=false→C y)→C r
instance{n:Nat}{k:List Ai}{d:Option Nat}{op:Op}{cs:List CO}{b w:Bool}{t:List AV}{h:Aa}:Spl (rcG O P n k d op cs (.bool b) w t h) b (rcG O P n k d op cs (.bool true) w t h) (rcG O P n k d op cs (.bool false) w t h):=⟨asV⟩
instance{n:Nat}{x y:Code}{k:List Ai}{g:Bool}{s:St}:Spl (cdK O P n x y k (some (.bool g)) s) g (Cj O P n x k s) (Cj O P n y k s):=⟨atX⟩
instance{n:Nat}{k:List Ai}{d:Option Nat}{op:Op}{cs:List CO}{b w:Bool}{t:List AV}{h:Aa}:Spl (rqG O P n k d op cs (.bool b) w t h) b (rqG O P n k d op cs (.bool true) w t h) (rqG O P n k d op cs (.bool false) w t h):=⟨avK⟩
instance{n:Nat}{k:List Ai}{d:Option Nat}{op:Op}{cs:List CO}{b w:Bool}{t:List AV}{h:Aa}:Spl (rwG O P n k d op cs (.bool b) w t h) b (rwG O P n k d op cs (.bool true) w t h) (rwG O P n k d op cs (.bool false) w t h):=⟨atQ⟩
instance{n:Nat}{k:List Ai}{ops:List Oper}{d:Option Nat}{op:Op}{cs:List CO}{b w:Bool}{t:List AV}{h:Aa}{log:Wz}:Spl (rlG O P n k ops d op cs (.bool b) w t h log) b (rlG O P n k ops d op cs (.bool true) w t h log) (rlG O P n k ops d op cs (.bool false) w t h log):=⟨avN⟩
theorem Aj{C:R→Prop}{r x y:R}{b:Bool}(h1:b=true→C x)(h2:b=false→C y)(s:Spl r b x y:=by infer_instance):C r:=s.sp h1 h2
class Drw(i:Nat)(r:R)(c:outParam Bool)(r':outParam R):Prop where
 dr:∀{C:R→Prop},¬C none→c=true→C r'→C r
instance{b:Bool}{k:R}:Drw 0 (He b k) b k:=⟨fun _=>anQ⟩
instance{n id:Nat}{ops:Array Oper}{k:List Ai}{t:List AV}{h:Aa}:Drw 1 (Cj O P (n+1) (.region id ops true) k ⟨t,h⟩) (Ol ops.toList&&yM ops.toList) (rw O P n k (ops.toList.map (Ia ops.toList)) t h):=⟨fun h=>auW h⟩
instance{n id:Nat}{ops:Array Oper}{k:List Ai}{t:List AV}{h:Aa}:Drw 2 (Cj O P (n+1) (.region id ops true) k ⟨t,h⟩) (Ol ops.toList&&auQ ops.toList) (rq O P n k (ops.toList.map (Ia ops.toList)) t h):=⟨fun h=>asQ h⟩
instance{n id:Nat}{ops:Array Oper}{k:List Ai}{t:List AV}{h:Aa}:Drw 3 (Cj O P (n+1) (.region id ops true) k ⟨t,h⟩) (Ol ops.toList) (rl O P n k ops.toList (ops.toList.map (Ia ops.toList)) t h []):=⟨fun h=>avF h⟩
structure Dw(r r':R):Prop where
 dr:∀{C:R→Prop},¬C none→C r'→C r
theorem dg{r r':R}{c:Bool}[d:Drw 0 r c r'](h:c=true:=by kernel_rfl):Dw r r':=⟨fun n k=>d.dr n h k⟩
theorem dw(i:Nat){r r':R}{c:Bool}[d:Drw i r c r'](h:c=true:=by decide+kernel):Dw r r':=⟨fun n k=>d.dr n h k⟩
theorem fd{C:R→Prop}{r r':R}[n:NoN C](k:C r')(e:Dw r r':=by first|exact dg|exact dw 1|exact dw 2|exact dw 3):C r:=e.dr n.no k
theorem fdl{C:R→Prop}{r r':R}[n:NoN C](k:C r')(e:Dw r r':=by first|exact dg|exact dw 1|exact dw 3):C r:=e.dr n.no k
theorem lM{C:R→Prop}{r r':R}[n:NoN C](k:C r')(e:Dw r r':=by first|exact dw 1|exact dw 2|exact dw 3):C r:=e.dr n.no k
end
section
variable {P:Program} {O:Ez}
def Un(O:Ez)(P:Program)(n:Nat)(k:List Ai)(c:Code)(C:R→Prop):R→Prop
 |some (.normal,s)=>C (lpK O P n k (O.loop c s))
 |some (e,s)=>C (Cd (Cj O P n) k e s)
 |none=>False
theorem zS(n:Nat)(k:List Ai)(c:Code)(C:R→Prop)(s:St):Un O P n k c C (some (.normal,s))=C (lpK O P n k (O.loop c s)):=abL rfl rfl
theorem ajR(n:Nat)(k:List Ai)(c:Code)(C:R→Prop)(i:Nat)(s:St):Un O P n k c C (some (.exit i,s))=C (Cd (Cj O P n) k (.exit i) s):=abL rfl rfl
instance{n:Nat}{k:List Ai}{c:Code}{C:R→Prop}:NoN (Un O P n k c C):=⟨fun h=>h⟩
theorem atJ{pr:Oe}{C:R→Prop}[N:NoN C]{n:Nat}{k:List Ai}{c:Code}{s:St}(h:Un (om P pr) P n k c C (Cj (om P pr) P 5000 c [] s)):C (lpK (om P pr) P n k ((om P pr).loop c s)):=by
 cases hm:Cj (om P pr) P 5000 c [] s with
 |none=>rw[hm]at h;exact h.elim
 |some x=>
  obtain⟨e,s'⟩:=x
  rw[hm]at h
  cases e with
  |normal=>
   replace h:C (lpK (om P pr) P n k ((om P pr).loop c s')):=h
   cases hl:(om P pr).loop c s' with
   |none=>rw[hl]at h;exact(N.no h).elim
   |some y=>
    obtain⟨e,s''⟩:=y
    rw[hl]at h
    rw[Vu hm hl];exact h
  |exit i=>rw[Hu hm (by simp)];exact h
  |ret=>rw[Hu hm (by simp)];exact h
  |pan v=>rw[Hu hm (by simp)];exact h
end
theorem agD:IntKind.i64.wrap 1=1:=abL rfl rfl
def EE:=PLift.up (aaF EVZ.down (aaF @agD (aaF @zS (aaF @ajR (aaF @Ia.eq_1 (aaF @Ah.eq_1 (aaF @Ah.eq_2 (aaF @Ah.eq_4 (aaF @Bv.eq_1 (aaF @Bv.eq_2 (aaF @mV.eq_3 (aaF @eJ.eq_1 (aaF @eJ.eq_2 (aaF @eJ.eq_5 (aaF @Ar.eq_1 (aaF @Ar.eq_2 (aaF @Bw.eq_1 (aaF @Bw.eq_2 (aaF @Bw.eq_3 (aaF @Jz.eq_1 (aaF @Cm.eq_1 (aaF @bsK.eq_1 (aaF @Qw.eq_1 (aaF @Qw.eq_2 (aaF @decide_true @decide_false)))))))))))))))))))))))))
def EF:=PLift.up (aaF EE.down EVr.down)
def EG:=PLift.up (aaF EF.down EVs.down)
def On(m:List Nat)(F:Nat→Option Nat):Prop:=∀i b,m[i]?=some b→F i=some b
theorem On.mono{m m':List Nat}{F:Nat→Option Nat}(h:On m' F)(hp:m <+:m'):On m F:=fun _ _ hi=>h _ _ (Or hp hi)
structure Gd(m m' R:List Nat):Prop where
 pre:m <+:m'
 nd:m.Nodup→m'.Nodup
 sub:∀b∈m',b∈m∨b∈R
theorem Gd.refl(m R:List Nat):Gd m m R:=⟨ai5 _,id,fun _ h=>.inl h⟩
theorem Gd.trans{m m1 m2 R1 R2 R:List Nat}(h1:Gd m m1 R1)(h2:Gd m1 m2 R2)(k1:∀b∈R1,b∈R)(k2:∀b∈R2,b∈R):Gd m m2 R:=
 ⟨h1.pre.trans h2.pre,fun h=>h2.nd (h1.nd h),fun b hb=>(h2.sub b hb).elim (fun h=>(h1.sub b h).imp id (k1 b)) (fun h=>.inr (k2 b h))⟩
theorem afR(m:List Nat)(b:Nat){R:List Nat}(hb:b∈R):Gd m (place m b).2 R:=by
 refine⟨(Og m b).2.1,(Og m b).2.2,fun x hx=>?_⟩
 unfold place at hx
 split at hx
 ·exact .inl hx
 ·rcases acZ.1 hx with h|h
  ·exact .inl h
  ·simp at h;subst h;exact .inr hb
def Sp(e:Nat)(x:AV)(R:List Nat):Prop:=∀m,∃x' m',Dv e m x=some (x',m')∧Gd m m' R∧∀F,On m' F→Gi e F x'=some x
def SpL(e:Nat)(l:List AV)(R:List Nat):Prop:=∀m,∃l' m',Dv.refL (Dv e) m l=some (l',m')∧Gd m m' R∧∀F,On m' F→As (Gi e F) l'=some l
def SpR(l:List (List AV))(R:List Nat):Prop:=∀m,∃l' m',Jd m l=some (l',m')∧Gd m m' R∧∀F,On m' F→As (As (Gi 8 F)) l'=some l
theorem spL{f:AV→Option (AV × List Nat)}{e:Nat}:∀{l:List AV} {p:List AV × List Nat},Nc f l=some p→(∀x∈l,∀q,f x=some q→Sp e x q.2)→SpL e l p.2
 | [],p,h,_=>fun m=>⟨[],m,rfl,Gd.refl _ _,fun _ _=>rfl⟩
 |a::l,p,h,hf=>fun m=>by
  simp only[Nc,aaV,aaR]at h
  obtain⟨q,hq,r,hr,rfl⟩:=h
  obtain⟨x',m1,e1,g1,k1⟩:=hf a (acK ..) q hq m
  obtain⟨l',m2,e2,g2,k2⟩:=spL hr (fun x hx=>hf x (abT _ hx)) m1
  refine⟨x'::l',m2,by simp[Dv.refL,e1,e2],g1.trans g2 (fun _ h=>ac2 _ h) (fun _ h=>ac3 _ h),fun F hF=>?_⟩
  simp[As,k1 F (hF.mono g2.pre),k2 F hF]
theorem spR{f:AV→Option (AV × List Nat)}:∀{l:List (List AV)} {p:List (List AV) × List Nat},Bt f l=some p→(∀r∈l,∀x∈r,∀q,f x=some q→Sp 8 x q.2)→SpR l p.2
 | [],p,h,_=>fun m=>⟨[],m,rfl,Gd.refl _ _,fun _ _=>rfl⟩
 |a::l,p,h,hf=>fun m=>by
  simp only[Bt,aaV,aaR]at h
  obtain⟨q,hq,r,hr,rfl⟩:=h
  obtain⟨x',m1,e1,g1,k1⟩:=spL hq (hf a (acK ..)) m
  obtain⟨l',m2,e2,g2,k2⟩:=spR hr (fun x hx=>hf x (abT _ hx)) m1
  refine⟨x'::l',m2,by simp[Jd,e1,e2],g1.trans g2 (fun _ h=>ac2 _ h) (fun _ h=>ac3 _ h),fun F hF=>?_⟩
  simp[As,k1 F (hF.mono g2.pre),k2 F hF]
theorem sp{g:HF}:∀{d e:Nat} {v:AV} {p:AV × List Nat},d≤e→rd d g v=some p→Sp e v p.2
 |0,e,v,p,_,h=>by simp[rd]at h
 |d+1,0,v,p,he,h=>by omega
 |d+1,e+1,v,p,he,h=>by
  have IH:∀x q,rd d g x=some q→Sp e x q.2:=fun x q hx=>sp (by omega) hx
  intro m
  cases v with
  |slr st b r len=>
   simp only[rd,aaV]at h
   obtain⟨z,_,h⟩:=h
   split at h
   ·have hb:b∈p.2:=by
     cases hfl:z.2.1 with
     |true=>rw[hfl]at h;simp at h;rw[←h];simp
     |false=>rw[hfl]at h;simp only[cond_false,aaR]at h;obtain⟨q,_,rfl⟩:=h;simp
    exact⟨_,_,rfl,afR m b hb,fun F hF=>by simp[Gi,hF _ _ (Og m b).1]⟩
   ·cases h
  |agg cs=>
   simp only[rd,aaR]at h
   obtain⟨q,hq,rfl⟩:=h
   obtain⟨l',m1,e1,g1,k1⟩:=spL hq (fun x _=>IH x) m
   exact⟨.agg l',m1,by simp[Dv,e1],g1,fun F hF=>by simp[Gi,k1 F hF]⟩
  |iface t x=>
   simp only[rd,aaR]at h
   obtain⟨q,hq,rfl⟩:=h
   obtain⟨l',m1,e1,g1,k1⟩:=IH x q hq m
   exact⟨.iface t l',m1,by simp[Dv,e1],g1,fun F hF=>by simp[Gi,k1 F hF]⟩
  |func fn a b=>
   cases a with
   |cons=>simp[rd]at h
   |nil=>
    cases b with
    |cons=>simp[rd]at h
    |nil=>exact⟨_,m,rfl,Gd.refl _ _,fun _ _=>rfl⟩
  |ptr b r o=>simp[rd]at h
  |tup cs=>simp[rd]at h
  |yl b=>simp[rd]at h
  |imm=>simp[rd]at h
  |iptr=>simp[rd]at h
  |_=>exact⟨_,m,rfl,Gd.refl _ _,fun _ _=>rfl⟩
def Cl(g:HF)(S:List Nat):Prop:=∀b∈S,∃z,(g b).bind Da=some z∧(z.2.1=false→∃d q,d≤8∧Bt (rd d g) z.2.2=some q∧∀x∈q.2,x∈S)
theorem Cl.nil(g:HF):Cl g []:=fun _ h=>by cases h
theorem Cl.app{g:HF}{S T:List Nat}(h1:Cl g S)(h2:Cl g T):Cl g (S++T):=fun b hb=>by
 rcases acZ.1 hb with h|h
 ·obtain⟨z,k1,k2⟩:=h1 b h
  exact⟨z,k1,fun e=>by obtain⟨d,q,a1,a2,a3⟩:=k2 e;exact⟨d,q,a1,a2,fun x hx=>ac2 _ (a3 x hx)⟩⟩
 ·obtain⟨z,k1,k2⟩:=h2 b h
  exact⟨z,k1,fun e=>by obtain⟨d,q,a1,a2,a3⟩:=k2 e;exact⟨d,q,a1,a2,fun x hx=>ac3 _ (a3 x hx)⟩⟩
theorem clL{g:HF}{f:AV→Option (AV × List Nat)}:∀{l:List AV} {p:List AV × List Nat},Nc f l=some p→(∀x∈l,∀q,f x=some q→Cl g q.2)→Cl g p.2
 | [],p,h,_=>by simp[Nc]at h;subst h;exact Cl.nil g
 |a::l,p,h,hf=>by
  simp only[Nc,aaV,aaR]at h
  obtain⟨q,hq,r,hr,rfl⟩:=h
  exact(hf a (acK ..) q hq).app (clL hr fun x hx=>hf x (abT _ hx))
theorem clR{g:HF}{f:AV→Option (AV × List Nat)}:∀{l:List (List AV)} {p:List (List AV) × List Nat},Bt f l=some p→(∀r∈l,∀x∈r,∀q,f x=some q→Cl g q.2)→Cl g p.2
 | [],p,h,_=>by simp[Bt]at h;subst h;exact Cl.nil g
 |a::l,p,h,hf=>by
  simp only[Bt,aaV,aaR]at h
  obtain⟨q,hq,r,hr,rfl⟩:=h
  exact(clL hq (hf a (acK ..))).app (clR hr fun x hx=>hf x (abT _ hx))
theorem zI{g:HF}:∀{d:Nat} {v:AV} {p:AV × List Nat},d≤9→rd d g v=some p→Cl g p.2
 |0,v,p,_,h=>by simp[rd]at h
 |d+1,v,p,hd,h=>by
  have IH:∀x q,rd d g x=some q→Cl g q.2:=fun x q hx=>zI (by omega) hx
  cases v with
  |slr st b r len=>
   simp only[rd,aaV]at h
   obtain⟨z,hz,h⟩:=h
   have hz':(g b).bind Da=some z:=aaV.2 hz
   split at h
   ·cases hfl:z.2.1 with
    |true=>
     rw[hfl]at h;simp at h;rw[←h]
     intro b' hb'
     simp at hb';subst hb'
     exact⟨z,hz',fun e=>by rw[hfl]at e;cases e⟩
    |false=>
     rw[hfl]at h;simp only[cond_false,aaR]at h
     obtain⟨q,hq,rfl⟩:=h
     intro b' hb'
     rcases ac4.1 hb' with rfl|hb'
     ·exact⟨z,hz',fun _=>⟨d,q,by omega,hq,fun x hx=>abT _ hx⟩⟩
     ·obtain⟨z',k1,k2⟩:=clR hq (fun r _ x _=>IH x) b' hb'
      exact⟨z',k1,fun e=>by obtain⟨d',q',a1,a2,a3⟩:=k2 e;exact⟨d',q',a1,a2,fun x hx=>abT _ (a3 x hx)⟩⟩
   ·cases h
  |agg cs=>
   simp only[rd,aaR]at h
   obtain⟨q,hq,rfl⟩:=h
   exact clL hq fun x _=>IH x
  |iface t x=>
   simp only[rd,aaR]at h
   obtain⟨q,hq,rfl⟩:=h
   exact IH x q hq
  |func fn a b=>
   cases a<;>cases b<;>first|(simp[rd]at h;subst h;exact Cl.nil g)|(simp[rd]at h)
  |_=>first|(simp[rd]at h;subst h;exact Cl.nil g)|(simp[rd]at h)
theorem eE{F:Nat→Option Nat}(f:Nat→Nat):∀{e:Nat} {x' x:AV},Gi e F x'=some x→∃y,Ce e f x'=some y
 |0,x',x,h=>by simp[Gi]at h
 |e+1,x',x,h=>by
  have L:∀{l l1:List AV},As (Gi e F) l=some l1→∃y,As (Ce e f) l=some y:=fun {l}=>by
   induction l with
   |nil=>exact fun _=>⟨[],rfl⟩
   |cons a l ih=>
    intro l1 h
    simp only[As,aaV,aaR]at h
    obtain⟨b,hb,c,hc,_⟩:=h
    obtain⟨y,hy⟩:=eE f hb
    obtain⟨ys,hys⟩:=ih hc
    exact⟨y::ys,by simp[As,hy,hys]⟩
  cases x' with
  |agg cs=>simp only[Gi,aaR]at h;obtain⟨_,h,_⟩:=h;obtain⟨y,hy⟩:=L h;exact⟨.agg y,by simp[Ce,hy]⟩
  |tup cs=>simp only[Gi,aaR]at h;obtain⟨_,h,_⟩:=h;obtain⟨y,hy⟩:=L h;exact⟨.tup y,by simp[Ce,hy]⟩
  |iface t x=>simp only[Gi,aaR]at h;obtain⟨_,h,_⟩:=h;obtain⟨y,hy⟩:=eE f h;exact⟨.iface t y,by simp[Ce,hy]⟩
  |func fn a b=>
   simp only[Gi,aaV,aaR]at h
   obtain⟨_,h1,_,h2,_⟩:=h
   obtain⟨y,hy⟩:=L h1
   obtain⟨y2,hy2⟩:=L h2
   exact⟨.func fn y y2,by simp[Ce,hy,hy2]⟩
  |_=>exact⟨_,rfl⟩
theorem pI{α β γ:Type}{f:α→Option β}{f':α→Option γ}(H:∀a b,f a=some b→∃c,f' a=some c):∀{l:List α} {r:List β},As f l=some r→∃s,As f' l=some s
 | [],_,_=>⟨[],rfl⟩
 |a::l,r,h=>by
  simp only[As,aaV,aaR]at h
  obtain⟨b,hb,c,hc,_⟩:=h
  obtain⟨y,hy⟩:=H a b hb
  obtain⟨ys,hys⟩:=pI H hc
  exact⟨y::ys,by simp[As,hy,hys]⟩
def Stn(F:Nat→Option Nat)(c':CB)(z:Nat × Bool × List (List AV)):Prop:=
 ∃rows',Da c'=some (z.1,z.2.1,rows')∧(z.2.1=true→rows'=z.2.2)∧(z.2.1=false→As (As (Gi 8 F)) rows'=some z.2.2)
def Rnm(c:CB):Prop:=∀f,∃c',Gn f c=some c'
theorem spB{g:HF}{S:List Nat}(H:Cl g S){b:Nat}(hb:b∈S)(m:List Nat):∃c c' m' z,g b=some c∧Da c=some z∧Yr m c=some (c',m')∧Gd m m' S∧(∀F,On m' F→Stn F c' z)∧Rnm c':=by
 obtain⟨z,hz,hc⟩:=H b hb
 obtain⟨c,k1,k2⟩:=aaV.1 hz
 have R:∀rows,z.2.1=false→rows=z.2.2→∃l' m',Jd m rows=some (l',m')∧Gd m m' S∧∀F,On m' F→As (As (Gi 8 F)) l'=some rows:=fun rows e er=>by
  obtain⟨d,q,a1,a2,a3⟩:=hc e
  obtain⟨l',m',e1,g1,e2⟩:=spR (er▸a2) (fun r _ x _ q hx=>sp a1 hx) m
  exact⟨l',m',e1,⟨g1.pre,g1.nd,fun x hx=>(g1.sub x hx).imp id (a3 x)⟩,e2⟩
 have R2:∀l' rows m',(∀F,On m' F→As (As (Gi 8 F)) l'=some rows)→∀f,∃y,As (As (Ce 8 f)) l'=some y:=fun l' rows m' h f=>
  pI (fun a b hab=>pI (fun a b hab=>eE f hab) hab) (h (fun i=>m'[i]?) (fun _ _ h=>h))
 cases c with
 |live st fl w rows=>
  simp[Da]at k2;subst k2
  cases fl with
  |true=>exact⟨_,_,m,_,k1,rfl,rfl,Gd.refl _ _,fun F _=>⟨rows,rfl,fun _=>rfl,fun e=>by cases e⟩,fun f=>⟨_,rfl⟩⟩
  |false=>
   obtain⟨l',m',e1,g1,e2⟩:=R rows rfl rfl
   refine⟨_,.live st false w l',m',_,k1,rfl,by simp[Yr,e1],g1,fun F hF=>⟨l',rfl,fun e=>(by cases e),fun _=>e2 F hF⟩,fun f=>?_⟩
   obtain⟨y,hy⟩:=R2 l' rows m' e2 f
   exact⟨.live st false w y,by simp[Gn,hy]⟩
 |frz st fl rows=>
  simp[Da]at k2;subst k2
  cases fl with
  |true=>exact⟨_,_,m,_,k1,rfl,rfl,Gd.refl _ _,fun F _=>⟨rows,rfl,fun _=>rfl,fun e=>by cases e⟩,fun f=>⟨_,rfl⟩⟩
  |false=>
   obtain⟨l',m',e1,g1,e2⟩:=R rows rfl rfl
   refine⟨_,.frz st false l',m',_,k1,rfl,by simp[Yr,e1],g1,fun F hF=>⟨l',rfl,fun e=>(by cases e),fun _=>e2 F hF⟩,fun f=>?_⟩
   obtain⟨y,hy⟩:=R2 l' rows m' e2 f
   exact⟨.frz st false y,by simp[Gn,hy]⟩
 |dead=>simp[Da]at k2
 |lp=>simp[Da]at k2
theorem aeV{S:List Nat}:∀{m:List Nat},m.Nodup→(∀b∈m,b∈S)→m.length≤S.length:=by
 induction S with
 |nil=>intro m _ h;cases m with
  |nil=>simp
  |cons a m=>exact absurd (h a (acK ..)) (by simp)
 |cons s S ih=>
  intro m hn h
  have h2:=ih (m:=m.erase s) (hn.erase s) (fun b hb=>by
   have hb':=List.mem_of_mem_erase hb
   rcases ac4.1 (h b hb')with rfl|h'
   ·exact absurd hb (hn.not_mem_erase)
   ·exact h')
  have h3:m.length≤(m.erase s).length+1:=by
   by_cases hs:s∈m
   ·rw[List.length_erase_of_mem hs];omega
   ·rw[List.erase_of_not_mem hs];omega
  simp;omega
theorem spC{g:HF}{S:List Nat}(H:Cl g S):∀(n i:Nat) (m:List Nat),m.Nodup→(∀b∈m,b∈S)→S.length<n+i→i≤m.length→
 ∃cs m',Jh n g i m=some (cs,m')∧m <+:m'∧m'.Nodup∧(∀b∈m',b∈S)∧i+cs.length=m'.length∧(∀c∈cs,Rnm c)∧
  ∀F,On m' F→∀j c',cs[j]?=some c'→∃b z,m'[i+j]?=some b∧(g b).bind Da=some z∧Stn F c' z
 |0,i,m,hn,hs,hl,hi=>by have:=aeV hn hs;omega
 |n+1,i,m,hn,hs,hl,hi=>by
  unfold Jh
  cases hm:m[i]? with
  |none=>
   have:m.length≤i:=List.getElem?_eq_none_iff.1 hm
   exact⟨[],m,rfl,ai5 _,hn,hs,by simp;omega,(fun c hc=>by cases hc),fun F _ j c' hj=>by simp at hj⟩
  |some b=>
   have hlt:=(ac5.1 hm).1
   obtain⟨c,c',m1,z,k1,k2,k3,g1,k4,k5⟩:=spB H (hs b (List.mem_of_getElem? hm)) m
   obtain⟨cs,m',e1,p1,p2,p3,p4,p5,p6⟩:=spC H n (i+1) m1 (g1.nd hn) (fun b hb=>(g1.sub b hb).elim (hs b) id) (by omega) (by have:=g1.pre.length_le;omega)
   refine⟨c'::cs,m',by simp[k1,k3,e1],g1.pre.trans p1,p2,p3,by simp;omega,fun x hx=>?_,fun F hF j x hj=>?_⟩
   ·rcases ac4.1 hx with rfl|hx
    ·exact k5
    ·exact p5 x hx
   ·cases j with
    |zero=>
     simp at hj;subst hj
     exact⟨b,z,Or (g1.pre.trans p1) (by simpa using hm),by rw[k1];exact k2,k4 F (hF.mono p1)⟩
    |succ j=>
     simp at hj
     obtain⟨b',z',a1,a2,a3⟩:=p6 F hF j x hj
     exact⟨b',z',by rw[←a1];congr 1;omega,a2,a3⟩
theorem aqQ{h:Aa}{v:AV}{R:List Nat}(hs:Sp 8 v R)(hc:Cl (hf h) R)(hR:R.length<5000):
 ∃v' cs F,Py 0 v h=some (v',cs)∧aoQ F (hf cs) (hf h)∧Gi 8 F v'=some v∧∀c∈cs,Rnm c:=by
 obtain⟨v',m,e1,g1,k1⟩:=hs []
 have hm:∀b∈m,b∈R:=fun b hb=>(g1.sub b hb).elim (fun h=>by cases h) id
 obtain⟨cs,m',e2,p1,p2,p3,p4,p5,p6⟩:=spC hc 5000 0 m (g1.nd List.nodup_nil) hm (by omega) (Nat.zero_le _)
 refine⟨v',cs,fun i=>m'[i]?,by simp[Py,Ju,Dv.refL,e1,e2,List.range_zero],fun i b hi z hz=>?_,k1 _ (fun _ _ h=>Or p1 h),p5⟩
 have hlt:=(ac5.1 hi).1
 obtain⟨b',z',a1,a2,rows',a3,a4,a5⟩:=p6 (fun i=>m'[i]?) (fun _ _ h=>h) i _ (ai6 (by omega))
 rw[Nat.zero_add]at a1
 have hbb:b=b':=by have hi':m'[i]?=some b:=hi;rw[hi']at a1;cases a1;rfl
 subst hbb
 rw[hz]at a2;cases a2
 exact⟨rows',by show(cs[i]?).bind Da=_;rw[ai6 (by omega)];exact a3,a4,a5⟩
theorem Vk{f:Nat→Nat}{F:Nat→Option Nat}(hF:∀b,F (f b)=some b):∀{e:Nat} {x x1:AV},Ce e f x=some x1→Gi e F x1=some x
 |0,x,x1,h=>by simp[Ce]at h
 |e+1,x,x1,h=>by
  have L:∀{l l1:List AV},As (Ce e f) l=some l1→As (Gi e F) l1=some l:=fun {l}=>by
   induction l with
   |nil=>intro l1 h;simp[As]at h;subst h;rfl
   |cons a l ih=>
    intro l1 h
    simp only[As,aaV,aaR]at h
    obtain⟨b,hb,c,hc,rfl⟩:=h
    simp[As,Vk hF hb,ih hc]
  cases x with
  |agg cs=>simp only[Ce,aaR]at h;obtain⟨_,h,rfl⟩:=h;simp[Gi,L h]
  |tup cs=>simp only[Ce,aaR]at h;obtain⟨_,h,rfl⟩:=h;simp[Gi,L h]
  |iface t x=>simp only[Ce,aaR]at h;obtain⟨_,h,rfl⟩:=h;simp[Gi,Vk hF h]
  |func fn a b=>
   simp only[Ce,aaV,aaR]at h
   obtain⟨_,h1,_,h2,rfl⟩:=h
   simp[Gi,L h1,L h2]
  |_=>simp only[Ce,Option.some.injEq]at h;subst h;simp[Gi,hF]
theorem Vg{α β:Type}{f:α→Option β}{f':β→Option α}(H:∀a b,f a=some b→f' b=some a):∀{l:List α} {r:List β},As f l=some r→As f' r=some l
 | [],r,h=>by simp[As]at h;subst h;rfl
 |a::l,r,h=>by
  simp only[As,aaV,aaR]at h
  obtain⟨b,hb,c,hc,rfl⟩:=h
  simp[As,H a b hb,Vg H hc]
theorem uD{f:Nat→Nat}:∀{cs:List CB} (_:∀c∈cs,Rnm c) (base:Nat),∃ns cs1,Ii f base cs=some ns∧(∀G,Ar G ns=G++cs1)∧As (Gn f) cs=some cs1
 | [],_,base=>⟨[],[],rfl,fun G=>by simp[Ar],rfl⟩
 |c::cs,h,base=>by
  obtain⟨c1,e1⟩:=h c (acK ..) f
  obtain⟨ns,cs1,e2,e3,e4⟩:=uD (f:=f) (cs:=cs) (fun c hc=>h c (abT _ hc)) (base+1)
  exact⟨.new base c1::ns,c1::cs1,by simp[Ii,e1,e2],fun G=>by simp[Ar,Bw,e3],by simp[As,e1,e4]⟩
theorem aiQ{f:Nat→Nat}{F:Nat→Option Nat}(hF:∀b,F (f b)=some b){c c1:CB}(h:Gn f c=some c1){z:Nat × Bool × List (List AV)}(hz:Da c=some z):Stn F c1 z:=by
 cases c with
 |live st fl w rows=>
  simp[Da]at hz;subst hz
  cases fl with
  |true=>simp[Gn]at h;subst h;exact⟨rows,rfl,fun _=>rfl,fun e=>by cases e⟩
  |false=>
   simp only[Gn,aaR]at h
   obtain⟨r,hr,rfl⟩:=h
   exact⟨r,rfl,fun e=>(by cases e),fun _=>Vg (fun a b hab=>Vg (fun a b hab=>Vk hF hab) hab) hr⟩
 |frz st fl rows=>
  simp[Da]at hz;subst hz
  cases fl with
  |true=>simp[Gn]at h;subst h;exact⟨rows,rfl,fun _=>rfl,fun e=>by cases e⟩
  |false=>
   simp only[Gn,aaR]at h
   obtain⟨r,hr,rfl⟩:=h
   exact⟨r,rfl,fun e=>(by cases e),fun _=>Vg (fun a b hab=>Vg (fun a b hab=>Vk hF hab) hab) hr⟩
 |dead=>simp[Da]at hz
 |lp=>simp[Da]at hz
structure Kp(lent:List Nat)(H H1:Aa):Prop where
 len:H.length≤H1.length
 rows:∀b,b<H.length→(hf H1 b).bind Da=(hf H b).bind Da
 same:∀b,b<H.length→b∉lent→H1[b]?=H[b]?
theorem pC{H:Aa}:∀(l:List Nat) (G:Aa),G.length=H.length→(∀b,(hf G b).bind Da=(hf H b).bind Da)→
 (Ar G (Do (hf H) l)).length=H.length∧(∀b,(hf (Ar G (Do (hf H) l)) b).bind Da=(hf H b).bind Da)∧∀b,b∉l→(Ar G (Do (hf H) l))[b]?=G[b]?
 | [],G,h1,h2=>⟨h1,h2,fun _ _=>rfl⟩
 |a::l,G,h1,h2=>by
  unfold Do
  have other:∀b,b∉a::l→b∉l:=fun b hb h=>hb (abT _ h)
  split
  ·rename_i st fl w rows ha
   have hlt:a<G.length:=by rw[h1];exact(ac5.1 ha).1
   obtain⟨k1,k2,k3⟩:=pC (H:=H) l (G.set a (.frz st fl rows)) (by simp[h1]) (fun b=>by
    by_cases hb:a=b
    ·subst hb
     show((G.set a _)[a]?).bind Da=_
     rw[List.getElem?_set_self hlt,ha];rfl
    ·show((G.set a _)[b]?).bind Da=_
     rw[aeG hb];exact h2 b)
   refine⟨k1,k2,fun b hb=>?_⟩
   show(Ar (G.set a _) _)[b]?=_
   rw[k3 b (other b hb),aeG (fun e=>hb (by rw[←e];exact acK ..))]
  ·obtain⟨k1,k2,k3⟩:=pC l G h1 h2
   exact⟨k1,k2,fun b hb=>k3 b (other b hb)⟩
theorem yJ{O:Ez}{H:Aa}{f:Nat}{args vs:List AV}{v:AV}{h':Aa}(hh:mU args=false)(ha:As (eH H) args=some vs)(hp:vs.all (Az 8)=true)
 (hc:O.call (.fn f) vs []=some (.ret v,h')) (h1:∀f,∃y,Ce 8 f v=some y) (h2:∀c∈h',Rnm c):
 ∃v1 es H1 F,cl O H (some (.func (.func f) [] [])) (some args)=some (.ret v1,es)∧Ar H es=H1∧aoQ F (hf H1) (hf h')∧Gi 8 F v1=some v∧Kp (args.flatMap (Av 12 (hf H))) H H1∧∀i b,F i=some b→H.length≤i:=by
 obtain⟨v1,e1⟩:=h1 (fun i=>H.length+i)
 obtain⟨ns,cs1,e2,e3,e4⟩:=uD (f:=fun i=>H.length+i) h2 H.length
 generalize hFF:(fun i=>if H.length≤i then some (i-H.length)else none:Nat→Option Nat)=F
 have hF:∀b,F (H.length+b)=some b:=fun b=>by rw[←hFF];simp
 have key:∃fz:List Ad,cl O H (some (.func (.func f) [] [])) (some args)=some (.ret v1,fz++ns)∧(fz=[]∨fz=Do (hf H) (args.flatMap (Av 12 (hf H)))):=by
  rw[am7,aiT,List.append_nil,if_neg (by rw[hh];simp),anI ha hp,hc]
  refine⟨_,by simp only[crR,acY,Dx.v,e1,e2,adA,Dx.map];rfl,?_⟩
  split
  ·exact .inl rfl
  ·exact .inr rfl
 obtain⟨fz,ec,hfz⟩:=key
 have hK:(Ar H fz).length=H.length∧(∀b,(hf (Ar H fz) b).bind Da=(hf H b).bind Da)∧∀b,b∉args.flatMap (Av 12 (hf H))→(Ar H fz)[b]?=H[b]?:=by
  rcases hfz with rfl|rfl
  ·exact⟨rfl,fun _=>rfl,fun _ _=>rfl⟩
  ·exact pC _ H rfl (fun _=>rfl)
 obtain⟨k1,k2,k3⟩:=hK
 have hap:Ar H (fz++ns)=Ar H fz++cs1:=by rw[Yt,e3]
 refine⟨v1,_,_,F,ec,hap,fun i b hi z hz=>?_,Vk hF e1,⟨by simp[k1],fun b hb=>?_,fun b hb hl=>?_⟩,fun i b hi=>?_⟩
 ·rw[←hFF]at hi;simp only at hi
  split at hi
  ·rename_i hle
   simp only[Option.some.injEq]at hi
   obtain⟨c,hcc,hcz⟩:=aaV.1 hz
   obtain⟨c1,g1,g2⟩:=Ql e4 (show h'[b]?=some c from hcc)
   obtain⟨rows',r1,r2,r3⟩:=aiQ hF g2 hcz
   refine⟨rows',?_,r2,r3⟩
   show((Ar H fz++cs1)[i]?).bind Da=_
   rw[List.getElem?_append_right (by omega),k1,hi,g1]
   exact r1
  ·cases hi
 ·rw[←k2 b]
  show((Ar H fz++cs1)[b]?).bind Da=_
  rw[aeO (by omega)];rfl
 ·rw[aeO (by omega)];exact k3 b hl
 ·rw[←hFF]at hi;simp only at hi
  split at hi
  ·assumption
  ·cases hi
theorem gZ{g:HF}(f:Nat→Nat):∀{d e:Nat} {v:AV} {p:AV × List Nat},d≤e→rd d g v=some p→∃y,Ce e f v=some y
 |0,e,v,p,_,h=>by simp[rd]at h
 |d+1,0,v,p,he,h=>by omega
 |d+1,e+1,v,p,he,h=>by
  have L:∀{l:List AV} {q:List AV × List Nat},Nc (rd d g) l=some q→∃y,As (Ce e f) l=some y:=fun {l}=>by
   induction l with
   |nil=>exact fun _=>⟨[],rfl⟩
   |cons a l ih=>
    intro q h
    simp only[Nc,aaV,aaR]at h
    obtain⟨b,hb,c,hc,_⟩:=h
    obtain⟨y,hy⟩:=gZ f (show d≤e by omega) hb
    obtain⟨ys,hys⟩:=ih hc
    exact⟨y::ys,by simp[As,hy,hys]⟩
  cases v with
  |agg cs=>simp only[rd,aaR]at h;obtain⟨_,h,_⟩:=h;obtain⟨y,hy⟩:=L h;exact⟨.agg y,by simp[Ce,hy]⟩
  |iface t x=>simp only[rd,aaR]at h;obtain⟨_,h,_⟩:=h;obtain⟨y,hy⟩:=gZ f (show d≤e by omega) h;exact⟨.iface t y,by simp[Ce,hy]⟩
  |func fn a b=>
   cases a<;>cases b<;>first|exact⟨_,rfl⟩|(simp[rd]at h)
  |tup cs=>simp[rd]at h
  |_=>exact⟨_,rfl⟩
theorem tV{g:HF}(f:Nat→Nat){d e:Nat}(hd:d≤e):∀{l:List AV} {q:List AV × List Nat},Nc (rd d g) l=some q→∃y,As (Ce e f) l=some y
 | [],q,_=>⟨[],rfl⟩
 |a::l,q,h=>by
  simp only[Nc,aaV,aaR]at h
  obtain⟨b,hb,c,hc,_⟩:=h
  obtain⟨y,hy⟩:=gZ f hd hb
  obtain⟨ys,hys⟩:=tV f hd hc
  exact⟨y::ys,by simp[As,hy,hys]⟩
theorem oO{g:HF}:∀{d e:Nat} {v:AV} {p:AV × List Nat},d≤e→rd d g v=some p→Ib e g v=some p.1
 |0,e,v,p,_,h=>by simp[rd]at h
 |d+1,0,v,p,he,h=>by omega
 |d+1,e+1,v,p,he,h=>by
  cases v with
  |slr st b r len=>exact gW (xJ he h)
  |agg cs=>
   simp only[rd,aaR]at h
   obtain⟨q,hq,rfl⟩:=h
   simp[Ib,cT (f':=Ib e g) hq (fun x _ q' hx=>oO (show d≤e by omega) hx)]
  |iface t x=>
   simp only[rd,aaR]at h
   obtain⟨q,hq,rfl⟩:=h
   simp[Ib,oO (show d≤e by omega) hq]
  |func fn a b=>cases a<;>cases b<;>first|(simp[rd]at h;subst h;rfl)|(simp[rd]at h)
  |_=>first|(simp[rd]at h;subst h;rfl)|(simp[rd]at h)
theorem aiI{f:AV→Option (AV × List Nat)}{f':AV→List Nat}:∀{l:List AV} {p:List AV × List Nat},Nc f l=some p→(∀x∈l,∀q,f x=some q→∀b∈f' x,b∈q.2)→∀b∈l.flatMap f',b∈p.2
 | [],p,h,_=>fun b hb=>by simp at hb
 |a::l,p,h,hf=>fun b hb=>by
  simp only[Nc,aaV,aaR]at h
  obtain⟨q,hq,r,hr,rfl⟩:=h
  rw[ai7]at hb
  rcases acZ.1 hb with hb|hb
  ·exact ac2 _ (hf a (acK ..) q hq b hb)
  ·exact ac3 _ (aiI hr (fun x hx=>hf x (abT _ hx)) b hb)
theorem anD{f:AV→Option (AV × List Nat)}{f':AV→List Nat}:∀{l:List (List AV)} {p:List (List AV) × List Nat},Bt f l=some p→(∀r∈l,∀x∈r,∀q,f x=some q→∀b∈f' x,b∈q.2)→∀b∈l.flatMap (fun cs=>cs.flatMap f'),b∈p.2
 | [],p,h,_=>fun b hb=>by simp at hb
 |a::l,p,h,hf=>fun b hb=>by
  simp only[Bt,aaV,aaR]at h
  obtain⟨q,hq,r,hr,rfl⟩:=h
  rw[ai7]at hb
  rcases acZ.1 hb with hb|hb
  ·exact ac2 _ (aiI hq (hf a (acK ..)) b hb)
  ·exact ac3 _ (anD hr (fun x hx=>hf x (abT _ hx)) b hb)
theorem hZ{g:HF}:∀{e d:Nat} {v:AV} {p:AV × List Nat},rd d g v=some p→∀b∈Av e g v,b∈p.2
 |0,d,v,p,_,b,hb=>by simp[Av]at hb
 |e+1,0,v,p,h,b,hb=>by simp[rd]at h
 |e+1,d+1,v,p,h,b,hb=>by
  cases v with
  |slr st c r len=>
   simp only[rd,aaV]at h
   obtain⟨z,hz,h⟩:=h
   split at h
   ·rename_i hq
    obtain⟨rfl,rfl,rfl⟩:=hq
    simp only[Av,bC (aaV.2 hz)]at hb
    cases hfl:z.2.1 with
    |true=>rw[hfl]at h hb;simp at h hb;rw[←h];simp[hb]
    |false=>
     rw[hfl]at h hb
     simp only[cond_false,aaR]at h
     obtain⟨q,hq',rfl⟩:=h
     rcases ac4.1 hb with rfl|hb
     ·exact acK ..
     ·exact abT _ (anD hq' (fun r _ x _ q' hx b hb=>hZ hx b hb) b (by simpa using hb))
   ·cases h
  |agg cs=>
   simp only[rd,aaR]at h
   obtain⟨q,hq,rfl⟩:=h
   exact aiI hq (fun x _ q' hx b hb=>hZ hx b hb) b hb
  |iface t x=>
   simp only[rd,aaR]at h
   obtain⟨q,hq,rfl⟩:=h
   exact hZ hq b hb
  |_=>simp[Av]at hb
theorem ad1{e:Nat}{f:Nat→Nat}{cs y:List AV}(h:As (Ce e f) cs=some y):Ce (e+1) f (.tup cs)=some (.tup y):=by simp[Ce,h]
theorem sC{e:Nat}{F:Nat→Option Nat}{v:AV}{outs:List AV}(h:Gi (e+1) F v=some (.tup outs)):∃o,v=.tup o∧As (Gi e F) o=some outs:=by
 cases v with
 |tup cs=>simp[Gi]at h;exact⟨_,rfl,h⟩
 |func fn a b=>simp only[Gi,aaV,aaR]at h;obtain⟨_,_,_,_,h⟩:=h;cases h
 |_=>simp[Gi]at h
theorem arQ{e:Nat}{vs:List AV}{R:List Nat}(h:SpL e vs R):Sp (e+1) (.tup vs) R:=fun m=>by
 obtain⟨l',m',a1,a2,a3⟩:=h m
 exact⟨.tup l',m',by simp[Dv,a1],a2,fun F hF=>by simp[Gi,a3 F hF]⟩
def RdT(O:Ez)(f:Nat)(vs xs:List AV)(k:Nat):Prop:=
 ∃outs h' R,O.call (.fn f) vs []=some (.ret (.tup outs),h')∧Nc (rd 6 (hf h')) outs=some (xs,R)∧R.length≤k∧∀c∈h',Rnm c
def RdV(O:Ez)(f:Nat)(vs:List AV)(x:AV)(k:Nat):Prop:=
 ∃v h' R,O.call (.fn f) vs []=some (.ret v,h')∧rd 6 (hf h') v=some (x,R)∧R.length≤k∧∀c∈h',Rnm c
theorem RdT.cl{O:Ez}{f:Nat}{vs xs:List AV}{k:Nat}(K:RdT O f vs xs k){H:Aa}{args:List AV}(hh:mU args=false)(ha:As (eH H) args=some vs)(hp:vs.all (Az 8)=true):
 ∃outs es H1 R,cl O H (some (.func (.func f) [] [])) (some args)=some (.ret (.tup outs),es)∧Ar H es=H1∧Kp (args.flatMap (Av 12 (hf H))) H H1∧Nc (rd 6 (hf H1)) outs=some (xs,R)∧R.length≤k∧∀b∈R,H.length≤b:=by
 obtain⟨outs,h',R,hc,hr,hk,hn⟩:=K
 obtain⟨v1,es,H1,F,e1,e2,e3,e4,e5,e6⟩:=yJ hh ha hp hc (fun f=>by obtain⟨y,hy⟩:=tV f (show 6≤7 by omega) hr;exact⟨.tup y,ad1 hy⟩) hn
 obtain⟨o1,rfl,ho⟩:=sC e4
 obtain⟨R',k1,k2,k3⟩:=cC (f':=rd 6 (hf H1)) (Z:=fun i=>∃b,F i=some b) ho hr (fun x' x q a b=>pO e3 a b)
 exact⟨o1,es,H1,R',e1,e2,e5,k1,by rw[k2];exact hk,fun b hb=>by obtain⟨c,hc⟩:=k3 b hb;exact e6 b c hc⟩
theorem RdV.cl{O:Ez}{f:Nat}{vs:List AV}{x:AV}{k:Nat}(K:RdV O f vs x k){H:Aa}{args:List AV}(hh:mU args=false)(ha:As (eH H) args=some vs)(hp:vs.all (Az 8)=true):
 ∃v es H1 R,cl O H (some (.func (.func f) [] [])) (some args)=some (.ret v,es)∧Ar H es=H1∧Kp (args.flatMap (Av 12 (hf H))) H H1∧rd 6 (hf H1) v=some (x,R)∧R.length≤k∧∀b∈R,H.length≤b:=by
 obtain⟨v,h',R,hc,hr,hk,hn⟩:=K
 obtain⟨v1,es,H1,F,e1,e2,e3,e4,e5,e6⟩:=yJ hh ha hp hc (fun f=>gZ f (show 6≤8 by omega) hr) hn
 obtain⟨R',k1,k2,k3⟩:=pO e3 e4 hr
 exact⟨v1,es,H1,R',e1,e2,e5,k1,by rw[k2];exact hk,fun b hb=>by obtain⟨c,hc⟩:=k3 b hb;exact e6 b c hc⟩
theorem RdT.at{O:Ez}{f:Nat}{vs xs:List AV}{k:Nat}(K:RdT O f vs xs k){H:Aa}{args:List AV}{E:OE}(hE:Ev.cl O H (some (.func (.func f) [] [])) (some args)=E)(hh:mU args=false)(ha:As (eH H) args=some vs)(hp:vs.all (Az 8)=true):
 ∃outs es H1 R,E=some (.ret (.tup outs),es)∧Ar H es=H1∧Kp (args.flatMap (Av 12 (hf H))) H H1∧Nc (rd 6 (hf H1)) outs=some (xs,R)∧R.length≤k∧∀b∈R,H.length≤b:=by
 obtain⟨outs,es,H1,R,e,r⟩:=K.cl hh ha hp
 exact⟨outs,es,H1,R,hE.symm.trans e,r⟩
theorem akO{h:Aa}{vs xs:List AV}{R:List Nat}{Q:Dx→Aa→Prop}(h1:Nc (rd 6 (hf h)) vs=some (xs,R))(hR:R.length<5000)(h2:Qw vs=.tup vs)
 (q:∀outs h' R',Nc (rd 6 (hf h')) outs=some (xs,R')→R'.length=R.length→(∀c∈h',Rnm c)→Q (.ret (.tup outs)) h'):Rt 0 (some vs) h Q:=by
 obtain⟨v',cs,F,e1,e2,e3,e4⟩:=aqQ (v:=.tup vs) (arQ (spL (e:=7) h1 (fun x _ q hx=>sp (by omega) hx))) (clL h1 (fun x _ q hx=>zI (by omega) hx)) hR
 obtain⟨o1,rfl,ho⟩:=sC e3
 obtain⟨R',k1,k2,_⟩:=cC (f':=rd 6 (hf cs)) (Z:=fun i=>∃b,F i=some b) ho h1 (fun x' x q a b=>pO e2 a b)
 exact⟨_,_,by simp[af9,h2,e1],q _ _ _ k1 k2 e4⟩
theorem Fa{C:R→Prop}[n:NoN C]{r:R}(h:∀K:R→Prop,NoN K→(∀x,C x→K x)→K r):C r:=h C n fun _ h=>h
theorem sM{v:AV}{H:Aa}{b:Nat}(l:List CB)(hb:b<H.length)(hv:∀a c r m,v=.slr a c r m→c≠b):(kl 0 v H++l)[b]?=H[b]?:=by
 rw[aeO (by rw[Ed];exact hb)]
 unfold kl
 split
 ·rename_i a c r m
  rw[aeG];simpa using hv a c r m rfl
 ·rfl
theorem oI{H:Aa}{b:Nat}{z:Nat × Bool × List (List AV)}(h:(hf H b).bind Da=some z):b<H.length:=by
 obtain⟨c,hc,_⟩:=aaV.1 h
 exact(ac5.1 hc).1
theorem iD{g g':HF}{d:Nat}{l:List AV}{p:List AV × List Nat}(h:Nc (rd d g) l=some p)(ha:Agr p.2 g g'):Nc (rd d g') l=some p:=
 Xs h fun _ _ _ hq hs=>cY hq fun b hb=>ha b (hs b hb)
theorem aU{g g':HF}{d:Nat}{l:List (List AV)}{p:List (List AV) × List Nat}(h:Bt (rd d g) l=some p)(ha:Agr p.2 g g'):Bt (rd d g') l=some p:=
 Tf h fun _ _ _ _ _ hq hs=>cY hq fun b hb=>ha b (hs b hb)
theorem pL{H:Aa}{d:Nat}{l:List AV}{p:List AV × List Nat}(hd:d≤9)(h:Nc (rd d (hf H)) l=some p):∀b∈p.2,b<H.length:=fun b hb=>by
 obtain⟨z,hz,_⟩:=clL h (fun x _ q hx=>zI hd hx) b hb
 exact oI hz
theorem dC{H:Aa}{d:Nat}{l:List (List AV)}{p:List (List AV) × List Nat}(hd:d≤9)(h:Bt (rd d (hf H)) l=some p):∀b∈p.2,b<H.length:=fun b hb=>by
 obtain⟨z,hz,_⟩:=clR h (fun r _ x _ q hx=>zI hd hx) b hb
 exact oI hz
theorem lJ{f:AV→Option (AV × List Nat)}:∀{l:List (List AV)} {p:List (List AV) × List Nat},Bt f l=some p→l.length=p.1.length
 | [],p,h=>by simp[Bt]at h;subst h;rfl
 |a::l,p,h=>by
  simp only[Bt,aaV,aaR]at h
  obtain⟨q,hq,r,hr,rfl⟩:=h
  simp[lJ hr]
theorem kB{f:AV→Option (AV × List Nat)}:∀{l:List (List AV)} {p:List (List AV) × List Nat} {i:Nat} {X:List AV},Bt f l=some p→p.1[i]?=some X→∃r R,l[i]?=some r∧Nc f r=some (X,R)
 | [],p,i,X,h,hx=>by simp[Bt]at h;subst h;simp at hx
 |a::l,p,i,X,h,hx=>by
  simp only[Bt,aaV,aaR]at h
  obtain⟨q,hq,r,hr,rfl⟩:=h
  cases i with
  |zero=>simp at hx;subst hx;exact⟨a,q.2,rfl,hq⟩
  |succ i=>simp at hx;obtain⟨r',R',k1,k2⟩:=kB hr hx;exact⟨r',R',by simpa using k1,k2⟩
theorem yT{f:AV→Option (AV × List Nat)}:∀{l:List AV} {p:List AV × List Nat},Nc f l=some p→l.length=p.1.length
 | [],p,h=>by simp[Nc]at h;subst h;rfl
 |a::l,p,h=>by
  simp only[Nc,aaV,aaR]at h
  obtain⟨q,hq,r,hr,rfl⟩:=h
  simp[yT hr]
theorem Ek{f:AV→Option (AV × List Nat)}{l xs:List AV}{x:AV}{R:List Nat}(h:Nc f l=some (x::xs,R)):∃a l' R1 R2,l=a::l'∧f a=some (x,R1)∧Nc f l'=some (xs,R2)∧R=R1++R2:=by
 cases l with
 |nil=>simp[Nc]at h
 |cons a l=>
  simp only[Nc,aaV,aaR]at h
  obtain⟨q,hq,r,hr,he⟩:=h
  simp only[Prod.mk.injEq,List.cons.injEq]at he
  obtain⟨⟨rfl,rfl⟩,rfl⟩:=he
  exact⟨a,l,q.2,r.2,rfl,hq,hr,rfl⟩
theorem iF{f:AV→Option (AV × List Nat)}{l:List AV}{R:List Nat}(h:Nc f l=some ([],R)):l=[]∧R=[]:=by
 cases l with
 |nil=>simp[Nc]at h;exact⟨rfl,h⟩
 |cons a l=>have:=yT h;simp at this
theorem oD{g:HF}{d:Nat}{v:AV}{xs:List AV}{R:List Nat}(h:rd (d+1) g v=some (.agg xs,R)):∃cs,v=.agg cs∧Nc (rd d g) cs=some (xs,R):=by
 cases v with
 |slr st b r len=>
  simp only[rd,aaV]at h
  obtain⟨z,_,h⟩:=h
  split at h
  ·cases hfl:z.2.1<;>rw[hfl]at h<;>simp at h
  ·cases h
 |agg cs=>
  simp only[rd,aaR]at h
  obtain⟨q,hq,he⟩:=h
  simp only[Prod.mk.injEq,AV.agg.injEq]at he
  obtain⟨rfl,rfl⟩:=he
  exact⟨cs,rfl,hq⟩
 |func fn a b=>cases a<;>cases b<;>simp[rd]at h
 |iface t x=>simp[rd]at h
 |_=>simp[rd]at h
theorem pT{g:HF}{d:Nat}{v:AV}{k:IntKind}{n:Int}{R:List Nat}(h:rd (d+1) g v=some (.int k n,R)):v=.int k n∧R=[]:=by
 cases v with
 |slr st b r len=>
  simp only[rd,aaV]at h
  obtain⟨z,_,h⟩:=h
  split at h
  ·cases hfl:z.2.1<;>rw[hfl]at h<;>simp at h
  ·cases h
 |func fn a b=>cases a<;>cases b<;>simp[rd]at h
 |int k' n'=>simp[rd]at h;exact⟨by simp[h],h.2⟩
 |agg cs=>simp[rd]at h
 |iface t x=>simp[rd]at h
 |_=>simp[rd]at h
theorem aC{g:HF}{d st:Nat}{fl nn:Bool}{v:AV}{rows:List (List AV)}{R:List Nat}(h:rd (d+1) g v=some (Bj st fl nn rows,R)):v.isCell=true∧v.flat=false:=by
 have hs:Bj st fl nn rows=.nils∨∃r,Bj st fl nn rows=.imm st fl r:=by
  cases rows with
  |nil=>cases nn with
   |true=>exact .inr ⟨_,rfl⟩
   |false=>exact .inl rfl
  |cons=>exact .inr ⟨_,rfl⟩
 generalize Bj st fl nn rows=X at h hs
 cases v with
 |func fn a b=>cases a<;>cases b<;>first|exact⟨rfl,rfl⟩|(simp[rd]at h)
 |agg cs=>simp only[rd,aaR]at h;obtain⟨_,_,h⟩:=h;simp only[Prod.mk.injEq]at h;obtain⟨h,_⟩:=h;subst h;rcases hs with hs|⟨_,hs⟩<;>cases hs
 |ptr b r o=>exact⟨rfl,rfl⟩
 |yl b=>exact⟨rfl,rfl⟩
 |tup cs=>simp[rd]at h
 |bool b=>simp[rd]at h;obtain⟨h,_⟩:=h;subst h;rcases hs with hs|⟨_,hs⟩<;>cases hs
 |int k n=>simp[rd]at h;obtain⟨h,_⟩:=h;subst h;rcases hs with hs|⟨_,hs⟩<;>cases hs
 |str s=>simp[rd]at h;obtain⟨h,_⟩:=h;subst h;rcases hs with hs|⟨_,hs⟩<;>cases hs
 |_=>exact⟨rfl,rfl⟩
theorem cO{g:HF}{d st:Nat}{fl nn:Bool}{v:AV}{rows:List (List AV)}{R:List Nat}(h:rd (d+1) g v=some (Bj st fl nn rows,R)):
 (v=.nils∧rows=[])∨∃b rows',v=.slr st b 0 rows.length∧(g b).bind Da=some (st,fl,rows')∧rows'.length=rows.length∧(fl=true→rows'=rows)∧(fl=false→∃R',Bt (rd d g) rows'=some (rows,R')):=by
 have hs:(Bj st fl nn rows=.nils∧rows=[])∨Bj st fl nn rows=.imm st fl rows:=by
  cases rows with
  |nil=>cases nn with
   |true=>exact .inr rfl
   |false=>exact .inl ⟨rfl,rfl⟩
  |cons=>exact .inr rfl
 generalize Bj st fl nn rows=X at h hs
 cases v with
 |nils=>simp[rd]at h;obtain⟨rfl,_⟩:=h;rcases hs with⟨_,hs⟩|hs
        ·exact .inl ⟨rfl,hs⟩
        ·cases hs
 |slr st' b r len=>
  simp only[rd,aaV]at h
  obtain⟨z,hz,h⟩:=h
  split at h
  ·rename_i hq
   obtain⟨q1,rfl,q3⟩:=hq
   obtain⟨z1,z2,z3⟩:=z
   simp only at q1 q3 h
   subst q1
   cases z2 with
   |true=>
    simp at h
    obtain⟨rfl,_⟩:=h
    rcases hs with⟨hs,_⟩|hs
    ·cases hs
    ·cases hs
     exact .inr ⟨b,_,by rw[q3],aaV.2 hz,rfl,fun _=>rfl,fun e=>by cases e⟩
   |false=>
    simp only[cond_false,aaR]at h
    obtain⟨q,hq,he⟩:=h
    simp only[Prod.mk.injEq]at he
    obtain⟨rfl,_⟩:=he
    rcases hs with⟨hs,_⟩|hs
    ·cases hs
    ·cases hs
     have hl:z3.length=q.1.length:=lJ hq
     exact .inr ⟨b,z3,by rw[q3,hl],aaV.2 hz,hl,fun e=>(by cases e),fun _=>⟨q.2,hq⟩⟩
  ·cases h
 |func fn a b=>cases a<;>cases b<;>simp[rd]at h<;>(obtain⟨rfl,_⟩:=h;rcases hs with⟨hs,_⟩|hs<;>cases hs)
 |agg cs=>simp only[rd,aaR]at h;obtain⟨_,_,h⟩:=h;simp only[Prod.mk.injEq]at h;obtain⟨rfl,_⟩:=h;rcases hs with⟨hs,_⟩|hs<;>cases hs
 |iface t x=>simp only[rd,aaR]at h;obtain⟨_,_,h⟩:=h;simp only[Prod.mk.injEq]at h;obtain⟨rfl,_⟩:=h;rcases hs with⟨hs,_⟩|hs<;>cases hs
 |ptr b r o=>simp[rd]at h
 |yl b=>simp[rd]at h
 |tup cs=>simp[rd]at h
 |imm=>simp[rd]at h
 |iptr=>simp[rd]at h
 |_=>simp[rd]at h;obtain⟨rfl,_⟩:=h;rcases hs with⟨hs,_⟩|hs<;>cases hs
theorem yY{H:Aa}{b st:Nat}{fl:Bool}{rows:List (List AV)}(h:(hf H b).bind Da=some (st,fl,rows))(i:Nat):Me (H[b]?) i=rows[i]?:=by
 obtain⟨c,hc,hz⟩:=aaV.1 h
 rw[show H[b]?=some c from hc]
 cases c<;>simp[Da]at hz<;>(obtain⟨_,_,rfl⟩:=hz;rfl)
theorem aqY{n:Nat}{rows:List (List AV)}{v:AV}{H:Aa}(ho:En 0 n false rows v H){d:Nat}{q:List (List AV) × List Nat}(hq:Bt (rd d (hf H)) rows=some q)(hn:rows=[]→v=.nils):
 ∃R,rd (d+1) (hf H) v=some (Bj n false false q.1,R)∧R.length≤1+q.2.length:=by
 rcases ho with⟨rfl,rfl⟩|⟨b,w,rfl,hb⟩
 ·simp[Bt]at hq;subst hq;exact⟨[],by simp[rd,Bj],by simp⟩
 ·have hne:rows≠[]:=fun e=>by have:=hn e;cases this
  have hb':(hf H (b+0)).bind Da=some (n,false,rows):=by show(H[b]?).bind Da=_;rw[hb];rfl
  refine⟨(b+0)::q.2,?_,by simp;omega⟩
  simp only[rd,hb',acY,if_true,and_self,cond_false,hq,adA]
  have hl:q.1≠[]:=fun e=>by
   cases rows with
   |nil=>exact hne rfl
   |cons r rs=>
    simp only[Bt,aaV,aaR]at hq
    obtain⟨_,_,_,_,rfl⟩:=hq
    cases e
  cases hq1:q.1 with
  |nil=>exact absurd hq1 hl
  |cons r rs=>rfl
theorem Gx{g:HF}{d:Nat}(k:IntKind)(n:Int):rd (d+1) g (.int k n)=some (.int k n,[]):=rfl
theorem adP{g:HF}{d:Nat}:rd (d+1) g .nils=some (.nils,[]):=rfl
theorem zE{g:HF}{d st b n:Nat}{rows:List (List AV)}(h:(g b).bind Da=some (st,true,rows))(hn:n=rows.length):rd (d+1) g (.slr st b 0 n)=some (.imm st true rows,[b]):=by
 subst hn;simp[rd,h]
theorem Lr{g:HF}{d:Nat}{cs xs:List AV}{R:List Nat}(h:Nc (rd d g) cs=some (xs,R)):rd (d+1) g (.agg cs)=some (.agg xs,R):=by simp[rd,h]
theorem Ig{f:AV→Option (AV × List Nat)}:Nc f []=some ([],[]):=rfl
theorem Ag{f:AV→Option (AV × List Nat)}{a x:AV}{l xs:List AV}{R1 R2:List Nat}(h1:f a=some (x,R1))(h2:Nc f l=some (xs,R2)):Nc f (a::l)=some (x::xs,R1++R2):=by simp[Nc,h1,h2]
theorem ao3{x:Option (List AV)}{vs:List AV}{h:Aa}{Q:Dx→Aa→Prop}(hx:x=some vs)(k:Rt 0 (some vs) h Q):Rt 0 x h Q:=hx▸k
theorem RdT.of{O:Ez}{f:Nat}{vs xs:List AV}{k:Nat}(h:Uu O f vs [] fun o h'=>∃outs R,o=.ret (.tup outs)∧Nc (rd 6 (hf h')) outs=some (xs,R)∧R.length≤k∧∀c∈h',Rnm c):RdT O f vs xs k:=by
 obtain⟨o,h',e,v,R,rfl,k1,k2,k3⟩:=h
 exact⟨v,h',R,e,k1,k2,k3⟩
theorem fG{f:AV→Option (AV × List Nat)}:∀{l:List (List AV)} {p:List (List AV) × List Nat} {r:List AV} {q:List AV × List Nat},Bt f l=some p→Nc f r=some q→Bt f (l++[r])=some (p.1++[q.1],p.2++q.2)
 | [],p,r,q,h,hr=>by simp[Bt]at h;subst h;simp[Bt,hr]
 |a::l,p,r,q,h,hr=>by
  simp only[Bt,aaV,aaR]at h
  obtain⟨q1,hq1,r1,hr1,rfl⟩:=h
  simp[Bt,hq1,fG hr1 hr]
end Go.Ev
