/- The evaluator and its soundness. -/
import Derived.Test.YtdbiogihimdpcaaGreatDoorLibD
open And renaming intro→aa9
open Option renaming map_eq_some_iff→abQ,bind_eq_some_iff→acI,bind_some→acQ,map_some→adO
open Eq renaming trans→acL
open List renaming mem_cons_of_mem→acR,mem_cons_self→acV,mem_append→adG,mem_append_left→adJ,mem_append_right→adK,mem_cons→adL,getElem?_eq_some_iff→adM,nil_append→adN,getElem?_set_ne→adP,getElem?_append_left→adQ,prefix_refl→aeY,getElem?_eq_getElem→ae4,append_nil→ajX,flatMap_cons→ajY
set_option linter.unusedSimpArgs false
set_option linter.unusedVariables false
namespace Go.Ev
open Go.RowKit
section
variable {P:Program} {O:Ez} {pr:Of}
def rnX(O:Ez)(P:Program)(n:Nat)(k:List Aj)(t:List AV)(b:Nat)(h2:Aa)(x:Option CB):R:=
 match x with
 |some (.lp _ _ _ _ .ready)=>Cj (Dc O P n) k .normal ⟨t,h2.set b .dead⟩
 |some (.lp _ _ _ _ (.done .ret))=>Cj (Dc O P n) k .ret ⟨t,h2.set b .dead⟩
 |some (.lp _ _ _ _ (.done (.exit i)))=>Cj (Dc O P n) k (.exit i) ⟨t,h2.set b .dead⟩
 |_=>none
def rnE(O:Ez)(P:Program)(n:Nat)(k:List Aj)(t:List AV)(b:Nat)(h1:Aa)(x:OE):R:=
 match x with
 |some (.ret _,es)=>rnX O P n k t b (Ar h1 es) ((Ar h1 es)[b]?)
 |_=>none
def rnC(O:Ez)(h1:Aa)(b:Nat)(fv:Option AV):OE:=
 match fv with
 |some (.func (.func g) a c)=>cr (Fz O (hf h1) h1.length (Yj g (a++[.yl b]++c)) (a++[.yl b]++c))
 |_=>none
theorem avQ(n:Nat)(k:List Aj)(t:List AV)(b:Nat)(h1:Aa)(x:Option Le):
 (x.bind fun d=>match d.out with
   | .ret _=>
     let h2:=Ar h1 d.es
     match h2[b]? with
     |some (.lp _ _ _ _ .ready)=>Cj (Dc O P n) k .normal ⟨t,h2.set b .dead⟩
     |some (.lp _ _ _ _ (.done .ret))=>Cj (Dc O P n) k .ret ⟨t,h2.set b .dead⟩
     |some (.lp _ _ _ _ (.done (.exit i)))=>Cj (Dc O P n) k (.exit i) ⟨t,h2.set b .dead⟩
     |_=>none
   | .pan _=>none)=rnE O P n k t b h1 (cr x):=by
 cases x with
 |none=>rfl
 |some d=>
  obtain⟨o,es,fs⟩:=d
  cases o<;>rfl
theorem as3(n:Nat)(f:Operand)(ps:Array Nat)(asg body:Code)(k:List Aj)(t:List AV)(h:Aa):
 Dc O P (n+1) (.rangeFunc f ps asg body) k ⟨t,h⟩=rnE O P n k t h.length (h++[.lp ps.toList asg body t .ready]) (rnC O (h++[.lp ps.toList asg body t .ready]) h.length (Af t f)):=by
 simp only[Dc,rnC]
 cases Af t f with
 |none=>rfl
 |some v=>
  simp only[acQ]
  cases v with
  |func fn a c=>
   cases fn with
   |func g=>exact avQ n k t h.length _ _
   |_=>rfl
  |_=>rfl
theorem apT(h1:Aa)(b g:Nat)(a c:List AV):rnC O h1 b (some (.func (.func g) a c))=if lV (a++[.yl b]++c)=true then shC O h1 g (a++[.yl b]++c)else cr (Dy O (hf h1) h1.length (.fn g) (a++[.yl b]++c)):=aeS h1 g _
theorem am4(n:Nat)(k:List Aj)(t:List AV)(b:Nat)(h1:Aa)(v:AV)(es:List Ad):rnE O P n k t b h1 (some (.ret v,es))=rnX O P n k t b (Ar h1 es) ((Ar h1 es)[b]?):=acL rfl rfl
theorem acM(n:Nat)(k:List Aj)(t:List AV)(b:Nat)(h2:Aa)(ps:List Nat)(asg body:Code)(tm:List AV):rnX O P n k t b h2 (some (.lp ps asg body tm .ready))=Cj (Dc O P n) k .normal ⟨t,h2.set b .dead⟩:=acL rfl rfl
def slK(h:Aa)(b:Nat)(ok:Qb→Bool)(st:Qb)(x:Option CB):Option Aa:=
 match x with
 |some (.lp ps asg body tmps st')=>if ok st' then some (h.set b (.lp ps asg body tmps st))else none
 |_=>none
theorem awQ(h:Aa)(b:Nat)(ok:Qb→Bool)(st:Qb):Qg h b ok st=slK h b ok st (h[b]?):=by
 unfold Qg slK
 cases h[b]? with
 |none=>rfl
 |some c=>cases c<;>rfl
theorem ae9(h:Aa)(b:Nat)(st:Qb)(ps:List Nat)(asg body:Code)(tm:List AV):slK h b Qb.isReady st (some (.lp ps asg body tm .ready))=some (h.set b (.lp ps asg body tm st)):=acL rfl rfl
theorem am6(h:Aa)(b:Nat)(st:Qb)(ps:List Nat)(asg body:Code)(tm:List AV):slK h b Qb.isBusy st (some (.lp ps asg body tm .busy))=some (h.set b (.lp ps asg body tm st)):=acL rfl rfl
def am5(O:Ez)(P:Program)(body:Code)(t:List AV)(x:Option Aa):R:=
 match x with
 |some h1=>Dc O P 5000 body [] ⟨t,h1⟩
 |none=>none
def ahU(O:Ez)(P:Program)(b:Nat)(body:Code)(x:R):R:=
 match x with
 |some (.normal,s)=>am5 O P body s.tmps (Qg s.h b Qb.isReady .busy)
 |_=>none
def rK(r:Bool)(x:Option Aa):Option (Ea × Aa):=x.map fun h2=>(.ret (.bool r),h2)
def acU(b:Nat)(x:R):Option (Ea × Aa):=
 match x with
 |some (.normal,s)=>rK true (Qg s.h b Qb.isBusy .ready)
 |some (.ret,s)=>rK false (Qg s.h b Qb.isBusy (.done .ret))
 |some (.exit i,s)=>rK false (Qg s.h b Qb.isBusy (.done (.exit i)))
 |_=>none
theorem acY(body:Code)(t:List AV)(h:Aa):am5 O P body t (some h)=Dc O P 5000 body [] ⟨t,h⟩:=acL rfl rfl
theorem tY(b:Nat)(body:Code)(t:List AV)(h:Aa):ahU O P b body (some (.normal,⟨t,h⟩))=am5 O P body t (Qg h b Qb.isReady .busy):=acL rfl rfl
theorem acA(r:Bool)(h:Aa):rK r (some h)=some (.ret (.bool r),h):=acL rfl rfl
theorem ajL{vs:List AV}{b:Nat}{h:Aa}{ps:List Nat}{asg body:Code}{tm:List AV}{st:Qb}(hb:h[b]?=some (.lp ps asg body tm st))(hl:ps.length=vs.length):
 Oe O P (vs++[.yl b]) h=acU b (ahU O P b body (Dc O P 5000 asg [] ⟨Ry tm ps vs,h⟩)):=by
 unfold Oe
 simp only[List.reverse_append,List.reverse_cons,List.reverse_nil,adN,List.cons_append,List.reverse_reverse,List.length_reverse,hb,hl,if_true,Ly]
 cases Dc O P 5000 asg [] ⟨Ry tm ps vs,h⟩with
 |none=>rfl
 |some x=>
  obtain⟨e,s⟩:=x
  cases e with
  |normal=>
   simp only[acQ,ahU]
   cases Qg s.h b Qb.isReady .busy with
   |none=>rfl
   |some h1=>
    simp only[acQ,am5]
    cases Dc O P 5000 body [] ⟨s.tmps,h1⟩with
    |none=>rfl
    |some y=>
     obtain⟨e,s⟩:=y
     cases e with
     |normal=>simp only[acQ,Pj,acU,rK];cases Qg s.h b Qb.isBusy .ready<;>rfl
     |ret=>simp only[acQ,Pj,acU,rK];cases Qg s.h b Qb.isBusy (.done .ret)<;>rfl
     |exit i=>simp only[acQ,Pj,acU,rK];cases Qg s.h b Qb.isBusy (.done (.exit i))<;>rfl
     |pan v=>rfl
  |_=>rfl
def RnE(b:Nat)(Q:Ea→Aa→Prop)(x:R):Prop:=∃o h',acU b x=some (o,h')∧Q o h'
def RnQ(O:Ez)(args:List AV)(h:Aa)(Q:Ea→Aa→Prop):Prop:=∃o h',O.call .round args h=some (o,h')∧Q o h'
theorem RnQ.start{vs:List AV}{b:Nat}{h:Aa}{ps:List Nat}{asg body:Code}{tm:List AV}{st:Qb}{Q:Ea→Aa→Prop}(hb:h[b]?=some (.lp ps asg body tm st))(hl:ps.length=vs.length)
 (he:RnE b Q (ahU (om P pr) P b body (Dc (om P pr) P 5000 asg [] ⟨Ry tm ps vs,h⟩))):RnQ (om P pr) (vs++[.yl b]) h Q:=by
 obtain⟨o,h',e,q⟩:=he
 exact⟨o,h',tX ((ajL hb hl).trans e),q⟩
theorem Yo{C:R→Prop}{n f b:Nat}{k:List Aj}{t:List AV}{h1 h2:Aa}{args:List AV}{Q:Ea→Aa→Prop}(hq:ShQ O f args h2 Q)(hk:∀o h',Q o h'→C (rnE O P n k t b h1 (shK h1 (some (o,h'))))):C (rnE O P n k t b h1 (shK h1 (O.call (.sh f) args h2))):=by
 obtain⟨o,h',e,q⟩:=hq
 rw[e];exact hk o h' q
theorem acS(b:Nat)(Q:Ea→Aa→Prop)(t:List AV)(h:Aa):RnE b Q (some (.normal,⟨t,h⟩))=∃o h',rK true (Qg h b Qb.isBusy .ready)=some (o,h')∧Q o h':=acL rfl rfl
theorem amH(h:Aa)(f:Nat)(args:List AV):anK O h f args=if(kV args||O.md f)=true then some [.all]else ftR h args:=acL rfl rfl
theorem aeE{b:Nat}{Q:Ea→Aa→Prop}:¬RnE b Q none:=fun⟨_,_,h,_⟩=>by simp[acU]at h
theorem akM(n:Nat)(t:Tm)(p:Nat)(ps:List Nat)(v:AV)(vs:List AV):Ry (mk n t) (p::ps) (v::vs)=Ry (mk n (up t p v)) ps vs:=by
 simp only[Ry,aiB]
theorem apQ(n:Nat)(t:Tm)(vs:List AV):Ry (mk n t) [] vs=mk n t:=by cases vs<;>rfl
end
def vB(f:Nat→Nat):Dp→Dp
 | .cells b o n=>.cells (f b) o n
 | .blk b=>.blk (f b)
 | .all=>.all
def lgF(f:Nat→Nat)(log:Xm):List (List Dp × List Dp):=log.map fun x=>(x.1.map fun e=>vB f e.foot,x.2.map (vB f))
def wO(x y:List Dp × List Dp):Bool:=x.1.any (fun f=>(y.1++y.2).any f.meets)||y.1.any (fun f=>x.2.any f.meets)
def aiE(ops:List Oper)(lg:List (List Dp × List Dp)):Bool:=
 (gK ops).all fun(i,j)=>match lg[i]?,lg[j]? with
   |some x,some y=> !wO x y
   |_,_=>false
def aU(n q:Nat)(b:Nat):Nat:=if b<q then b else b-n+1000
theorem Es{n q b:Nat}(h:b<q):aU n q b=b:=by simp[aU,h]
theorem Ew{n q k:Nat}(h:q≤k):aU n q (n+k)=k+1000:=by
 unfold aU
 rw[if_neg (by omega)]
 omega
theorem tQ(f:Nat→Nat)(x y:Dp)(h:x.meets y=true):(vB f x).meets (vB f y)=true:=by
 cases x<;>cases y<;>simp_all[Dp.meets,vB]
theorem agY(f:Nat→Nat)(x y:List Ad × List Dp)(h:Qe x y=true):wO (x.1.map fun e=>vB f e.foot,x.2.map (vB f)) (y.1.map fun e=>vB f e.foot,y.2.map (vB f))=true:=by
 simp only[Qe,wO,Bool.or_eq_true,List.any_eq_true,adG,List.mem_map]at h ⊢
 rcases h with⟨a,⟨e,he,rfl⟩,b,hb,hm⟩|⟨a,⟨e,he,rfl⟩,b,hb,hm⟩
 ·refine .inl ⟨_,⟨e,he,rfl⟩,vB f b,?_,tQ f _ _ hm⟩
  rcases hb with⟨e',he',rfl⟩|hb
  ·exact .inl ⟨e',he',rfl⟩
  ·exact .inr ⟨b,hb,rfl⟩
 ·exact .inr ⟨_,⟨e,he,rfl⟩,vB f b,⟨b,hb,rfl⟩,tQ f _ _ hm⟩
theorem alP(f:Nat→Nat){ops:List Oper}{log:Xm}(h:aiE ops (lgF f log)=true):Eu ops log=true:=by
 simp only[aiE,Eu,List.all_eq_true]at h ⊢
 rintro⟨i,j⟩ hij
 have:=h (i,j) hij
 simp only[lgF,List.getElem?_map]at this ⊢
 cases hi:log[i]? with
 |none=>simp[hi]at this
 |some x=>
  cases hj:log[j]? with
  |none=>simp[hi,hj]at this
  |some y=>
   simp only[hi,hj,adO,Bool.not_eq_true',Bool.not_eq_eq_eq_not]at this ⊢
   cases hc:Qe x y with
   |false=>rfl
   |true=>rw[agY f x y hc]at this;cases this
theorem Hg(n q:Nat){C:R→Prop}{ops:List Oper}{log:Xm}{k:R}(hb:aiE ops (lgF (aU n q) log)=true)(h:True→C k):C (Ha (Eu ops log) k):=arL (alP _ hb) h
theorem Gz(f:Nat→Nat):lgF f []=[]:=acL rfl rfl
theorem Et(f:Nat→Nat)(x:List Ad)(y:List Dp)(l:Xm):lgF f ((x,y)::l)=(x.map (fun e=>vB f e.foot),y.map (vB f))::lgF f l:=acL rfl rfl
theorem Dv(f:Nat→Nat)(b o n:Nat):vB f (.cells b o n)=.cells (f b) o n:=acL rfl rfl
theorem He(f:Nat→Nat)(b:Nat):vB f (.blk b)=.blk (f b):=acL rfl rfl
theorem Hj(f:Nat→Nat):vB f .all=.all:=acL rfl rfl
theorem Hf(b:Nat)(c:CB):Ad.foot (.new b c)=.blk b:=acL rfl rfl
theorem Hi(b:Nat)(c:CB):Ad.foot (.put b c)=.blk b:=acL rfl rfl
theorem Du(b r o:Nat)(vs:List AV):Ad.foot (.cells b r o vs)=.cells b o vs.length:=acL rfl rfl
section
variable {P:Program} {O:Ez}
theorem aiP(t:List AV)(h:Aa)(ty:TypeId)(x i:Operand):Ej O P t h (.index ty x i)=r1 ((Af t x).bind fun x=>(Af t i).bind fun i=>lR P ty x i):=by
 rw[Di _ _ _ rfl]
 simp only[exec]
 cases Af t x with
 |none=>rfl
 |some a=>
  cases Af t i with
  |none=>rfl
  |some b=>exact Ge _
end
def EVs:=PLift.up (aa9 @as3 (aa9 @apT (aa9 @am4 (aa9 @acM (aa9 @awQ (aa9 @ae9 (aa9 @am6 (aa9 @acY (aa9 @tY (aa9 @acA (aa9 @acS (aa9 @akM (aa9 @amH (aa9 @aiP @apQ))))))))))))))
set_option maxRecDepth 100000
def EVZ:=PLift.up (aa9 EVa.down (aa9 EVb.down (aa9 EVc.down (aa9 EVd.down (aa9 EVe.down (aa9 EVf.down (aa9 EVg.down (aa9 EVh.down (aa9 EVi.down (aa9 EVj.down (aa9 EVk.down (aa9 EVl.down (aa9 EVm.down (aa9 EVn.down (aa9 EVo.down (aa9 EVp.down EVq.down))))))))))))))))
section
variable {P:Program} {O:Ez}
class NoN(C:R→Prop):Prop where
 no:¬C none
instance{q:Nat}{rs:List ResultVar}{Q:Ea→Aa→Prop}:NoN (FnE P q rs Q):=⟨ajI⟩
instance{rs:List ResultVar}{Q:Ea→Aa→Prop}:NoN (FnS P rs Q):=⟨aiQ⟩
instance{N:Nat}{J:Tm→Aa→Prop}{Q:Ex→St→Prop}:NoN (qH N J Q):=⟨afD⟩
instance{b:Nat}{Q:Ea→Aa→Prop}:NoN (RnE b Q):=⟨aeE⟩
end
section
variable {P:Program} {O:Ez}
class Spl(r:R)(b:outParam Bool)(x y:outParam R):Prop where
 sp:∀{C:R→Prop},(b=true→C x)→(b=false→C y)→C r
instance{n:Nat}{k:List Aj}{d:Option Nat}{op:Op}{cs:List CO}{b w:Bool}{t:List AV}{h:Aa}:Spl (rcG O P n k d op cs (.bool b) w t h) b (rcG O P n k d op cs (.bool true) w t h) (rcG O P n k d op cs (.bool false) w t h):=⟨au1⟩
instance{n:Nat}{x y:Code}{k:List Aj}{g:Bool}{s:St}:Spl (cdK O P n x y k (some (.bool g)) s) g (Dc O P n x k s) (Dc O P n y k s):=⟨auV⟩
instance{n:Nat}{k:List Aj}{d:Option Nat}{op:Op}{cs:List CO}{b w:Bool}{t:List AV}{h:Aa}:Spl (rqG O P n k d op cs (.bool b) w t h) b (rqG O P n k d op cs (.bool true) w t h) (rqG O P n k d op cs (.bool false) w t h):=⟨av4⟩
instance{n:Nat}{k:List Aj}{d:Option Nat}{op:Op}{cs:List CO}{b w:Bool}{t:List AV}{h:Aa}:Spl (rwG O P n k d op cs (.bool b) w t h) b (rwG O P n k d op cs (.bool true) w t h) (rwG O P n k d op cs (.bool false) w t h):=⟨auK⟩
instance{n:Nat}{k:List Aj}{ops:List Oper}{d:Option Nat}{op:Op}{cs:List CO}{b w:Bool}{t:List AV}{h:Aa}{log:Xm}:Spl (rlG O P n k ops d op cs (.bool b) w t h log) b (rlG O P n k ops d op cs (.bool true) w t h log) (rlG O P n k ops d op cs (.bool false) w t h log):=⟨awW⟩
theorem Ai{C:R→Prop}{r x y:R}{b:Bool}(h1:b=true→C x)(h2:b=false→C y)(s:Spl r b x y:=by infer_instance):C r:=s.sp h1 h2
class Drw(i:Nat)(r:R)(c:outParam Bool)(r':outParam R):Prop where
 dr:∀{C:R→Prop},¬C none→c=true→C r'→C r
instance{b:Bool}{k:R}:Drw 0 (Ha b k) b k:=⟨fun _=>an9⟩
instance{n id:Nat}{ops:Array Oper}{k:List Aj}{t:List AV}{h:Aa}:Drw 1 (Dc O P (n+1) (.region id ops true) k ⟨t,h⟩) (Ov ops.toList&&xX ops.toList) (rw O P n k (ops.toList.map (Ic ops.toList)) t h):=⟨fun h=>atX h⟩
instance{n id:Nat}{ops:Array Oper}{k:List Aj}{t:List AV}{h:Aa}:Drw 2 (Dc O P (n+1) (.region id ops true) k ⟨t,h⟩) (Ov ops.toList&&avA ops.toList) (rq O P n k (ops.toList.map (Ic ops.toList)) t h):=⟨fun h=>auR h⟩
instance{n id:Nat}{ops:Array Oper}{k:List Aj}{t:List AV}{h:Aa}:Drw 3 (Dc O P (n+1) (.region id ops true) k ⟨t,h⟩) (Ov ops.toList) (rl O P n k ops.toList (ops.toList.map (Ic ops.toList)) t h []):=⟨fun h=>avI h⟩
structure Dw(r r':R):Prop where
 dr:∀{C:R→Prop},¬C none→C r'→C r
theorem dg{r r':R}{c:Bool}[d:Drw 0 r c r'](h:c=true:=by kernel_rfl):Dw r r':=⟨fun n k=>d.dr n h k⟩
theorem dw(i:Nat){r r':R}{c:Bool}[d:Drw i r c r'](h:c=true:=by decide+kernel):Dw r r':=⟨fun n k=>d.dr n h k⟩
theorem fd{C:R→Prop}{r r':R}[n:NoN C](k:C r')(e:Dw r r':=by first|exact dg|exact dw 1|exact dw 2|exact dw 3):C r:=e.dr n.no k
theorem fdl{C:R→Prop}{r r':R}[n:NoN C](k:C r')(e:Dw r r':=by first|exact dg|exact dw 1|exact dw 3):C r:=e.dr n.no k
theorem lU{C:R→Prop}{r r':R}[n:NoN C](k:C r')(e:Dw r r':=by first|exact dw 1|exact dw 2|exact dw 3):C r:=e.dr n.no k
end
section
variable {P:Program} {O:Ez}
def Un(O:Ez)(P:Program)(n:Nat)(k:List Aj)(c:Code)(C:R→Prop):R→Prop
 |some (.normal,s)=>C (lpK O P n k (O.loop c s))
 |some (e,s)=>C (Cj (Dc O P n) k e s)
 |none=>False
theorem abB(n:Nat)(k:List Aj)(c:Code)(C:R→Prop)(s:St):Un O P n k c C (some (.normal,s))=C (lpK O P n k (O.loop c s)):=acL rfl rfl
theorem amG(n:Nat)(k:List Aj)(c:Code)(C:R→Prop)(i:Nat)(s:St):Un O P n k c C (some (.exit i,s))=C (Cj (Dc O P n) k (.exit i) s):=acL rfl rfl
instance{n:Nat}{k:List Aj}{c:Code}{C:R→Prop}:NoN (Un O P n k c C):=⟨fun h=>h⟩
theorem avJ{pr:Of}{C:R→Prop}[N:NoN C]{n:Nat}{k:List Aj}{c:Code}{s:St}(h:Un (om P pr) P n k c C (Dc (om P pr) P 5000 c [] s)):C (lpK (om P pr) P n k ((om P pr).loop c s)):=by
 cases hm:Dc (om P pr) P 5000 c [] s with
 |none=>rw[hm]at h;exact h.elim
 |some x=>
  obtain⟨e,s'⟩:=x
  rw[hm]at h
  cases e with
  |normal=>
   replace h:C (lpK (om P pr) P n k ((om P pr).loop c s')):=h
   cases hl:(om P pr).loop c s' with
   |none=>rw[hl]at h;exact(N.no h).elim
   |some y=>
    obtain⟨e,s''⟩:=y
    rw[hl]at h
    rw[Xc hm hl];exact h
  |exit i=>rw[Hm hm (by simp)];exact h
  |ret=>rw[Hm hm (by simp)];exact h
  |pan v=>rw[Hm hm (by simp)];exact h
end
theorem ajW:IntKind.i64.wrap 1=1:=acL rfl rfl
def EE:=PLift.up (aa9 EVZ.down (aa9 @ajW (aa9 @abB (aa9 @amG (aa9 @Ic.eq_1 (aa9 @Af.eq_1 (aa9 @Af.eq_2 (aa9 @Af.eq_4 (aa9 @Cb.eq_1 (aa9 @Cb.eq_2 (aa9 @oP.eq_3 (aa9 @fF.eq_1 (aa9 @fF.eq_2 (aa9 @fF.eq_5 (aa9 @Ar.eq_1 (aa9 @Ar.eq_2 (aa9 @Cc.eq_1 (aa9 @Cc.eq_2 (aa9 @Cc.eq_3 (aa9 @Kw.eq_1 (aa9 @Df.eq_1 (aa9 @bsK.eq_1 (aa9 @Ru.eq_1 (aa9 @Ru.eq_2 (aa9 @decide_true @decide_false)))))))))))))))))))))))))
def EF:=PLift.up (aa9 EE.down EVr.down)
def EG:=PLift.up (aa9 EF.down EVs.down)
def On(m:List Nat)(F:Nat→Option Nat):Prop:=∀i b,m[i]?=some b→F i=some b
theorem On.mono{m m':List Nat}{F:Nat→Option Nat}(h:On m' F)(hp:m <+:m'):On m F:=fun _ _ hi=>h _ _ (Ox hp hi)
structure Gd(m m' R:List Nat):Prop where
 pre:m <+:m'
 nd:m.Nodup→m'.Nodup
 sub:∀b∈m',b∈m∨b∈R
theorem Gd.refl(m R:List Nat):Gd m m R:=⟨aeY _,id,fun _ h=>.inl h⟩
theorem Gd.trans{m m1 m2 R1 R2 R:List Nat}(h1:Gd m m1 R1)(h2:Gd m1 m2 R2)(k1:∀b∈R1,b∈R)(k2:∀b∈R2,b∈R):Gd m m2 R:=
 ⟨h1.pre.trans h2.pre,fun h=>h2.nd (h1.nd h),fun b hb=>(h2.sub b hb).elim (fun h=>(h1.sub b h).imp id (k1 b)) (fun h=>.inr (k2 b h))⟩
theorem ai9(m:List Nat)(b:Nat){R:List Nat}(hb:b∈R):Gd m (place m b).2 R:=by
 refine⟨(Ol m b).2.1,(Ol m b).2.2,fun x hx=>?_⟩
 unfold place at hx
 split at hx
 ·exact .inl hx
 ·rcases adG.1 hx with h|h
  ·exact .inl h
  ·simp at h;subst h;exact .inr hb
def Sp(e:Nat)(x:AV)(R:List Nat):Prop:=∀m,∃x' m',Dx e m x=some (x',m')∧Gd m m' R∧∀F,On m' F→Gj e F x'=some x
def SpL(e:Nat)(l:List AV)(R:List Nat):Prop:=∀m,∃l' m',Dx.refL (Dx e) m l=some (l',m')∧Gd m m' R∧∀F,On m' F→As (Gj e F) l'=some l
def SpR(l:List (List AV))(R:List Nat):Prop:=∀m,∃l' m',Je m l=some (l',m')∧Gd m m' R∧∀F,On m' F→As (As (Gj 8 F)) l'=some l
theorem spL{f:AV→Option (AV × List Nat)}{e:Nat}:∀{l:List AV} {p:List AV × List Nat},Nn f l=some p→(∀x∈l,∀q,f x=some q→Sp e x q.2)→SpL e l p.2
 | [],p,h,_=>fun m=>⟨[],m,rfl,Gd.refl _ _,fun _ _=>rfl⟩
 |a::l,p,h,hf=>fun m=>by
  simp only[Nn,acI,abQ]at h
  obtain⟨q,hq,r,hr,rfl⟩:=h
  obtain⟨x',m1,e1,g1,k1⟩:=hf a (acV ..) q hq m
  obtain⟨l',m2,e2,g2,k2⟩:=spL hr (fun x hx=>hf x (acR _ hx)) m1
  refine⟨x'::l',m2,by simp[Dx.refL,e1,e2],g1.trans g2 (fun _ h=>adJ _ h) (fun _ h=>adK _ h),fun F hF=>?_⟩
  simp[As,k1 F (hF.mono g2.pre),k2 F hF]
theorem spR{f:AV→Option (AV × List Nat)}:∀{l:List (List AV)} {p:List (List AV) × List Nat},Bz f l=some p→(∀r∈l,∀x∈r,∀q,f x=some q→Sp 8 x q.2)→SpR l p.2
 | [],p,h,_=>fun m=>⟨[],m,rfl,Gd.refl _ _,fun _ _=>rfl⟩
 |a::l,p,h,hf=>fun m=>by
  simp only[Bz,acI,abQ]at h
  obtain⟨q,hq,r,hr,rfl⟩:=h
  obtain⟨x',m1,e1,g1,k1⟩:=spL hq (hf a (acV ..)) m
  obtain⟨l',m2,e2,g2,k2⟩:=spR hr (fun x hx=>hf x (acR _ hx)) m1
  refine⟨x'::l',m2,by simp[Je,e1,e2],g1.trans g2 (fun _ h=>adJ _ h) (fun _ h=>adK _ h),fun F hF=>?_⟩
  simp[As,k1 F (hF.mono g2.pre),k2 F hF]
theorem sp{g:HF}:∀{d e:Nat} {v:AV} {p:AV × List Nat},d≤e→rd d g v=some p→Sp e v p.2
 |0,e,v,p,_,h=>by simp[rd]at h
 |d+1,0,v,p,he,h=>by omega
 |d+1,e+1,v,p,he,h=>by
  have IH:∀x q,rd d g x=some q→Sp e x q.2:=fun x q hx=>sp (by omega) hx
  intro m
  cases v with
  |slr st b r len=>
   simp only[rd,acI]at h
   obtain⟨z,_,h⟩:=h
   split at h
   ·have hb:b∈p.2:=by
     cases hfl:z.2.1 with
     |true=>rw[hfl]at h;simp at h;rw[←h];simp
     |false=>rw[hfl]at h;simp only[cond_false,abQ]at h;obtain⟨q,_,rfl⟩:=h;simp
    exact⟨_,_,rfl,ai9 m b hb,fun F hF=>by simp[Gj,hF _ _ (Ol m b).1]⟩
   ·cases h
  |agg cs=>
   simp only[rd,abQ]at h
   obtain⟨q,hq,rfl⟩:=h
   obtain⟨l',m1,e1,g1,k1⟩:=spL hq (fun x _=>IH x) m
   exact⟨.agg l',m1,by simp[Dx,e1],g1,fun F hF=>by simp[Gj,k1 F hF]⟩
  |iface t x=>
   simp only[rd,abQ]at h
   obtain⟨q,hq,rfl⟩:=h
   obtain⟨l',m1,e1,g1,k1⟩:=IH x q hq m
   exact⟨.iface t l',m1,by simp[Dx,e1],g1,fun F hF=>by simp[Gj,k1 F hF]⟩
  |func fn a b=>
   cases a with
   |cons=>simp[rd]at h
   |nil=>
    cases b with
    |cons=>simp[rd]at h
    |nil=>exact⟨_,m,rfl,Gd.refl _ _,fun _ _=>rfl⟩
  |ptr b r o=>simp[rd]at h
  |tup cs=>simp[rd]at h
  |yl b=>simp[rd]at h
  |imm=>simp[rd]at h
  |iptr=>simp[rd]at h
  |_=>exact⟨_,m,rfl,Gd.refl _ _,fun _ _=>rfl⟩
def Cl(g:HF)(S:List Nat):Prop:=∀b∈S,∃z,(g b).bind Bw=some z∧(z.2.1=false→∃d q,d≤8∧Bz (rd d g) z.2.2=some q∧∀x∈q.2,x∈S)
theorem Cl.nil(g:HF):Cl g []:=fun _ h=>by cases h
theorem Cl.app{g:HF}{S T:List Nat}(h1:Cl g S)(h2:Cl g T):Cl g (S++T):=fun b hb=>by
 rcases adG.1 hb with h|h
 ·obtain⟨z,k1,k2⟩:=h1 b h
  exact⟨z,k1,fun e=>by obtain⟨d,q,a1,a2,a3⟩:=k2 e;exact⟨d,q,a1,a2,fun x hx=>adJ _ (a3 x hx)⟩⟩
 ·obtain⟨z,k1,k2⟩:=h2 b h
  exact⟨z,k1,fun e=>by obtain⟨d,q,a1,a2,a3⟩:=k2 e;exact⟨d,q,a1,a2,fun x hx=>adK _ (a3 x hx)⟩⟩
theorem clL{g:HF}{f:AV→Option (AV × List Nat)}:∀{l:List AV} {p:List AV × List Nat},Nn f l=some p→(∀x∈l,∀q,f x=some q→Cl g q.2)→Cl g p.2
 | [],p,h,_=>by simp[Nn]at h;subst h;exact Cl.nil g
 |a::l,p,h,hf=>by
  simp only[Nn,acI,abQ]at h
  obtain⟨q,hq,r,hr,rfl⟩:=h
  exact(hf a (acV ..) q hq).app (clL hr fun x hx=>hf x (acR _ hx))
theorem clR{g:HF}{f:AV→Option (AV × List Nat)}:∀{l:List (List AV)} {p:List (List AV) × List Nat},Bz f l=some p→(∀r∈l,∀x∈r,∀q,f x=some q→Cl g q.2)→Cl g p.2
 | [],p,h,_=>by simp[Bz]at h;subst h;exact Cl.nil g
 |a::l,p,h,hf=>by
  simp only[Bz,acI,abQ]at h
  obtain⟨q,hq,r,hr,rfl⟩:=h
  exact(clL hq (hf a (acV ..))).app (clR hr fun x hx=>hf x (acR _ hx))
theorem yU{g:HF}:∀{d:Nat} {v:AV} {p:AV × List Nat},d≤9→rd d g v=some p→Cl g p.2
 |0,v,p,_,h=>by simp[rd]at h
 |d+1,v,p,hd,h=>by
  have IH:∀x q,rd d g x=some q→Cl g q.2:=fun x q hx=>yU (by omega) hx
  cases v with
  |slr st b r len=>
   simp only[rd,acI]at h
   obtain⟨z,hz,h⟩:=h
   have hz':(g b).bind Bw=some z:=acI.2 hz
   split at h
   ·cases hfl:z.2.1 with
    |true=>
     rw[hfl]at h;simp at h;rw[←h]
     intro b' hb'
     simp at hb';subst hb'
     exact⟨z,hz',fun e=>by rw[hfl]at e;cases e⟩
    |false=>
     rw[hfl]at h;simp only[cond_false,abQ]at h
     obtain⟨q,hq,rfl⟩:=h
     intro b' hb'
     rcases adL.1 hb' with rfl|hb'
     ·exact⟨z,hz',fun _=>⟨d,q,by omega,hq,fun x hx=>acR _ hx⟩⟩
     ·obtain⟨z',k1,k2⟩:=clR hq (fun r _ x _=>IH x) b' hb'
      exact⟨z',k1,fun e=>by obtain⟨d',q',a1,a2,a3⟩:=k2 e;exact⟨d',q',a1,a2,fun x hx=>acR _ (a3 x hx)⟩⟩
   ·cases h
  |agg cs=>
   simp only[rd,abQ]at h
   obtain⟨q,hq,rfl⟩:=h
   exact clL hq fun x _=>IH x
  |iface t x=>
   simp only[rd,abQ]at h
   obtain⟨q,hq,rfl⟩:=h
   exact IH x q hq
  |func fn a b=>
   cases a<;>cases b<;>first|(simp[rd]at h;subst h;exact Cl.nil g)|(simp[rd]at h)
  |_=>first|(simp[rd]at h;subst h;exact Cl.nil g)|(simp[rd]at h)
theorem dO{F:Nat→Option Nat}(f:Nat→Nat):∀{e:Nat} {x' x:AV},Gj e F x'=some x→∃y,Ci e f x'=some y
 |0,x',x,h=>by simp[Gj]at h
 |e+1,x',x,h=>by
  have L:∀{l l1:List AV},As (Gj e F) l=some l1→∃y,As (Ci e f) l=some y:=fun {l}=>by
   induction l with
   |nil=>exact fun _=>⟨[],rfl⟩
   |cons a l ih=>
    intro l1 h
    simp only[As,acI,abQ]at h
    obtain⟨b,hb,c,hc,_⟩:=h
    obtain⟨y,hy⟩:=dO f hb
    obtain⟨ys,hys⟩:=ih hc
    exact⟨y::ys,by simp[As,hy,hys]⟩
  cases x' with
  |agg cs=>simp only[Gj,abQ]at h;obtain⟨_,h,_⟩:=h;obtain⟨y,hy⟩:=L h;exact⟨.agg y,by simp[Ci,hy]⟩
  |tup cs=>simp only[Gj,abQ]at h;obtain⟨_,h,_⟩:=h;obtain⟨y,hy⟩:=L h;exact⟨.tup y,by simp[Ci,hy]⟩
  |iface t x=>simp only[Gj,abQ]at h;obtain⟨_,h,_⟩:=h;obtain⟨y,hy⟩:=dO f h;exact⟨.iface t y,by simp[Ci,hy]⟩
  |func fn a b=>
   simp only[Gj,acI,abQ]at h
   obtain⟨_,h1,_,h2,_⟩:=h
   obtain⟨y,hy⟩:=L h1
   obtain⟨y2,hy2⟩:=L h2
   exact⟨.func fn y y2,by simp[Ci,hy,hy2]⟩
  |_=>exact⟨_,rfl⟩
theorem pF{α β γ:Type}{f:α→Option β}{f':α→Option γ}(H:∀a b,f a=some b→∃c,f' a=some c):∀{l:List α} {r:List β},As f l=some r→∃s,As f' l=some s
 | [],_,_=>⟨[],rfl⟩
 |a::l,r,h=>by
  simp only[As,acI,abQ]at h
  obtain⟨b,hb,c,hc,_⟩:=h
  obtain⟨y,hy⟩:=H a b hb
  obtain⟨ys,hys⟩:=pF H hc
  exact⟨y::ys,by simp[As,hy,hys]⟩
def Stn(F:Nat→Option Nat)(c':CB)(z:Nat × Bool × List (List AV)):Prop:=
 ∃rows',Bw c'=some (z.1,z.2.1,rows')∧(z.2.1=true→rows'=z.2.2)∧(z.2.1=false→As (As (Gj 8 F)) rows'=some z.2.2)
def Rnm(c:CB):Prop:=∀f,∃c',Gq f c=some c'
theorem spB{g:HF}{S:List Nat}(H:Cl g S){b:Nat}(hb:b∈S)(m:List Nat):∃c c' m' z,g b=some c∧Bw c=some z∧Xt m c=some (c',m')∧Gd m m' S∧(∀F,On m' F→Stn F c' z)∧Rnm c':=by
 obtain⟨z,hz,hc⟩:=H b hb
 obtain⟨c,k1,k2⟩:=acI.1 hz
 have R:∀rows,z.2.1=false→rows=z.2.2→∃l' m',Je m rows=some (l',m')∧Gd m m' S∧∀F,On m' F→As (As (Gj 8 F)) l'=some rows:=fun rows e er=>by
  obtain⟨d,q,a1,a2,a3⟩:=hc e
  obtain⟨l',m',e1,g1,e2⟩:=spR (er▸a2) (fun r _ x _ q hx=>sp a1 hx) m
  exact⟨l',m',e1,⟨g1.pre,g1.nd,fun x hx=>(g1.sub x hx).imp id (a3 x)⟩,e2⟩
 have R2:∀l' rows m',(∀F,On m' F→As (As (Gj 8 F)) l'=some rows)→∀f,∃y,As (As (Ci 8 f)) l'=some y:=fun l' rows m' h f=>
  pF (fun a b hab=>pF (fun a b hab=>dO f hab) hab) (h (fun i=>m'[i]?) (fun _ _ h=>h))
 cases c with
 |live st fl w rows=>
  simp[Bw]at k2;subst k2
  cases fl with
  |true=>exact⟨_,_,m,_,k1,rfl,rfl,Gd.refl _ _,fun F _=>⟨rows,rfl,fun _=>rfl,fun e=>by cases e⟩,fun f=>⟨_,rfl⟩⟩
  |false=>
   obtain⟨l',m',e1,g1,e2⟩:=R rows rfl rfl
   refine⟨_,.live st false w l',m',_,k1,rfl,by simp[Xt,e1],g1,fun F hF=>⟨l',rfl,fun e=>(by cases e),fun _=>e2 F hF⟩,fun f=>?_⟩
   obtain⟨y,hy⟩:=R2 l' rows m' e2 f
   exact⟨.live st false w y,by simp[Gq,hy]⟩
 |frz st fl rows=>
  simp[Bw]at k2;subst k2
  cases fl with
  |true=>exact⟨_,_,m,_,k1,rfl,rfl,Gd.refl _ _,fun F _=>⟨rows,rfl,fun _=>rfl,fun e=>by cases e⟩,fun f=>⟨_,rfl⟩⟩
  |false=>
   obtain⟨l',m',e1,g1,e2⟩:=R rows rfl rfl
   refine⟨_,.frz st false l',m',_,k1,rfl,by simp[Xt,e1],g1,fun F hF=>⟨l',rfl,fun e=>(by cases e),fun _=>e2 F hF⟩,fun f=>?_⟩
   obtain⟨y,hy⟩:=R2 l' rows m' e2 f
   exact⟨.frz st false y,by simp[Gq,hy]⟩
 |dead=>simp[Bw]at k2
 |lp=>simp[Bw]at k2
theorem ag7{S:List Nat}:∀{m:List Nat},m.Nodup→(∀b∈m,b∈S)→m.length≤S.length:=by
 induction S with
 |nil=>intro m _ h;cases m with
  |nil=>simp
  |cons a m=>exact absurd (h a (acV ..)) (by simp)
 |cons s S ih=>
  intro m hn h
  have h2:=ih (m:=m.erase s) (hn.erase s) (fun b hb=>by
   have hb':=List.mem_of_mem_erase hb
   rcases adL.1 (h b hb')with rfl|h'
   ·exact absurd hb (hn.not_mem_erase)
   ·exact h')
  have h3:m.length≤(m.erase s).length+1:=by
   by_cases hs:s∈m
   ·rw[List.length_erase_of_mem hs];omega
   ·rw[List.erase_of_not_mem hs];omega
  simp;omega
theorem spC{g:HF}{S:List Nat}(H:Cl g S):∀(n i:Nat) (m:List Nat),m.Nodup→(∀b∈m,b∈S)→S.length<n+i→i≤m.length→
 ∃cs m',Jq n g i m=some (cs,m')∧m <+:m'∧m'.Nodup∧(∀b∈m',b∈S)∧i+cs.length=m'.length∧(∀c∈cs,Rnm c)∧
  ∀F,On m' F→∀j c',cs[j]?=some c'→∃b z,m'[i+j]?=some b∧(g b).bind Bw=some z∧Stn F c' z
 |0,i,m,hn,hs,hl,hi=>by have:=ag7 hn hs;omega
 |n+1,i,m,hn,hs,hl,hi=>by
  unfold Jq
  cases hm:m[i]? with
  |none=>
   have:m.length≤i:=List.getElem?_eq_none_iff.1 hm
   exact⟨[],m,rfl,aeY _,hn,hs,by simp;omega,(fun c hc=>by cases hc),fun F _ j c' hj=>by simp at hj⟩
  |some b=>
   have hlt:=(adM.1 hm).1
   obtain⟨c,c',m1,z,k1,k2,k3,g1,k4,k5⟩:=spB H (hs b (List.mem_of_getElem? hm)) m
   obtain⟨cs,m',e1,p1,p2,p3,p4,p5,p6⟩:=spC H n (i+1) m1 (g1.nd hn) (fun b hb=>(g1.sub b hb).elim (hs b) id) (by omega) (by have:=g1.pre.length_le;omega)
   refine⟨c'::cs,m',by simp[k1,k3,e1],g1.pre.trans p1,p2,p3,by simp;omega,fun x hx=>?_,fun F hF j x hj=>?_⟩
   ·rcases adL.1 hx with rfl|hx
    ·exact k5
    ·exact p5 x hx
   ·cases j with
    |zero=>
     simp at hj;subst hj
     exact⟨b,z,Ox (g1.pre.trans p1) (by simpa using hm),by rw[k1];exact k2,k4 F (hF.mono p1)⟩
    |succ j=>
     simp at hj
     obtain⟨b',z',a1,a2,a3⟩:=p6 F hF j x hj
     exact⟨b',z',by rw[←a1];congr 1;omega,a2,a3⟩
theorem ap0{h:Aa}{v:AV}{R:List Nat}(hs:Sp 8 v R)(hc:Cl (hf h) R)(hR:R.length<5000):
 ∃v' cs F,Qd 0 v h=some (v',cs)∧aqP F (hf cs) (hf h)∧Gj 8 F v'=some v∧∀c∈cs,Rnm c:=by
 obtain⟨v',m,e1,g1,k1⟩:=hs []
 have hm:∀b∈m,b∈R:=fun b hb=>(g1.sub b hb).elim (fun h=>by cases h) id
 obtain⟨cs,m',e2,p1,p2,p3,p4,p5,p6⟩:=spC hc 5000 0 m (g1.nd List.nodup_nil) hm (by omega) (Nat.zero_le _)
 refine⟨v',cs,fun i=>m'[i]?,by simp[Qd,Ku,Dx.refL,e1,e2,List.range_zero],fun i b hi z hz=>?_,k1 _ (fun _ _ h=>Ox p1 h),p5⟩
 have hlt:=(adM.1 hi).1
 obtain⟨b',z',a1,a2,rows',a3,a4,a5⟩:=p6 (fun i=>m'[i]?) (fun _ _ h=>h) i _ (ae4 (by omega))
 rw[Nat.zero_add]at a1
 have hbb:b=b':=by have hi':m'[i]?=some b:=hi;rw[hi']at a1;cases a1;rfl
 subst hbb
 rw[hz]at a2;cases a2
 exact⟨rows',by show(cs[i]?).bind Bw=_;rw[ae4 (by omega)];exact a3,a4,a5⟩
theorem Wa{f:Nat→Nat}{F:Nat→Option Nat}(hF:∀b,F (f b)=some b):∀{e:Nat} {x x1:AV},Ci e f x=some x1→Gj e F x1=some x
 |0,x,x1,h=>by simp[Ci]at h
 |e+1,x,x1,h=>by
  have L:∀{l l1:List AV},As (Ci e f) l=some l1→As (Gj e F) l1=some l:=fun {l}=>by
   induction l with
   |nil=>intro l1 h;simp[As]at h;subst h;rfl
   |cons a l ih=>
    intro l1 h
    simp only[As,acI,abQ]at h
    obtain⟨b,hb,c,hc,rfl⟩:=h
    simp[As,Wa hF hb,ih hc]
  cases x with
  |agg cs=>simp only[Ci,abQ]at h;obtain⟨_,h,rfl⟩:=h;simp[Gj,L h]
  |tup cs=>simp only[Ci,abQ]at h;obtain⟨_,h,rfl⟩:=h;simp[Gj,L h]
  |iface t x=>simp only[Ci,abQ]at h;obtain⟨_,h,rfl⟩:=h;simp[Gj,Wa hF h]
  |func fn a b=>
   simp only[Ci,acI,abQ]at h
   obtain⟨_,h1,_,h2,rfl⟩:=h
   simp[Gj,L h1,L h2]
  |_=>simp only[Ci,Option.some.injEq]at h;subst h;simp[Gj,hF]
theorem Vp{α β:Type}{f:α→Option β}{f':β→Option α}(H:∀a b,f a=some b→f' b=some a):∀{l:List α} {r:List β},As f l=some r→As f' r=some l
 | [],r,h=>by simp[As]at h;subst h;rfl
 |a::l,r,h=>by
  simp only[As,acI,abQ]at h
  obtain⟨b,hb,c,hc,rfl⟩:=h
  simp[As,H a b hb,Vp H hc]
theorem qY{f:Nat→Nat}:∀{cs:List CB} (_:∀c∈cs,Rnm c) (base:Nat),∃ns cs1,Ip f base cs=some ns∧(∀G,Ar G ns=G++cs1)∧As (Gq f) cs=some cs1
 | [],_,base=>⟨[],[],rfl,fun G=>by simp[Ar],rfl⟩
 |c::cs,h,base=>by
  obtain⟨c1,e1⟩:=h c (acV ..) f
  obtain⟨ns,cs1,e2,e3,e4⟩:=qY (f:=f) (cs:=cs) (fun c hc=>h c (acR _ hc)) (base+1)
  exact⟨.new base c1::ns,c1::cs1,by simp[Ip,e1,e2],fun G=>by simp[Ar,Cc,e3],by simp[As,e1,e4]⟩
theorem aeR{f:Nat→Nat}{F:Nat→Option Nat}(hF:∀b,F (f b)=some b){c c1:CB}(h:Gq f c=some c1){z:Nat × Bool × List (List AV)}(hz:Bw c=some z):Stn F c1 z:=by
 cases c with
 |live st fl w rows=>
  simp[Bw]at hz;subst hz
  cases fl with
  |true=>simp[Gq]at h;subst h;exact⟨rows,rfl,fun _=>rfl,fun e=>by cases e⟩
  |false=>
   simp only[Gq,abQ]at h
   obtain⟨r,hr,rfl⟩:=h
   exact⟨r,rfl,fun e=>(by cases e),fun _=>Vp (fun a b hab=>Vp (fun a b hab=>Wa hF hab) hab) hr⟩
 |frz st fl rows=>
  simp[Bw]at hz;subst hz
  cases fl with
  |true=>simp[Gq]at h;subst h;exact⟨rows,rfl,fun _=>rfl,fun e=>by cases e⟩
  |false=>
   simp only[Gq,abQ]at h
   obtain⟨r,hr,rfl⟩:=h
   exact⟨r,rfl,fun e=>(by cases e),fun _=>Vp (fun a b hab=>Vp (fun a b hab=>Wa hF hab) hab) hr⟩
 |dead=>simp[Bw]at hz
 |lp=>simp[Bw]at hz
structure Kp(lent:List Nat)(H H1:Aa):Prop where
 len:H.length≤H1.length
 rows:∀b,b<H.length→(hf H1 b).bind Bw=(hf H b).bind Bw
 same:∀b,b<H.length→b∉lent→H1[b]?=H[b]?
theorem pE{H:Aa}:∀(l:List Nat) (G:Aa),G.length=H.length→(∀b,(hf G b).bind Bw=(hf H b).bind Bw)→
 (Ar G (Dt (hf H) l)).length=H.length∧(∀b,(hf (Ar G (Dt (hf H) l)) b).bind Bw=(hf H b).bind Bw)∧∀b,b∉l→(Ar G (Dt (hf H) l))[b]?=G[b]?
 | [],G,h1,h2=>⟨h1,h2,fun _ _=>rfl⟩
 |a::l,G,h1,h2=>by
  unfold Dt
  have other:∀b,b∉a::l→b∉l:=fun b hb h=>hb (acR _ h)
  split
  ·rename_i st fl w rows ha
   have hlt:a<G.length:=by rw[h1];exact(adM.1 ha).1
   obtain⟨k1,k2,k3⟩:=pE (H:=H) l (G.set a (.frz st fl rows)) (by simp[h1]) (fun b=>by
    by_cases hb:a=b
    ·subst hb
     show((G.set a _)[a]?).bind Bw=_
     rw[List.getElem?_set_self hlt,ha];rfl
    ·show((G.set a _)[b]?).bind Bw=_
     rw[adP hb];exact h2 b)
   refine⟨k1,k2,fun b hb=>?_⟩
   show(Ar (G.set a _) _)[b]?=_
   rw[k3 b (other b hb),adP (fun e=>hb (by rw[←e];exact acV ..))]
  ·obtain⟨k1,k2,k3⟩:=pE l G h1 h2
   exact⟨k1,k2,fun b hb=>k3 b (other b hb)⟩
theorem yM{O:Ez}{H:Aa}{f:Nat}{args vs:List AV}{v:AV}{h':Aa}(hh:lV args=false)(ha:As (bL H) args=some vs)(hp:vs.all (Ba 8)=true)
 (hc:O.call (.fn f) vs []=some (.ret v,h')) (h1:∀f,∃y,Ci 8 f v=some y) (h2:∀c∈h',Rnm c):
 ∃v1 es H1 F,cl O H (some (.func (.func f) [] [])) (some args)=some (.ret v1,es)∧Ar H es=H1∧aqP F (hf H1) (hf h')∧Gj 8 F v1=some v∧Kp (args.flatMap (Aw 12 (hf H))) H H1∧∀i b,F i=some b→H.length≤i:=by
 obtain⟨v1,e1⟩:=h1 (fun i=>H.length+i)
 obtain⟨ns,cs1,e2,e3,e4⟩:=qY (f:=fun i=>H.length+i) h2 H.length
 generalize hFF:(fun i=>if H.length≤i then some (i-H.length)else none:Nat→Option Nat)=F
 have hF:∀b,F (H.length+b)=some b:=fun b=>by rw[←hFF];simp
 have key:∃fz:List Ad,cl O H (some (.func (.func f) [] [])) (some args)=some (.ret v1,fz++ns)∧(fz=[]∨fz=Dt (hf H) (args.flatMap (Aw 12 (hf H)))):=by
  rw[ajQ,adN,ajX,if_neg (by rw[hh];simp),ad5 ha hp,hc]
  refine⟨_,by simp only[crR,acQ,Ea.v,e1,e2,adO,Ea.map];rfl,?_⟩
  split
  ·exact .inl rfl
  ·exact .inr rfl
 obtain⟨fz,ec,hfz⟩:=key
 have hK:(Ar H fz).length=H.length∧(∀b,(hf (Ar H fz) b).bind Bw=(hf H b).bind Bw)∧∀b,b∉args.flatMap (Aw 12 (hf H))→(Ar H fz)[b]?=H[b]?:=by
  rcases hfz with rfl|rfl
  ·exact⟨rfl,fun _=>rfl,fun _ _=>rfl⟩
  ·exact pE _ H rfl (fun _=>rfl)
 obtain⟨k1,k2,k3⟩:=hK
 have hap:Ar H (fz++ns)=Ar H fz++cs1:=by rw[Zh,e3]
 refine⟨v1,_,_,F,ec,hap,fun i b hi z hz=>?_,Wa hF e1,⟨by simp[k1],fun b hb=>?_,fun b hb hl=>?_⟩,fun i b hi=>?_⟩
 ·rw[←hFF]at hi;simp only at hi
  split at hi
  ·rename_i hle
   simp only[Option.some.injEq]at hi
   obtain⟨c,hcc,hcz⟩:=acI.1 hz
   obtain⟨c1,g1,g2⟩:=Qv e4 (show h'[b]?=some c from hcc)
   obtain⟨rows',r1,r2,r3⟩:=aeR hF g2 hcz
   refine⟨rows',?_,r2,r3⟩
   show((Ar H fz++cs1)[i]?).bind Bw=_
   rw[List.getElem?_append_right (by omega),k1,hi,g1]
   exact r1
  ·cases hi
 ·rw[←k2 b]
  show((Ar H fz++cs1)[b]?).bind Bw=_
  rw[adQ (by omega)];rfl
 ·rw[adQ (by omega)];exact k3 b hl
 ·rw[←hFF]at hi;simp only at hi
  split at hi
  ·assumption
  ·cases hi
theorem iO{g:HF}(f:Nat→Nat):∀{d e:Nat} {v:AV} {p:AV × List Nat},d≤e→rd d g v=some p→∃y,Ci e f v=some y
 |0,e,v,p,_,h=>by simp[rd]at h
 |d+1,0,v,p,he,h=>by omega
 |d+1,e+1,v,p,he,h=>by
  have L:∀{l:List AV} {q:List AV × List Nat},Nn (rd d g) l=some q→∃y,As (Ci e f) l=some y:=fun {l}=>by
   induction l with
   |nil=>exact fun _=>⟨[],rfl⟩
   |cons a l ih=>
    intro q h
    simp only[Nn,acI,abQ]at h
    obtain⟨b,hb,c,hc,_⟩:=h
    obtain⟨y,hy⟩:=iO f (show d≤e by omega) hb
    obtain⟨ys,hys⟩:=ih hc
    exact⟨y::ys,by simp[As,hy,hys]⟩
  cases v with
  |agg cs=>simp only[rd,abQ]at h;obtain⟨_,h,_⟩:=h;obtain⟨y,hy⟩:=L h;exact⟨.agg y,by simp[Ci,hy]⟩
  |iface t x=>simp only[rd,abQ]at h;obtain⟨_,h,_⟩:=h;obtain⟨y,hy⟩:=iO f (show d≤e by omega) h;exact⟨.iface t y,by simp[Ci,hy]⟩
  |func fn a b=>
   cases a<;>cases b<;>first|exact⟨_,rfl⟩|(simp[rd]at h)
  |tup cs=>simp[rd]at h
  |_=>exact⟨_,rfl⟩
theorem uO{g:HF}(f:Nat→Nat){d e:Nat}(hd:d≤e):∀{l:List AV} {q:List AV × List Nat},Nn (rd d g) l=some q→∃y,As (Ci e f) l=some y
 | [],q,_=>⟨[],rfl⟩
 |a::l,q,h=>by
  simp only[Nn,acI,abQ]at h
  obtain⟨b,hb,c,hc,_⟩:=h
  obtain⟨y,hy⟩:=iO f hd hb
  obtain⟨ys,hys⟩:=uO f hd hc
  exact⟨y::ys,by simp[As,hy,hys]⟩
theorem Ue{g:HF}:∀{d e:Nat} {v:AV} {p:AV × List Nat},d≤e→rd d g v=some p→Hh e g v=some p.1
 |0,e,v,p,_,h=>by simp[rd]at h
 |d+1,0,v,p,he,h=>by omega
 |d+1,e+1,v,p,he,h=>by
  cases v with
  |slr st b r len=>exact iT (zM he h)
  |agg cs=>
   simp only[rd,abQ]at h
   obtain⟨q,hq,rfl⟩:=h
   simp[Hh,cL (f':=Hh e g) hq (fun x _ q' hx=>Ue (show d≤e by omega) hx)]
  |iface t x=>
   simp only[rd,abQ]at h
   obtain⟨q,hq,rfl⟩:=h
   simp[Hh,Ue (show d≤e by omega) hq]
  |func fn a b=>cases a<;>cases b<;>first|(simp[rd]at h;subst h;rfl)|(simp[rd]at h)
  |_=>first|(simp[rd]at h;subst h;rfl)|(simp[rd]at h)
theorem afH{f:AV→Option (AV × List Nat)}{f':AV→List Nat}:∀{l:List AV} {p:List AV × List Nat},Nn f l=some p→(∀x∈l,∀q,f x=some q→∀b∈f' x,b∈q.2)→∀b∈l.flatMap f',b∈p.2
 | [],p,h,_=>fun b hb=>by simp at hb
 |a::l,p,h,hf=>fun b hb=>by
  simp only[Nn,acI,abQ]at h
  obtain⟨q,hq,r,hr,rfl⟩:=h
  rw[ajY]at hb
  rcases adG.1 hb with hb|hb
  ·exact adJ _ (hf a (acV ..) q hq b hb)
  ·exact adK _ (afH hr (fun x hx=>hf x (acR _ hx)) b hb)
theorem an7{f:AV→Option (AV × List Nat)}{f':AV→List Nat}:∀{l:List (List AV)} {p:List (List AV) × List Nat},Bz f l=some p→(∀r∈l,∀x∈r,∀q,f x=some q→∀b∈f' x,b∈q.2)→∀b∈l.flatMap (fun cs=>cs.flatMap f'),b∈p.2
 | [],p,h,_=>fun b hb=>by simp at hb
 |a::l,p,h,hf=>fun b hb=>by
  simp only[Bz,acI,abQ]at h
  obtain⟨q,hq,r,hr,rfl⟩:=h
  rw[ajY]at hb
  rcases adG.1 hb with hb|hb
  ·exact adJ _ (afH hq (hf a (acV ..)) b hb)
  ·exact adK _ (an7 hr (fun x hx=>hf x (acR _ hx)) b hb)
theorem cY{g:HF}:∀{e d:Nat} {v:AV} {p:AV × List Nat},rd d g v=some p→∀b∈Aw e g v,b∈p.2
 |0,d,v,p,_,b,hb=>by simp[Aw]at hb
 |e+1,0,v,p,h,b,hb=>by simp[rd]at h
 |e+1,d+1,v,p,h,b,hb=>by
  cases v with
  |slr st c r len=>
   simp only[rd,acI]at h
   obtain⟨z,hz,h⟩:=h
   split at h
   ·rename_i hq
    obtain⟨rfl,rfl,rfl⟩:=hq
    simp only[Aw,bZ (acI.2 hz)]at hb
    cases hfl:z.2.1 with
    |true=>rw[hfl]at h hb;simp at h hb;rw[←h];simp[hb]
    |false=>
     rw[hfl]at h hb
     simp only[cond_false,abQ]at h
     obtain⟨q,hq',rfl⟩:=h
     rcases adL.1 hb with rfl|hb
     ·exact acV ..
     ·exact acR _ (an7 hq' (fun r _ x _ q' hx b hb=>cY hx b hb) b (by simpa using hb))
   ·cases h
  |agg cs=>
   simp only[rd,abQ]at h
   obtain⟨q,hq,rfl⟩:=h
   exact afH hq (fun x _ q' hx b hb=>cY hx b hb) b hb
  |iface t x=>
   simp only[rd,abQ]at h
   obtain⟨q,hq,rfl⟩:=h
   exact cY hq b hb
  |_=>simp[Aw]at hb
theorem ae0{e:Nat}{f:Nat→Nat}{cs y:List AV}(h:As (Ci e f) cs=some y):Ci (e+1) f (.tup cs)=some (.tup y):=by simp[Ci,h]
theorem tR{e:Nat}{F:Nat→Option Nat}{v:AV}{outs:List AV}(h:Gj (e+1) F v=some (.tup outs)):∃o,v=.tup o∧As (Gj e F) o=some outs:=by
 cases v with
 |tup cs=>simp[Gj]at h;exact⟨_,rfl,h⟩
 |func fn a b=>simp only[Gj,acI,abQ]at h;obtain⟨_,_,_,_,h⟩:=h;cases h
 |_=>simp[Gj]at h
theorem aqM{e:Nat}{vs:List AV}{R:List Nat}(h:SpL e vs R):Sp (e+1) (.tup vs) R:=fun m=>by
 obtain⟨l',m',a1,a2,a3⟩:=h m
 exact⟨.tup l',m',by simp[Dx,a1],a2,fun F hF=>by simp[Gj,a3 F hF]⟩
def RdT(O:Ez)(f:Nat)(vs xs:List AV)(k:Nat):Prop:=
 ∃outs h' R,O.call (.fn f) vs []=some (.ret (.tup outs),h')∧Nn (rd 6 (hf h')) outs=some (xs,R)∧R.length≤k∧∀c∈h',Rnm c
def RdV(O:Ez)(f:Nat)(vs:List AV)(x:AV)(k:Nat):Prop:=
 ∃v h' R,O.call (.fn f) vs []=some (.ret v,h')∧rd 6 (hf h') v=some (x,R)∧R.length≤k∧∀c∈h',Rnm c
theorem RdT.cl{O:Ez}{f:Nat}{vs xs:List AV}{k:Nat}(K:RdT O f vs xs k){H:Aa}{args:List AV}(hh:lV args=false)(ha:As (bL H) args=some vs)(hp:vs.all (Ba 8)=true):
 ∃outs es H1 R,cl O H (some (.func (.func f) [] [])) (some args)=some (.ret (.tup outs),es)∧Ar H es=H1∧Kp (args.flatMap (Aw 12 (hf H))) H H1∧Nn (rd 6 (hf H1)) outs=some (xs,R)∧R.length≤k∧∀b∈R,H.length≤b:=by
 obtain⟨outs,h',R,hc,hr,hk,hn⟩:=K
 obtain⟨v1,es,H1,F,e1,e2,e3,e4,e5,e6⟩:=yM hh ha hp hc (fun f=>by obtain⟨y,hy⟩:=uO f (show 6≤7 by omega) hr;exact⟨.tup y,ae0 hy⟩) hn
 obtain⟨o1,rfl,ho⟩:=tR e4
 obtain⟨R',k1,k2,k3⟩:=cZ (f':=rd 6 (hf H1)) (Z:=fun i=>∃b,F i=some b) ho hr (fun x' x q a b=>qC e3 a b)
 exact⟨o1,es,H1,R',e1,e2,e5,k1,by rw[k2];exact hk,fun b hb=>by obtain⟨c,hc⟩:=k3 b hb;exact e6 b c hc⟩
theorem RdV.cl{O:Ez}{f:Nat}{vs:List AV}{x:AV}{k:Nat}(K:RdV O f vs x k){H:Aa}{args:List AV}(hh:lV args=false)(ha:As (bL H) args=some vs)(hp:vs.all (Ba 8)=true):
 ∃v es H1 R,cl O H (some (.func (.func f) [] [])) (some args)=some (.ret v,es)∧Ar H es=H1∧Kp (args.flatMap (Aw 12 (hf H))) H H1∧rd 6 (hf H1) v=some (x,R)∧R.length≤k∧∀b∈R,H.length≤b:=by
 obtain⟨v,h',R,hc,hr,hk,hn⟩:=K
 obtain⟨v1,es,H1,F,e1,e2,e3,e4,e5,e6⟩:=yM hh ha hp hc (fun f=>iO f (show 6≤8 by omega) hr) hn
 obtain⟨R',k1,k2,k3⟩:=qC e3 e4 hr
 exact⟨v1,es,H1,R',e1,e2,e5,k1,by rw[k2];exact hk,fun b hb=>by obtain⟨c,hc⟩:=k3 b hb;exact e6 b c hc⟩
theorem RdT.at{O:Ez}{f:Nat}{vs xs:List AV}{k:Nat}(K:RdT O f vs xs k){H:Aa}{args:List AV}{E:OE}(hE:Ev.cl O H (some (.func (.func f) [] [])) (some args)=E)(hh:lV args=false)(ha:As (bL H) args=some vs)(hp:vs.all (Ba 8)=true):
 ∃outs es H1 R,E=some (.ret (.tup outs),es)∧Ar H es=H1∧Kp (args.flatMap (Aw 12 (hf H))) H H1∧Nn (rd 6 (hf H1)) outs=some (xs,R)∧R.length≤k∧∀b∈R,H.length≤b:=by
 obtain⟨outs,es,H1,R,e,r⟩:=K.cl hh ha hp
 exact⟨outs,es,H1,R,hE.symm.trans e,r⟩
theorem sE{O:Ez}{H:Aa}{f:Nat}{args vs:List AV}{v:AV}(hh:lV args=false)(ha:As (bL H) args=some vs)(hp:vs.all (Ba 8)=true)(hc:O.call (.fn f) vs []=some (.ret v,[]))(h1:Ba 8 v=true)(h2:hasImm 8 v=false):
 cl O H (some (.func (.func f) [] [])) (some args)=some (.ret v,[]):=by
 rw[ajQ,adN,ajX,if_neg (by rw[hh];simp),ad5 ha hp,hc,nU,if_pos ⟨h1,h2⟩]
theorem akN{h:Aa}{vs xs:List AV}{R:List Nat}{Q:Ea→Aa→Prop}(h1:Nn (rd 6 (hf h)) vs=some (xs,R))(hR:R.length<5000)(h2:Ru vs=.tup vs)
 (q:∀outs h' R',Nn (rd 6 (hf h')) outs=some (xs,R')→R'.length=R.length→(∀c∈h',Rnm c)→Q (.ret (.tup outs)) h'):Rt 0 (some vs) h Q:=by
 obtain⟨v',cs,F,e1,e2,e3,e4⟩:=ap0 (v:=.tup vs) (aqM (spL (e:=7) h1 (fun x _ q hx=>sp (by omega) hx))) (clL h1 (fun x _ q hx=>yU (by omega) hx)) hR
 obtain⟨o1,rfl,ho⟩:=tR e3
 obtain⟨R',k1,k2,_⟩:=cZ (f':=rd 6 (hf cs)) (Z:=fun i=>∃b,F i=some b) ho h1 (fun x' x q a b=>qC e2 a b)
 exact⟨_,_,by simp[ad6,h2,e1],q _ _ _ k1 k2 e4⟩
theorem Fe{C:R→Prop}[n:NoN C]{r:R}(h:∀K:R→Prop,NoN K→(∀x,C x→K x)→K r):C r:=h C n fun _ h=>h
theorem tG{v:AV}{H:Aa}{b:Nat}(l:List CB)(hb:b<H.length)(hv:∀a c r m,v=.slr a c r m→c≠b):(kl 0 v H++l)[b]?=H[b]?:=by
 rw[adQ (by rw[Ek];exact hb)]
 unfold kl
 split
 ·rename_i a c r m
  rw[adP];simpa using hv a c r m rfl
 ·rfl
theorem iH{H:Aa}{b:Nat}{z:Nat × Bool × List (List AV)}(h:(hf H b).bind Bw=some z):b<H.length:=by
 obtain⟨c,hc,_⟩:=acI.1 h
 exact(adM.1 hc).1
theorem Zu{g g':HF}{d:Nat}{l:List AV}{p:List AV × List Nat}(h:Nn (rd d g) l=some p)(ha:Agr p.2 g g'):Nn (rd d g') l=some p:=
 Yw h fun _ _ _ hq hs=>bJ hq fun b hb=>ha b (hs b hb)
theorem bA{g g':HF}{d:Nat}{l:List (List AV)}{p:List (List AV) × List Nat}(h:Bz (rd d g) l=some p)(ha:Agr p.2 g g'):Bz (rd d g') l=some p:=
 Td h fun _ _ _ _ _ hq hs=>bJ hq fun b hb=>ha b (hs b hb)
theorem eC{H:Aa}{d:Nat}{l:List AV}{p:List AV × List Nat}(hd:d≤9)(h:Nn (rd d (hf H)) l=some p):∀b∈p.2,b<H.length:=fun b hb=>by
 obtain⟨z,hz,_⟩:=clL h (fun x _ q hx=>yU hd hx) b hb
 exact iH hz
theorem dU{H:Aa}{d:Nat}{l:List (List AV)}{p:List (List AV) × List Nat}(hd:d≤9)(h:Bz (rd d (hf H)) l=some p):∀b∈p.2,b<H.length:=fun b hb=>by
 obtain⟨z,hz,_⟩:=clR h (fun r _ x _ q hx=>yU hd hx) b hb
 exact iH hz
theorem kZ{f:AV→Option (AV × List Nat)}:∀{l:List (List AV)} {p:List (List AV) × List Nat},Bz f l=some p→l.length=p.1.length
 | [],p,h=>by simp[Bz]at h;subst h;rfl
 |a::l,p,h=>by
  simp only[Bz,acI,abQ]at h
  obtain⟨q,hq,r,hr,rfl⟩:=h
  simp[kZ hr]
theorem jJ{f:AV→Option (AV × List Nat)}:∀{l:List (List AV)} {p:List (List AV) × List Nat} {i:Nat} {X:List AV},Bz f l=some p→p.1[i]?=some X→∃r R,l[i]?=some r∧Nn f r=some (X,R)
 | [],p,i,X,h,hx=>by simp[Bz]at h;subst h;simp at hx
 |a::l,p,i,X,h,hx=>by
  simp only[Bz,acI,abQ]at h
  obtain⟨q,hq,r,hr,rfl⟩:=h
  cases i with
  |zero=>simp at hx;subst hx;exact⟨a,q.2,rfl,hq⟩
  |succ i=>simp at hx;obtain⟨r',R',k1,k2⟩:=jJ hr hx;exact⟨r',R',by simpa using k1,k2⟩
theorem yX{f:AV→Option (AV × List Nat)}:∀{l:List AV} {p:List AV × List Nat},Nn f l=some p→l.length=p.1.length
 | [],p,h=>by simp[Nn]at h;subst h;rfl
 |a::l,p,h=>by
  simp only[Nn,acI,abQ]at h
  obtain⟨q,hq,r,hr,rfl⟩:=h
  simp[yX hr]
theorem Em{f:AV→Option (AV × List Nat)}{l xs:List AV}{x:AV}{R:List Nat}(h:Nn f l=some (x::xs,R)):∃a l' R1 R2,l=a::l'∧f a=some (x,R1)∧Nn f l'=some (xs,R2)∧R=R1++R2:=by
 cases l with
 |nil=>simp[Nn]at h
 |cons a l=>
  simp only[Nn,acI,abQ]at h
  obtain⟨q,hq,r,hr,he⟩:=h
  simp only[Prod.mk.injEq,List.cons.injEq]at he
  obtain⟨⟨rfl,rfl⟩,rfl⟩:=he
  exact⟨a,l,q.2,r.2,rfl,hq,hr,rfl⟩
theorem cS{f:AV→Option (AV × List Nat)}{l:List AV}{R:List Nat}(h:Nn f l=some ([],R)):l=[]∧R=[]:=by
 cases l with
 |nil=>simp[Nn]at h;exact⟨rfl,h⟩
 |cons a l=>have:=yX h;simp at this
theorem pI{g:HF}{d:Nat}{v:AV}{xs:List AV}{R:List Nat}(h:rd (d+1) g v=some (.agg xs,R)):∃cs,v=.agg cs∧Nn (rd d g) cs=some (xs,R):=by
 cases v with
 |slr st b r len=>
  simp only[rd,acI]at h
  obtain⟨z,_,h⟩:=h
  split at h
  ·cases hfl:z.2.1<;>rw[hfl]at h<;>simp at h
  ·cases h
 |agg cs=>
  simp only[rd,abQ]at h
  obtain⟨q,hq,he⟩:=h
  simp only[Prod.mk.injEq,AV.agg.injEq]at he
  obtain⟨rfl,rfl⟩:=he
  exact⟨cs,rfl,hq⟩
 |func fn a b=>cases a<;>cases b<;>simp[rd]at h
 |iface t x=>simp[rd]at h
 |_=>simp[rd]at h
theorem lE{g:HF}{d:Nat}{v:AV}{k:IntKind}{n:Int}{R:List Nat}(h:rd (d+1) g v=some (.int k n,R)):v=.int k n∧R=[]:=by
 cases v with
 |slr st b r len=>
  simp only[rd,acI]at h
  obtain⟨z,_,h⟩:=h
  split at h
  ·cases hfl:z.2.1<;>rw[hfl]at h<;>simp at h
  ·cases h
 |func fn a b=>cases a<;>cases b<;>simp[rd]at h
 |int k' n'=>simp[rd]at h;exact⟨by simp[h],h.2⟩
 |agg cs=>simp[rd]at h
 |iface t x=>simp[rd]at h
 |_=>simp[rd]at h
theorem aN{g:HF}{d st:Nat}{fl nn:Bool}{v:AV}{rows:List (List AV)}{R:List Nat}(h:rd (d+1) g v=some (Az st fl nn rows,R)):v.isCell=true∧v.flat=false:=by
 have hs:Az st fl nn rows=.nils∨∃r,Az st fl nn rows=.imm st fl r:=by
  cases rows with
  |nil=>cases nn with
   |true=>exact .inr ⟨_,rfl⟩
   |false=>exact .inl rfl
  |cons=>exact .inr ⟨_,rfl⟩
 generalize Az st fl nn rows=X at h hs
 cases v with
 |func fn a b=>cases a<;>cases b<;>first|exact⟨rfl,rfl⟩|(simp[rd]at h)
 |agg cs=>simp only[rd,abQ]at h;obtain⟨_,_,h⟩:=h;simp only[Prod.mk.injEq]at h;obtain⟨h,_⟩:=h;subst h;rcases hs with hs|⟨_,hs⟩<;>cases hs
 |ptr b r o=>exact⟨rfl,rfl⟩
 |yl b=>exact⟨rfl,rfl⟩
 |tup cs=>simp[rd]at h
 |bool b=>simp[rd]at h;obtain⟨h,_⟩:=h;subst h;rcases hs with hs|⟨_,hs⟩<;>cases hs
 |int k n=>simp[rd]at h;obtain⟨h,_⟩:=h;subst h;rcases hs with hs|⟨_,hs⟩<;>cases hs
 |str s=>simp[rd]at h;obtain⟨h,_⟩:=h;subst h;rcases hs with hs|⟨_,hs⟩<;>cases hs
 |_=>exact⟨rfl,rfl⟩
theorem uN{g:HF}{d st:Nat}{fl nn:Bool}{v:AV}{rows:List (List AV)}{R:List Nat}(h:rd (d+1) g v=some (Az st fl nn rows,R)):
 (v=.nils∧rows=[])∨∃b rows',v=.slr st b 0 rows.length∧(g b).bind Bw=some (st,fl,rows')∧rows'.length=rows.length∧(fl=true→rows'=rows)∧(fl=false→∃R',Bz (rd d g) rows'=some (rows,R')):=by
 have hs:(Az st fl nn rows=.nils∧rows=[])∨Az st fl nn rows=.imm st fl rows:=by
  cases rows with
  |nil=>cases nn with
   |true=>exact .inr rfl
   |false=>exact .inl ⟨rfl,rfl⟩
  |cons=>exact .inr rfl
 generalize Az st fl nn rows=X at h hs
 cases v with
 |nils=>simp[rd]at h;obtain⟨rfl,_⟩:=h;rcases hs with⟨_,hs⟩|hs
        ·exact .inl ⟨rfl,hs⟩
        ·cases hs
 |slr st' b r len=>
  simp only[rd,acI]at h
  obtain⟨z,hz,h⟩:=h
  split at h
  ·rename_i hq
   obtain⟨q1,rfl,q3⟩:=hq
   obtain⟨z1,z2,z3⟩:=z
   simp only at q1 q3 h
   subst q1
   cases z2 with
   |true=>
    simp at h
    obtain⟨rfl,_⟩:=h
    rcases hs with⟨hs,_⟩|hs
    ·cases hs
    ·cases hs
     exact .inr ⟨b,_,by rw[q3],acI.2 hz,rfl,fun _=>rfl,fun e=>by cases e⟩
   |false=>
    simp only[cond_false,abQ]at h
    obtain⟨q,hq,he⟩:=h
    simp only[Prod.mk.injEq]at he
    obtain⟨rfl,_⟩:=he
    rcases hs with⟨hs,_⟩|hs
    ·cases hs
    ·cases hs
     have hl:z3.length=q.1.length:=kZ hq
     exact .inr ⟨b,z3,by rw[q3,hl],acI.2 hz,hl,fun e=>(by cases e),fun _=>⟨q.2,hq⟩⟩
  ·cases h
 |func fn a b=>cases a<;>cases b<;>simp[rd]at h<;>(obtain⟨rfl,_⟩:=h;rcases hs with⟨hs,_⟩|hs<;>cases hs)
 |agg cs=>simp only[rd,abQ]at h;obtain⟨_,_,h⟩:=h;simp only[Prod.mk.injEq]at h;obtain⟨rfl,_⟩:=h;rcases hs with⟨hs,_⟩|hs<;>cases hs
 |iface t x=>simp only[rd,abQ]at h;obtain⟨_,_,h⟩:=h;simp only[Prod.mk.injEq]at h;obtain⟨rfl,_⟩:=h;rcases hs with⟨hs,_⟩|hs<;>cases hs
 |ptr b r o=>simp[rd]at h
 |yl b=>simp[rd]at h
 |tup cs=>simp[rd]at h
 |imm=>simp[rd]at h
 |iptr=>simp[rd]at h
 |_=>simp[rd]at h;obtain⟨rfl,_⟩:=h;rcases hs with⟨hs,_⟩|hs<;>cases hs
theorem amR{H:Aa}{b st:Nat}{fl:Bool}{rows:List (List AV)}(h:(hf H b).bind Bw=some (st,fl,rows))(i:Nat):Nl (H[b]?) i=rows[i]?:=by
 obtain⟨c,hc,hz⟩:=acI.1 h
 rw[show H[b]?=some c from hc]
 cases c<;>simp[Bw]at hz<;>(obtain⟨_,_,rfl⟩:=hz;rfl)
theorem ap1{n:Nat}{rows:List (List AV)}{v:AV}{H:Aa}(ho:Ep 0 n false rows v H){d:Nat}{q:List (List AV) × List Nat}(hq:Bz (rd d (hf H)) rows=some q)(hn:rows=[]→v=.nils):
 ∃R,rd (d+1) (hf H) v=some (Az n false false q.1,R)∧R.length≤1+q.2.length:=by
 rcases ho with⟨rfl,rfl⟩|⟨b,w,rfl,hb⟩
 ·simp[Bz]at hq;subst hq;exact⟨[],by simp[rd,Az],by simp⟩
 ·have hne:rows≠[]:=fun e=>by have:=hn e;cases this
  have hb':(hf H (b+0)).bind Bw=some (n,false,rows):=by show(H[b]?).bind Bw=_;rw[hb];rfl
  refine⟨(b+0)::q.2,?_,by simp;omega⟩
  simp only[rd,hb',acQ,if_true,and_self,cond_false,hq,adO]
  have hl:q.1≠[]:=fun e=>by
   cases rows with
   |nil=>exact hne rfl
   |cons r rs=>
    simp only[Bz,acI,abQ]at hq
    obtain⟨_,_,_,_,rfl⟩:=hq
    cases e
  cases hq1:q.1 with
  |nil=>exact absurd hq1 hl
  |cons r rs=>rfl
theorem Gw{g:HF}{d:Nat}(k:IntKind)(n:Int):rd (d+1) g (.int k n)=some (.int k n,[]):=rfl
theorem aeK{g:HF}{d:Nat}:rd (d+1) g .nils=some (.nils,[]):=rfl
theorem tW{g:HF}{d st b n:Nat}{rows:List (List AV)}(h:(g b).bind Bw=some (st,true,rows))(hn:n=rows.length):rd (d+1) g (.slr st b 0 n)=some (.imm st true rows,[b]):=by
 subst hn;simp[rd,h]
theorem Jg{g:HF}{d:Nat}{cs xs:List AV}{R:List Nat}(h:Nn (rd d g) cs=some (xs,R)):rd (d+1) g (.agg cs)=some (.agg xs,R):=by simp[rd,h]
theorem Ii{f:AV→Option (AV × List Nat)}:Nn f []=some ([],[]):=rfl
theorem Ae{f:AV→Option (AV × List Nat)}{a x:AV}{l xs:List AV}{R1 R2:List Nat}(h1:f a=some (x,R1))(h2:Nn f l=some (xs,R2)):Nn f (a::l)=some (x::xs,R1++R2):=by simp[Nn,h1,h2]
theorem ao9{x:Option (List AV)}{vs:List AV}{h:Aa}{Q:Ea→Aa→Prop}(hx:x=some vs)(k:Rt 0 (some vs) h Q):Rt 0 x h Q:=hx▸k
theorem RdT.of{O:Ez}{f:Nat}{vs xs:List AV}{k:Nat}(h:Vg O f vs [] fun o h'=>∃outs R,o=.ret (.tup outs)∧Nn (rd 6 (hf h')) outs=some (xs,R)∧R.length≤k∧∀c∈h',Rnm c):RdT O f vs xs k:=by
 obtain⟨o,h',e,v,R,rfl,k1,k2,k3⟩:=h
 exact⟨v,h',R,e,k1,k2,k3⟩
theorem fP{f:AV→Option (AV × List Nat)}:∀{l:List (List AV)} {p:List (List AV) × List Nat} {r:List AV} {q:List AV × List Nat},Bz f l=some p→Nn f r=some q→Bz f (l++[r])=some (p.1++[q.1],p.2++q.2)
 | [],p,r,q,h,hr=>by simp[Bz]at h;subst h;simp[Bz,hr]
 |a::l,p,r,q,h,hr=>by
  simp only[Bz,acI,abQ]at h
  obtain⟨q1,hq1,r1,hr1,rfl⟩:=h
  simp[Bz,hq1,fP hr1 hr]
section
variable {P:Program} {O:Ez}
def zY(P:Program)(ty:TypeId)(a:Option AV)(l h:Option (Option AV)):OE:=r1 (a.bind fun a=>l.bind fun l=>h.bind fun h=>Yr P ty a l h)
theorem Vh(t:List AV)(h:Aa)(ty:TypeId)(x:Operand)(lo hi:Option Operand):Ej O P t h (.slice ty x lo hi none)=zY P ty (Af t x) (dW t lo) (dW t hi):=by
 rw[Di _ _ _ rfl]
 simp only[exec,zY]
 cases Af t x with
 |none=>rfl
 |some a=>
  cases dW t lo with
  |none=>rfl
  |some l=>
   cases dW t hi with
   |none=>rfl
   |some h=>exact Ge _
def oS(x:Option AV):Option (Option AV):=x.map some
theorem Zv(v:AV):oS (some v)=some (some v):=acL rfl rfl
theorem Qw(t:List AV):dW t none=some none:=acL rfl rfl
theorem Qx(t:List AV)(x:Operand):dW t (some x)=oS (Af t x):=acL rfl rfl
theorem apM{ty:TypeId}{n:Nat}(hs:SlT P ty n)(fl:Bool)(rows:List (List AV))(i:Nat)(hi:i≤rows.length):zY P ty (some (.imm n fl rows)) (some none) (some (some (.int .i64 i)))=some (.ret (.imm n fl (rows.take i)),[]):=by
 obtain⟨e,h1,h2⟩:=hs
 simp only[zY,acQ,Yr,h1,h2,Ja]
 simp[hi,r1]
theorem arP{ty:TypeId}{n:Nat}(hs:SlT P ty n)(fl:Bool)(rows:List (List AV))(i:Nat)(hi:i≤rows.length):zY P ty (some (.imm n fl rows)) (some (some (.int .i64 i))) (some none)=some (.ret (.imm n fl (rows.drop i)),[]):=by
 obtain⟨e,h1,h2⟩:=hs
 simp only[zY,acQ,Yr,h1,h2,Ja]
 simp[hi,r1,List.take_of_length_le]
theorem aoU{ty:TypeId}{n:Nat}(hs:SlT P ty n):zY P ty (some .nils) (some none) (some (some (.int .i64 0)))=some (.ret .nils,[]):=by
 obtain⟨e,h1,h2⟩:=hs
 simp only[zY,acQ,Yr,h1,h2,Ja]
 simp[r1]
theorem aqU{ty:TypeId}{n:Nat}(hs:SlT P ty n):zY P ty (some .nils) (some (some (.int .i64 0))) (some none)=some (.ret .nils,[]):=by
 obtain⟨e,h1,h2⟩:=hs
 simp only[zY,acQ,Yr,h1,h2,Ja]
 simp[r1]
end
end Go.Ev
