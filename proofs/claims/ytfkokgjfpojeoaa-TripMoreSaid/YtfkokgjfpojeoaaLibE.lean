/- The evaluator and its soundness. -/
import Derived.Test.YtfkokgjfpojeoaaLibD
open And renaming intro→aaT
open Eq renaming trans→aa7
open Bool renaming and_eq_true→abB
set_option linter.unusedSimpArgs false
set_option linter.unusedVariables false
namespace Go.Ev
noncomputable section
open Go.RowKit
set_option maxRecDepth 100000
section
variable {P:Program} {O:Orc}
class Spl(r:R)(b:outParam Bool)(x y:outParam R):Prop where
 sp:∀{C:R→Prop},(b=true→C x)→(b=false→C y)→C r
instance{n:Nat}{k:List Zc}{d:Option Nat}{op:Op}{cs:List CO}{b w:Bool}{t:List AV}{h:Gq}:Spl (rcG O P n k d op cs (.bool b) w t h) b (rcG O P n k d op cs (.bool true) w t h) (rcG O P n k d op cs (.bool false) w t h):=⟨bdO⟩
instance{n:Nat}{x y:Code}{k:List Zc}{g:Bool}{s:St}:Spl (cdK O P n x y k (some (.bool g)) s) g (xP O P n x k s) (xP O P n y k s):=⟨bc8⟩
instance{n:Nat}{k:List Zc}{d:Option Nat}{op:Op}{cs:List CO}{b w:Bool}{t:List AV}{h:Gq}:Spl (rqG O P n k d op cs (.bool b) w t h) b (rqG O P n k d op cs (.bool true) w t h) (rqG O P n k d op cs (.bool false) w t h):=⟨bdA⟩
instance{n:Nat}{k:List Zc}{d:Option Nat}{op:Op}{cs:List CO}{b w:Bool}{t:List AV}{h:Gq}:Spl (rwG O P n k d op cs (.bool b) w t h) b (rwG O P n k d op cs (.bool true) w t h) (rwG O P n k d op cs (.bool false) w t h):=⟨bfB⟩
instance{n:Nat}{k:List Zc}{ops:List Oper}{d:Option Nat}{op:Op}{cs:List CO}{b w:Bool}{t:List AV}{h:Gq}{log:Log}:Spl (rlG O P n k ops d op cs (.bool b) w t h log) b (rlG O P n k ops d op cs (.bool true) w t h log) (rlG O P n k ops d op cs (.bool false) w t h log):=⟨beC⟩
theorem tQ{C:R→Prop}{r x y:R}{b:Bool}(h1:b=true→C x)(h2:b=false→C y)(s:Spl r b x y:=by infer_instance):C r:=s.sp h1 h2
class Drw(i:Nat)(r:R)(c:outParam Bool)(r':outParam R):Prop where
 dr:∀{C:R→Prop},¬C none→c=true→C r'→C r
instance{b:Bool}{k:R}:Drw 0 (abV b k) b k:=⟨fun _=>bfL⟩
instance{n id:Nat}{ops:Array Oper}{k:List Zc}{t:List AV}{h:Gq}:Drw 1 (xP O P (n+1) (.region id ops true) k ⟨t,h⟩) (aeF ops.toList&&aZA ops.toList) (rw O P n k (ops.toList.map (abT ops.toList)) t h):=⟨fun h=>beR h⟩
instance{n id:Nat}{ops:Array Oper}{k:List Zc}{t:List AV}{h:Gq}:Drw 2 (xP O P (n+1) (.region id ops true) k ⟨t,h⟩) (aeF ops.toList&&bfF ops.toList) (rq O P n k (ops.toList.map (abT ops.toList)) t h):=⟨fun h=>bfJ h⟩
instance{n id:Nat}{ops:Array Oper}{k:List Zc}{t:List AV}{h:Gq}:Drw 3 (xP O P (n+1) (.region id ops true) k ⟨t,h⟩) (aeF ops.toList) (rl O P n k ops.toList (ops.toList.map (abT ops.toList)) t h []):=⟨fun h=>beK h⟩
structure Dw(r r':R):Prop where
 dr:∀{C:R→Prop},¬C none→C r'→C r
theorem dg{r r':R}{c:Bool}[d:Drw 0 r c r'](h:c=true:=by kernel_rfl):Dw r r':=⟨fun n k=>d.dr n h k⟩
theorem dw(i:Nat){r r':R}{c:Bool}[d:Drw i r c r'](h:c=true:=by decide+kernel):Dw r r':=⟨fun n k=>d.dr n h k⟩
theorem fd{C:R→Prop}{r r':R}[n:NoN C](k:C r')(e:Dw r r':=by first|exact dg|exact dw 1|exact dw 2|exact dw 3):C r:=e.dr n.no k
end
section
variable {P:Program} {O:Orc}
def Un(O:Orc)(P:Program)(n:Nat)(k:List Zc)(c:Code)(C:R→Prop):R→Prop
 |some (.normal,s)=>C (lpK O P n k (O.loop c s))
 |some (e,s)=>C (tY (xP O P n) k e s)
 |none=>False
theorem a0F(n:Nat)(k:List Zc)(c:Code)(C:R→Prop)(s:St):Un O P n k c C (some (.normal,s))=C (lpK O P n k (O.loop c s)):=aa7 rfl rfl
theorem a65(n:Nat)(k:List Zc)(c:Code)(C:R→Prop)(i:Nat)(s:St):Un O P n k c C (some (.exit i,s))=C (tY (xP O P n) k (.exit i) s):=aa7 rfl rfl
theorem bbV(n:Nat)(k:List Zc)(c:Code)(C:R→Prop)(s:St):Un O P n k c C (some (.ret,s))=C (tY (xP O P n) k .ret s):=aa7 rfl rfl
instance{n:Nat}{k:List Zc}{c:Code}{C:R→Prop}:NoN (Un O P n k c C):=⟨fun h=>h⟩
theorem bd5{pr:acG}{C:R→Prop}[N:NoN C]{n:Nat}{k:List Zc}{c:Code}{s:St}(h:Un (om P pr) P n k c C (xP (om P pr) P 5000 c [] s)):C (lpK (om P pr) P n k ((om P pr).loop c s)):=by
 cases hm:xP (om P pr) P 5000 c [] s with
 |none=>rw[hm]at h;exact h.elim
 |some x=>
  obtain⟨e,s'⟩:=x
  rw[hm]at h
  cases e with
  |normal=>
   replace h:C (lpK (om P pr) P n k ((om P pr).loop c s')):=h
   cases hl:(om P pr).loop c s' with
   |none=>rw[hl]at h;exact(N.no h).elim
   |some y=>
    obtain⟨e,s''⟩:=y
    rw[hl]at h
    rw[aF0 hm hl];exact h
  |exit i=>rw[abQ hm (by simp)];exact h
  |ret=>rw[abQ hm (by simp)];exact h
  |pan v=>rw[abQ hm (by simp)];exact h
end
theorem a46:IntKind.i64.wrap 1=1:=aa7 rfl rfl
def EE:=PLift.up (aaT EVZ.down (aaT @a46 (aaT @a0F (aaT @a65 (aaT @bbV (aaT @abT.eq_1 (aaT @Pq.eq_1 (aaT @Pq.eq_2 (aaT @Pq.eq_4 (aaT @lN.eq_1 (aaT @lN.eq_2 (aaT @aT4.eq_3 (aaT @aQ6.eq_1 (aaT @aQ6.eq_2 (aaT @aQ6.eq_5 (aaT @aaQ.eq_1 (aaT @aaQ.eq_2 (aaT @anC.eq_1 (aaT @anC.eq_2 (aaT @anC.eq_3 (aaT @ac5.eq_1 (aaT @sX.eq_1 (aaT @bsK.eq_1 (aaT @aF9.eq_1 (aaT @aF9.eq_2 (aaT @decide_true @decide_false))))))))))))))))))))))))))
def EF:=PLift.up (aaT EE.down EVr.down)
def EG:=PLift.up (aaT EF.down EVs.down)
end
noncomputable section
open Go.RowKit
end
end Go.Ev
namespace Go.Ev
open Go.RowKit
structure Kp(lent:List Nat)(H H1:Gq):Prop where
 len:H.length≤H1.length
 rows:∀b,b<H.length→(hf H1 b).bind a8V=(hf H b).bind a8V
 same:∀b,b<H.length→b∉lent→H1[b]?=H[b]?
end Go.Ev
namespace Go.Ev
noncomputable section
open Go.RowKit
theorem hid{C:R→Prop}[n:NoN C]{r:R}(h:∀K:R→Prop,NoN K→(∀x,C x→K x)→K r):C r:=h C n fun _ h=>h
end
noncomputable section
open Go.RowKit
section
variable {P:Program} {O:Orc}
def slx(P:Program)(ty:TypeId)(a:Option AV)(l h:Option (Option AV)):OE:=r1 (a.bind fun a=>l.bind fun l=>h.bind fun h=>aSR P ty a l h)
theorem a3Y(t:List AV)(h:Gq)(ty:TypeId)(x:Operand)(lo hi:Option Operand):aa0 O P t h (.slice ty x lo hi none)=slx P ty (Pq t x) (aP5 t lo) (aP5 t hi):=by
 rw[aaB _ _ _ rfl]
 simp only[exec,slx]
 cases Pq t x with
 |none=>rfl
 |some a=>
  cases aP5 t lo with
  |none=>rfl
  |some l=>
   cases aP5 t hi with
   |none=>rfl
   |some h=>exact abI _
def oS(x:Option AV):Option (Option AV):=x.map some
theorem a7V(v:AV):oS (some v)=some (some v):=aa7 rfl rfl
theorem a0W(t:List AV):aP5 t none=some none:=aa7 rfl rfl
theorem a0E(t:List AV)(x:Operand):aP5 t (some x)=oS (Pq t x):=aa7 rfl rfl
theorem a99{ty:TypeId}{n:Nat}(hs:SlT P ty n)(fl:Bool)(rows:List (List AV))(i:Nat)(hi:i≤rows.length):slx P ty (some (.imm n fl rows)) (some none) (some (some (.int .i64 i)))=some (.ret (.imm n fl (rows.take i)),[]):=by
 obtain⟨e,h1,h2⟩:=hs
 simp only[slx,Option.bind_some,aSR,h1,h2,adF]
 simp[hi,r1]
end
end
noncomputable section
set_option maxRecDepth 100000
section
variable {P:Program} {G:Nat→Option Obj}
end
section
variable {P:Program}
theorem bbY{ty:TypeId}{n:Nat}(hs:SlT P ty n)(fl nn:Bool){rows:List (List AV)}{i:Nat}(hi:i<rows.length):slx P ty (some (Rr n fl nn rows)) (some none) (some (some (.int .i64 i)))=some (.ret (.imm n fl (rows.take i)),[]):=by
 cases rows with
 |nil=>simp at hi
 |cons r rs=>rw[a3A];exact a99 hs fl _ i (by omega)
end
def lsE(e:AV→AV→Bool):List AV→List AV→Bool
 | [],[]=>true
 |a::l,b::r=>e a b&&lsE e l r
 |_,_=>false
def rsE(e:AV→AV→Bool):List (List AV)→List (List AV)→Bool
 | [],[]=>true
 |a::l,b::r=>lsE e a b&&rsE e l r
 |_,_=>false
def avE:Nat→AV→AV→Bool
 |0,_,_=>false
 |d+1,x,y=>
  match x,y with
  | .bool a,.bool b=>a==b
  | .int k a,.int j b=>k==j&&a==b
  | .str a,.str b=>a==b
  | .nils,.nils=>true
  | .imm n f r,.imm n' f' r'=>n==n'&&f==f'&&rsE (avE d) r r'
  | .agg a,.agg b=>lsE (avE d) a b
  |_,_=>false
theorem aUO{e:AV→AV→Bool}(h:∀a b,e a b=true→a=b):∀{l r:List AV},lsE e l r=true→l=r
 | [],[],_=>rfl
 |a::l,b::r,k=>by
  simp only[lsE,abB]at k
  rw[h a b k.1,aUO h k.2]
 | [],_::_,k=>by cases k
 |_::_,[],k=>by cases k
theorem a36{e:AV→AV→Bool}(h:∀a b,e a b=true→a=b):∀{l r:List (List AV)},rsE e l r=true→l=r
 | [],[],_=>rfl
 |a::l,b::r,k=>by
  simp only[rsE,abB]at k
  rw[aUO h k.1,a36 h k.2]
 | [],_::_,k=>by cases k
 |_::_,[],k=>by cases k
theorem aYB:∀{d:Nat} {x y:AV},avE d x y=true→x=y
 |0,_,_,h=>by cases h
 |d+1,x,y,h=>by
  unfold avE at h
  split at h
  ·simp at h;rw[h]
  ·simp at h;rw[h.1,h.2]
  ·simp at h;rw[h]
  ·rfl
  ·simp only[abB,beq_iff_eq]at h
   rw[h.1.1,h.1.2,a36 (fun a b k=>aYB k) h.2]
  ·rw[aUO (fun a b k=>aYB k) h]
  ·cases h
structure Ent where
 f:Nat
 args:List AV
 res:Out × Gq
def bdV(tab:List Ent)(f:Nat)(a:List AV)(h:Gq):Option (Out × Gq):=
 match h with
 | []=>(tab.find? fun e=>e.f==f&&lsE (avE 8) e.args a).map (·.res)
 |_=>none
def aPY(pr:acG)(tab:List Ent):acG:=⟨fun f=>if tab.any (·.f==f)=true then some (bdV tab f)else pr f,pr.md⟩
theorem aKL{O:Orc}{pr:acG}{tab:List Ent}(h0:∀f p,pr f=some p→∀a h r,p a h=some r→O.call (.fn f) a h=some r)(h1:∀e∈tab,O.call (.fn e.f) e.args []=some e.res):
 ∀f p,aPY pr tab f=some p→∀a h r,p a h=some r→O.call (.fn f) a h=some r:=by
 intro f p hp a h r hr
 simp only[aPY]at hp
 split at hp
 ·cases hp
  unfold bdV at hr
  split at hr
  ·obtain⟨e,he,rfl⟩:=Option.map_eq_some_iff.1 hr
   have h2:=List.find?_some he
   simp only[abB,beq_iff_eq]at h2
   rw[←h2.1,←aUO (fun a b k=>aYB k) h2.2]
   exact h1 e (List.mem_of_find?_eq_some he)
  ·cases hr
 ·exact h0 f p hp a h r hr
def EVu:=PLift.up (aaT @a3Y (aaT @a0W (aaT @a0E @a7V)))
end
end Go.Ev
