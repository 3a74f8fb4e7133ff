/- The functions of the layer, walked. -/
import Derived.Test.YtcncggaobhbomaaGreatDoorPartAD
import Derived.Test.YtcncggaobhbomaaGreatDoorPartAE
set_option linter.unusedSimpArgs false
set_option linter.unusedVariables false
namespace Go.Proofs.YtcncggaobhbomaaGreatDoor
open Go.Ev Go Go.Ev.Net
set_option maxRecDepth 100000
set_option maxHeartbeats 16000000
structure AdI(w:Qh)(N:Nat)(l:List Vg)(d:Int)(z:Qh)(f:Nat):Prop where
 ok:qK z N
 small:z.small
 plan:bF z d l (f:Int)=0
 len:z.parts.length=w.parts.length
 cho:∀s,Tj z N s=Tj w N s
 bsE:∀s,bs z N l s=bs w N l s
 fin:bs w N l (Qb z d,f)<Ud
theorem AdI.next{w:Qh}{N:Nat}{l:List Vg}{d:Int}{z:Qh}{f:Nat}(A:AdI w N l d z f)(hl:l.length≤maxLen){o:Zh}(ho:o∈Tj z N (Qb z d,f))(he:kZ (bs z N l) o=bs z N l (Qb z d,f)){p:Qc}(hp:z.parts[o.i]?=some p)(b:Bool)(hb:b=false→o.k=3∧0<f):
 aM p (Re p d,p.opn) o.k=true∧Xq z N (Qb z d) o.k o.i b (Re p d,p.opn)=true∧fU p o.k=o.c∧1≤o.c∧o.c≤1000∧(o.k=1∨o.k=2∨o.k=3∨o.k=4)∧AdI w N l d (Qq z o.i (Qw p d o.k b)) (if b=true then f else f-1)∧
  Xy w N l (Qb z d,f) (Qb (Qq z o.i (Qw p d o.k b)) d,if b=true then f else f-1)∧bs w N l (Qb (Qq z o.i (Qw p d o.k b)) d,if b=true then f else f-1)+o.c.toNat≤bs w N l (Qb z d,f):=by
 obtain⟨h6,hwb,hdb,hgb,_,hf3⟩:=aQ A.plan
 obtain⟨p',x,I⟩:=dE.1 ho
 have hp':=I.hp
 rw[hp]at hp'
 cases hp'
 have hx:=bA (d:=d) hp
 have hx':(Qb z d)[o.i]?=some x:=I.hx
 rw[hx]at hx'
 cases hx'
 have hil:=(List.getElem?_eq_some_iff.1 hp).1
 have hcR:ab5 p d o.k=true:=by rw[←ak7 hwb hp];exact I.can
 have hsf:Xq z N (Qb z d) o.k o.i b (Re p d,p.opn)=true:=by
  rw[acH A.ok (by omega) hp I.k4 b hcR,←acH A.ok (by omega) hp I.k4 true hcR];exact I.safe
 have hpr:=jJ hwb hp o.k
 rw[←I.c]at hpr
 have hdd:0≤d∧d≤5000:=by simpa [aS,Ye]using hdb
 have hq:=aa3 (mR hwb hp) hdb hcR b
 have hends:=aoB p d o.k b
 have hpc:Qb (Qq z o.i (Qw p d o.k b)) d=(Qb z d).set o.i (Tf o.k b (Re p d,p.opn)):=by
  rw[pC hil,akH (mR hwb hp) I.k4 hdb]
 have hmem:(Qb (Qq z o.i (Qw p d o.k b)) d,if b=true then f else f-1)∈o.to:=by
  rw[hpc,I.to,jH]
  cases b with
  |true=>exact .inl rfl
  |false=>exact .inr ⟨(hb rfl).1,(hb rfl).2,rfl⟩
 have hbs:=A.bsE
 have hfin:=A.fin
 have hle:bs w N l (Qb (Qq z o.i (Qw p d o.k b)) d,if b=true then f else f-1)+o.c.toNat≤bs w N l (Qb z d,f):=by
  have h1:=qE.mx_le (f:=bs z N l) hmem
  unfold kZ at he
  rw[hbs]at he h1
  omega
 refine⟨I.can,hsf,I.c.symm,hpr.1,hpr.2,I.k4,⟨atQ A.ok hp hends.1 hends.2,rR A.small (abS (A.small.fits p (List.mem_of_getElem? hp)) hdd o.k b),aqL A.plan hq (by omega) (by split<;>omega),by rw[Qk];exact A.len,fun s=>by rw[zL hp (rT p d o.k b)];exact A.cho s,fun s=>by rw[aRT hp (rT p d o.k b)];exact hbs s,by omega⟩,⟨o,by rw[←A.cho];exact ho,hmem,hle,hfin⟩,hle⟩
theorem ayL(w:Qh)(d:Int)(f:Nat):uP (Qb w d,f)≤w.parts.length+f:=by
 have h1:∀L:List Qc,((L.map fun p=>(Re p d,p.opn)).map fun x:Int × Bool=>if x.1=0 then 0 else 1).sum≤L.length:=by
  intro L
  induction L with
  |nil=>exact Nat.le_refl _
  |cons a L ih=>
   simp only[List.map_cons,List.sum_cons,List.length_cons]
   split<;>omega
 have h2:∀n:Nat,((List.replicate n ((0:Int),false)).map fun x:Int × Bool=>if x.1=0 then 0 else 1).sum=0:=by
  intro n
  induction n with
  |zero=>rfl
  |succ n ih=>simp only[List.replicate_succ,List.map_cons,List.sum_cons,ih];rfl
 have h3:=h1 w.parts
 have h4:=h2 (12-w.parts.length)
 unfold uP Qb
 rw[List.map_append,List.sum_append]
 omega
theorem ahK{w:Qh}{N:Nat}(hw:qK w N){l:List Vg}(hl:l.length≤maxLen){d:Int}{f:Nat}(h:bF w d l f=0)(h5:w.parts.length≤5)(tr:Nat→St)(m:Nat)(h0:tr 0=(Qb w d,f))(hs:∀j,j<m→Xy w N l (tr j) (tr (j+1))):m+1≤180:=by
 obtain⟨h6,hwb,hdb,hgb,_,hf3⟩:=aQ h
 have hlp:=dR (by omega) hgb
 exact acS hwb h5 (s0:=(Qb w d,f)) (by show f≤3;omega) (fun s hu=>zT hw hwb h6 hu.l12 hu.dg (Nat.le_trans hu.fl (by show f≤3;omega)) l hl (fun x hx=>by have:=hlp x hx;omega)) (by have:=ayL w d f;omega) tr m h0 ⟨bJ (by omega),rH w d,rfl,Nat.le_refl _⟩ hs
end Go.Proofs.YtcncggaobhbomaaGreatDoor
