/- The evaluator and its soundness. -/
import Derived.Test.YtckfcfcmfjfchaaDoorLibE
import Derived.Sort.Grow
open List renaming pairwise_cons→ab8,getElem?_eq_some_iff→acA,mem_map→acC,getElem?_map→acD
open Option renaming map_eq_some_iff→ab9
open Nat renaming add_zero→acB
set_option linter.unusedSimpArgs false
set_option linter.unusedVariables false
namespace Go.Ev
noncomputable section
open Go.RowKit
def nK(x:Int):List Int→List Int
 | []=>[x]
 |y::l=>if x≤y then x::y::l else y::nK x l
def bA:List Int→List Int
 | []=>[]
 |x::l=>nK x (bA l)
theorem Yr(x:Int):∀l:List Int,(nK x l).Perm (x::l)
 | []=>List.Perm.refl _
 |y::l=>by
  unfold nK
  split
  ·exact List.Perm.refl _
  ·exact((Yr x l).cons y).trans (List.Perm.swap x y l)
theorem Uz:∀l:List Int,(bA l).Perm l
 | []=>List.Perm.refl _
 |x::l=>(Yr x _).trans ((Uz l).cons x)
theorem aC(x:Int):∀{l:List Int},l.Pairwise (· ≤·)→(nK x l).Pairwise (· ≤·)
 | [],_=>by simp[nK]
 |y::l,h=>by
  rw[ab8]at h
  unfold nK
  split
  ·rename_i hxy
   refine ab8.2 ⟨fun z hz=>?_,ab8.2 h⟩
   rcases List.mem_cons.1 hz with rfl|hz
   ·exact hxy
   ·exact Int.le_trans hxy (h.1 z hz)
  ·rename_i hxy
   refine ab8.2 ⟨fun z hz=>?_,aC x h.2⟩
   rcases List.mem_cons.1 ((Yr x l).mem_iff.1 hz)with rfl|hz
   ·omega
   ·exact h.1 z hz
theorem Wp:∀l:List Int,(bA l).Pairwise (· ≤·)
 | []=>List.Pairwise.nil
 |x::l=>aC x (Wp l)
theorem xN(l:List Int):(l.mergeSort fun x y=>decide (x≤y))=bA l:=by
 have h1:=List.pairwise_mergeSort (le:=fun x y:Int=>decide (x≤y)) (by simp;omega) (by simp;omega) l
 refine List.Perm.eq_of_pairwise (le:=(· ≤·)) (fun a b _ _ h1 h2=>Int.le_antisymm h1 h2) ?_ (Wp l) ((List.mergeSort_perm l _).trans (Uz l).symm)
 simpa using h1
theorem tQ(l:List Int):(bA l).length=l.length:=(Uz l).length_eq
def bC:List (List AV)→Option (List Int)
 | []=>some []
 | [.int .i64 n]::l=>(bC l).map (n::·)
 |_=>none
theorem fP:∀{rows:List (List AV)} {l:List Int},bC rows=some l→rows=l.map fun n=>[.int .i64 n]
 | [],l,h=>by simp[bC]at h;subst h;rfl
 |r::rows,l,h=>by
  unfold bC at h
  split at h
  ·rename_i e;cases e
  ·rename_i n l' e
   cases e
   obtain⟨l2,h2,rfl⟩:=ab9.1 h
   rw[fP h2];rfl
  ·cases h
def sC:List AV→Aa→Option (Db × Aa)
 | [.slr 1 b 0 len],h=>match h[b]? with
   |some (.live 1 true _ rows)=>if rows.length=len∧1≤len∧len≤549755813888 then(bC rows).map fun zs=>(.ret (.tup []),h.set b (.live 1 true true ((bA zs).map fun n=>[.int .i64 n])))else none
   |_=>none
 |_,_=>none
section
variable {P:Program} {G:Nat→Option Obj}
theorem dP{w:World}{cb:Nat}{c:Array Value}{e:TypeId}{fz:Nat × Nat}(hk:w.heap[cb]?=some (.cells c e fz))(f:Array Value→Array Value):Go.Sort.mapBlock w cb f=setB w cb (.cells (f c) e fz):=by
 unfold Go.Sort.mapBlock setB
 congr 1
 apply Array.ext_getElem?
 intro k
 simp only[Array.getElem?_modify,Array.getElem?_setIfInBounds]
 by_cases h:cb=k
 ·subst h
  have hl:=(Array.getElem?_eq_some_iff.1 hk).1
  rw[if_pos rfl,if_pos rfl,if_pos hl,hk];rfl
 ·rw[if_neg h,if_neg h]
theorem kD(w:World)(n:Nat):Below w.heap.size w (Go.Sort.ahead w n) where
 os:=rfl
 tape:=rfl
 output:=rfl
 size:=Nat.le_refl _
 block:=fun _ _=>rfl
theorem afI{f:Nat}(hen:∀args w,(callFunc f args).run P w=.ok (.enter f args) w)
 (hc:∀(blk off cap:Nat) (zs:List Int) (w:World),Go.Sort.Holds (Value.int .i64) w blk off zs.toArray→blk<w.heap.size→zs.length<4611686018427387904→
   Calls P f #[.slice (some ⟨blk,off,none⟩) zs.length cap] w fun e w'=>e=.returned (.tuple #[])∧∃n os,w'=Go.Sort.grow (Go.Sort.putRow (Value.int .i64) (Go.Sort.ahead w n) blk off (zs.mergeSort fun x y=>decide (x≤y)).toArray) os):Xu P G f sC:=by
 intro args h out h' hp
 refine⟨hen,fun w S ρ cargs hI H dom all hargs=>?_⟩
 unfold sC at hp
 split at hp
 ·rename_i b len
  split at hp
  ·rename_i wr rows hg
   split at hp
   ·rename_i hl
    obtain⟨hl1,hl2,hl3⟩:=hl
    obtain⟨zs,hz,hp⟩:=ab9.1 hp
    simp only[Prod.mk.injEq]at hp
    obtain⟨rfl,rfl⟩:=hp
    have hrows:=fP hz
    have hzl:zs.length=len:=by rw[←hl1,hrows];simp
    obtain⟨v,vs',e,hv,hn⟩:=hargs.cons_inv
    have:=hn.nil_inv
    subst this
    have ec:cargs=#[v]:=by apply Array.toList_inj.1;rw[e]
    subst ec
    have hbl:b<h.length:=(acA.1 hg).1
    cases hv with
    |slrD hρ _=>have:=H.dead b hρ;rw[show hf h b=some _ from hg]at this;cases this
    | @slr _ _ _ _ cb co _ sz cap a hρ hle ha=>
      obtain⟨c,e',fz,fl',rows',k1,k2,k3,k4⟩:=H.at_ b cb co 1 sz hρ
      rcases k4 with⟨⟨wr',k4⟩,hS,hfz⟩|⟨k4,_⟩
      ·rw[show hf h b=some _ from hg]at k4
       cases k4
       rcases ha with ha|⟨rfl,hcap⟩
       ·omega
       have hco:co+len≤c.size:=by have:=k3.len;rw[hl1]at this;omega
       have hold:Go.Sort.Holds (Value.int .i64) w cb (co+0*1) zs.toArray:=fun j hj=>by
        have hj':j<zs.length:=by simpa using hj
        have hr:rows[j]?=some [AV.int .i64 zs[j]]:=by rw[hrows,acD,List.getElem?_eq_getElem hj'];rfl
        obtain⟨v,h1,h2⟩:=k3.cell j _ 0 _ hr rfl
        cases h2
        have hlt:co+j<c.size:=by omega
        refine⟨?_,eX k1 (hfz _ (by rw[←k2];omega))⟩
        rw[Vx k1]
        simp only[Nat.zero_mul,acB]
        have h1':c[co+j]?=some (Value.int .i64 zs[j]):=by simpa using h1
        rw[h1']
        simp[getElem!_pos,hj']
       rw[←hzl]
       refine(hc cb (co+0*1) cap zs w hold (H.lt hρ) (by omega)).mono fun e w' hw=>?_
       obtain⟨rfl,n,os,rfl⟩:=hw
       rw[xN]
       have hB1:=kD w n
       have H1:=H.below hB1
       have k1':(Go.Sort.ahead w n).heap[cb]?=some (.cells c e' fz):=k1
       have hsl:=tQ zs
       generalize bA zs=ys at *
       have hput:Go.Sort.putRow (Value.int .i64) (Go.Sort.ahead w n) cb (co+0*1) ys.toArray=setB (Go.Sort.ahead w n) cb (.cells (Go.Sort.putCells (Value.int .i64) (co+0*1) ys.toArray c) e' fz):=dP k1' _
       rw[hput]
       have hcs:(Go.Sort.putCells (Value.int .i64) (co+0*1) ys.toArray c).size=c.size:=by simp[Go.Sort.putCells]
       have hblk:Dl (Go.Sort.ahead w n) S ρ (Go.Sort.putCells (Value.int .i64) (co+0*1) ys.toArray c) co 1 true (ys.map fun n=>[.int .i64 n]):=by
        refine⟨by rw[hcs];simp;omega,fun r hr=>?_,fun _ r hr x hx=>?_,fun i r j x hr hx=>?_,fun r hr x hx=>?_⟩
        ·obtain⟨n,_,rfl⟩:=acC.1 hr;rfl
        ·obtain⟨n,_,rfl⟩:=acC.1 hr;simp at hx;subst hx;rfl
        ·rw[acD]at hr
         obtain⟨m,hm,rfl⟩:=ab9.1 hr
         have hi:i<ys.length:=(acA.1 hm).1
         have hx':j=0∧x=.int .i64 m:=by
          cases j with
          |zero=>simp at hx;exact⟨rfl,hx.symm⟩
          |succ j=>simp at hx
         obtain⟨rfl,rfl⟩:=hx'
         refine⟨.int .i64 m,?_,.int _ _⟩
         simp only[Go.Sort.putCells,Array.getElem?_mapIdx,Nat.mul_one,acB,Nat.zero_mul,acB]
         rw[Array.getElem?_eq_getElem (by omega),Option.map_some,if_pos ⟨by omega,by simp;omega⟩,show co+i-co=i by omega]
         have:ys[i]?=some m:=hm
         have h2:=acA.1 hm
         simp[getElem!_pos,h2.1,h2.2]
        ·obtain⟨n,_,rfl⟩:=acC.1 hr;simp at hx;subst hx;rfl
       have H2:=H1.setLive (wr:=true) hρ hS (e:=e') (fz:=fz) (by rw[hcs];exact k2) hfz ⟨_,_,_,k1'⟩ hblk
       have hs2:=Dn.setB (w:=Go.Sort.ahead w n) hρ hS ⟨_,_,_,k1'⟩ (.cells (Go.Sort.putCells (Value.int .i64) (co+0*1) ys.toArray c) e' fz)
       generalize hw2:setB (Go.Sort.ahead w n) cb (.cells (Go.Sort.putCells (Value.int .i64) (co+0*1) ys.toArray c) e' fz)=w2 at *
       have hB3:=dC (w:=w2) (Nat.le_refl _) os
       have H3:=H2.below hB3
       refine⟨.tuple #[],S,ρ,⟨⟨_,rfl⟩,rfl⟩,.tup rfl (fun i x v hx _=>by simp at hx),by rw[pH hbl];exact H3,((Dn.below H hB1).trans hs2).trans (Dn.below H2 hB3),fun b' hb'=>dom b' (by simpa using hb'),fun b' hb'=>all b' (by simpa using hb'),by simp,fun i x x' hx hx' hsm=>?_⟩
       by_cases e:i=b
       ·subst e
        rw[hg]at hx;cases hx
        rw[List.getElem?_set_self hbl]at hx';cases hx'
        simp[CB.same]at hsm
       ·refine⟨rfl,fun cb' co' st' sz' hb'=>?_⟩
        have hne:cb'≠cb:=fun q=>e (H.inj _ _ _ _ _ _ _ _ _ hb' (q▸hρ))
        have hl':cb'<w.heap.size:=H.lt hb'
        have hw2s:w2.heap.size=w.heap.size:=by rw[←hw2];simp[setB,Go.Sort.ahead]
        rw[hB3.block cb' (by rw[hw2s];exact hl'),←hw2,An hne]
        rfl
      ·rw[show hf h b=some _ from hg]at k4;cases k4
   ·cases hp
  ·cases hp
 ·cases hp
end
def gP(fI fJ fS:Nat)(md:Nat→Bool):Kv:={ at_:=fun f=>if f=fI then some qD else if f=fJ then some jM else none,md:=md,sh:=fun f=>if f=fS then some sC else none }
theorem sM{P:Program}{G:Nat→Option Obj}{fI fJ fS:Nat}{md:Nat→Bool}(hI:Xu P G fI qD)(hJ:Xu P G fJ jM)(hS:Xu P G fS sC):hZ P G (gP fI fJ fS md):=by
 refine⟨fun f p hp=>?_,fun f p hp=>?_⟩
 ·simp only[gP]at hp
  split at hp
  ·rename_i e;subst e;cases hp;exact hI
  ·split at hp
   ·rename_i e;subst e;cases hp;exact hJ
   ·cases hp
 ·simp only[gP]at hp
  split at hp
  ·rename_i e;subst e;cases hp;exact hS
  ·cases hp
end
end Go.Ev
