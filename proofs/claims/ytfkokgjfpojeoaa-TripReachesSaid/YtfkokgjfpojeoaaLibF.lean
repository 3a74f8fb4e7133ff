/- The evaluator and its soundness. -/
import Derived.Test.YtfkokgjfpojeoaaLibE
import Derived.Sort.Grow
open List renaming pairwise_cons→acE,getElem?_eq_some_iff→acK,mem_map→adD,getElem?_map→ahZ
open Option renaming map_eq_some_iff→acG
open Nat renaming add_zero→acZ
set_option linter.unusedSimpArgs false
set_option linter.unusedVariables false
namespace Go.Ev
noncomputable section
open Go.RowKit
def anL(x:Int):List Int→List Int
 | []=>[x]
 |y::l=>if x≤y then x::y::l else y::anL x l
def Yr:List Int→List Int
 | []=>[]
 |x::l=>anL x (Yr l)
theorem tP(x:Int):∀l:List Int,(anL x l).Perm (x::l)
 | []=>List.Perm.refl _
 |y::l=>by
  unfold anL
  split
  ·exact List.Perm.refl _
  ·exact((tP x l).cons y).trans (List.Perm.swap x y l)
theorem iJ:∀l:List Int,(Yr l).Perm l
 | []=>List.Perm.refl _
 |x::l=>(tP x _).trans ((iJ l).cons x)
theorem wI(x:Int):∀{l:List Int},l.Pairwise (· ≤·)→(anL x l).Pairwise (· ≤·)
 | [],_=>by simp[anL]
 |y::l,h=>by
  rw[acE]at h
  unfold anL
  split
  ·rename_i hxy
   refine acE.2 ⟨fun z hz=>?_,acE.2 h⟩
   rcases List.mem_cons.1 hz with rfl|hz
   ·exact hxy
   ·exact Int.le_trans hxy (h.1 z hz)
  ·rename_i hxy
   refine acE.2 ⟨fun z hz=>?_,wI x h.2⟩
   rcases List.mem_cons.1 ((tP x l).mem_iff.1 hz)with rfl|hz
   ·omega
   ·exact h.1 z hz
theorem hZ:∀l:List Int,(Yr l).Pairwise (· ≤·)
 | []=>List.Pairwise.nil
 |x::l=>wI x (hZ l)
theorem ayR(l:List Int):(l.mergeSort fun x y=>decide (x≤y))=Yr l:=by
 have h1:=List.pairwise_mergeSort (le:=fun x y:Int=>decide (x≤y)) (by simp;omega) (by simp;omega) l
 refine List.Perm.eq_of_pairwise (le:=(· ≤·)) (fun a b _ _ h1 h2=>Int.le_antisymm h1 h2) ?_ (hZ l) ((List.mergeSort_perm l _).trans (iJ l).symm)
 simpa using h1
theorem ae2(l:List Int):(Yr l).length=l.length:=(iJ l).length_eq
def jM:List (List AV)→Option (List Int)
 | []=>some []
 | [.int .i64 n]::l=>(jM l).map (n::·)
 |_=>none
theorem afQ:∀{rows:List (List AV)} {l:List Int},jM rows=some l→rows=l.map fun n=>[.int .i64 n]
 | [],l,h=>by simp[jM]at h;subst h;rfl
 |r::rows,l,h=>by
  unfold jM at h
  split at h
  ·rename_i e;cases e
  ·rename_i n l' e
   cases e
   obtain⟨l2,h2,rfl⟩:=acG.1 h
   rw[afQ h2];rfl
  ·cases h
theorem amK(l:List Int):jM (l.map fun n=>[.int .i64 n])=some l:=by
 induction l with
 |nil=>rfl
 |cons a l ih=>simp[jM,ih]
def aeF:List AV→Ab→Option (Gp × Ab)
 | [.slr 1 b 0 len],h=>match h[b]? with
   |some (.live 1 true _ rows)=>if rows.length=len∧1≤len∧len≤549755813888 then(jM rows).map fun zs=>(.ret (.tup []),h.set b (.live 1 true true ((Yr zs).map fun n=>[.int .i64 n])))else none
   |_=>none
 |_,_=>none
section
variable {P:Program} {G:Nat→Option Obj}
theorem ac4{w:World}{cb:Nat}{c:Array Value}{e:TypeId}{fz:Nat × Nat}(hk:w.heap[cb]?=some (.cells c e fz))(f:Array Value→Array Value):Go.Sort.mapBlock w cb f=setB w cb (.cells (f c) e fz):=by
 unfold Go.Sort.mapBlock setB
 congr 1
 apply Array.ext_getElem?
 intro k
 simp only[Array.getElem?_modify,Array.getElem?_setIfInBounds]
 by_cases h:cb=k
 ·subst h
  have hl:=(Array.getElem?_eq_some_iff.1 hk).1
  rw[if_pos rfl,if_pos rfl,if_pos hl,hk];rfl
 ·rw[if_neg h,if_neg h]
theorem ak1(w:World)(n:Nat):Below w.heap.size w (Go.Sort.ahead w n) where
 os:=rfl
 tape:=rfl
 output:=rfl
 size:=Nat.le_refl _
 block:=fun _ _=>rfl
theorem aBT{f:Nat}(hen:∀args w,(callFunc f args).run P w=.ok (.enter f args) w)
 (hc:∀(blk off cap:Nat) (zs:List Int) (w:World),Go.Sort.Holds (Value.int .i64) w blk off zs.toArray→blk<w.heap.size→zs.length<4611686018427387904→
   Calls P f #[.slice (some ⟨blk,off,none⟩) zs.length cap] w fun e w'=>e=.returned (.tuple #[])∧∃n os,w'=Go.Sort.grow (Go.Sort.putRow (Value.int .i64) (Go.Sort.ahead w n) blk off (zs.mergeSort fun x y=>decide (x≤y)).toArray) os):ag8 P G f aeF:=by
 intro args h out h' hp
 refine⟨hen,fun w S ρ cargs hI H dom all hargs=>?_⟩
 unfold aeF at hp
 split at hp
 ·rename_i b len
  split at hp
  ·rename_i wr rows hg
   split at hp
   ·rename_i hl
    obtain⟨hl1,hl2,hl3⟩:=hl
    obtain⟨zs,hz,hp⟩:=acG.1 hp
    simp only[Prod.mk.injEq]at hp
    obtain⟨rfl,rfl⟩:=hp
    have hrows:=afQ hz
    have hzl:zs.length=len:=by rw[←hl1,hrows];simp
    obtain⟨v,vs',e,hv,hn⟩:=hargs.cons_inv
    have:=hn.nil_inv
    subst this
    have ec:cargs=#[v]:=by apply Array.toList_inj.1;rw[e]
    subst ec
    have hbl:b<h.length:=(acK.1 hg).1
    cases hv with
    |slrD hρ _=>have:=H.dead b hρ;rw[show hf h b=some _ from hg]at this;cases this
    | @slr _ _ _ _ cb co _ sz cap a hρ hle ha=>
      obtain⟨c,e',fz,fl',rows',k1,k2,k3,k4⟩:=H.at_ b cb co 1 sz hρ
      rcases k4 with⟨⟨wr',k4⟩,hS,hfz⟩|⟨k4,_⟩
      ·rw[show hf h b=some _ from hg]at k4
       cases k4
       rcases ha with ha|⟨rfl,hcap⟩
       ·omega
       have hco:co+len≤c.size:=by have:=k3.len;rw[hl1]at this;omega
       have hold:Go.Sort.Holds (Value.int .i64) w cb (co+0*1) zs.toArray:=fun j hj=>by
        have hj':j<zs.length:=by simpa using hj
        have hr:rows[j]?=some [AV.int .i64 zs[j]]:=by rw[hrows,ahZ,List.getElem?_eq_getElem hj'];rfl
        obtain⟨v,h1,h2⟩:=k3.cell j _ 0 _ hr rfl
        cases h2
        have hlt:co+j<c.size:=by omega
        refine⟨?_,agK k1 (hfz _ (by rw[←k2];omega))⟩
        rw[pW k1]
        simp only[Nat.zero_mul,acZ]
        have h1':c[co+j]?=some (Value.int .i64 zs[j]):=by simpa using h1
        rw[h1']
        simp[getElem!_pos,hj']
       rw[←hzl]
       refine(hc cb (co+0*1) cap zs w hold (H.lt hρ) (by omega)).mono fun e w' hw=>?_
       obtain⟨rfl,n,os,rfl⟩:=hw
       rw[ayR]
       have hB1:=ak1 w n
       have H1:=H.below hB1
       have k1':(Go.Sort.ahead w n).heap[cb]?=some (.cells c e' fz):=k1
       have hsl:=ae2 zs
       generalize Yr zs=ys at *
       have hput:Go.Sort.putRow (Value.int .i64) (Go.Sort.ahead w n) cb (co+0*1) ys.toArray=setB (Go.Sort.ahead w n) cb (.cells (Go.Sort.putCells (Value.int .i64) (co+0*1) ys.toArray c) e' fz):=ac4 k1' _
       rw[hput]
       have hcs:(Go.Sort.putCells (Value.int .i64) (co+0*1) ys.toArray c).size=c.size:=by simp[Go.Sort.putCells]
       have hblk:Ih (Go.Sort.ahead w n) S ρ (Go.Sort.putCells (Value.int .i64) (co+0*1) ys.toArray c) co 1 true (ys.map fun n=>[.int .i64 n]):=by
        refine⟨by rw[hcs];simp;omega,fun r hr=>?_,fun _ r hr x hx=>?_,fun i r j x hr hx=>?_,fun r hr x hx=>?_⟩
        ·obtain⟨n,_,rfl⟩:=adD.1 hr;rfl
        ·obtain⟨n,_,rfl⟩:=adD.1 hr;simp at hx;subst hx;rfl
        ·rw[ahZ]at hr
         obtain⟨m,hm,rfl⟩:=acG.1 hr
         have hi:i<ys.length:=(acK.1 hm).1
         have hx':j=0∧x=.int .i64 m:=by
          cases j with
          |zero=>simp at hx;exact⟨rfl,hx.symm⟩
          |succ j=>simp at hx
         obtain⟨rfl,rfl⟩:=hx'
         refine⟨.int .i64 m,?_,.int _ _⟩
         simp only[Go.Sort.putCells,Array.getElem?_mapIdx,Nat.mul_one,acZ,Nat.zero_mul,acZ]
         rw[Array.getElem?_eq_getElem (by omega),Option.map_some,if_pos ⟨by omega,by simp;omega⟩,show co+i-co=i by omega]
         have:ys[i]?=some m:=hm
         have h2:=acK.1 hm
         simp[getElem!_pos,h2.1,h2.2]
        ·obtain⟨n,_,rfl⟩:=adD.1 hr;simp at hx;subst hx;rfl
       have H2:=H1.setLive (wr:=true) hρ hS (e:=e') (fz:=fz) (by rw[hcs];exact k2) hfz ⟨_,_,_,k1'⟩ hblk
       have hs2:=Ip.setB (w:=Go.Sort.ahead w n) hρ hS ⟨_,_,_,k1'⟩ (.cells (Go.Sort.putCells (Value.int .i64) (co+0*1) ys.toArray c) e' fz)
       generalize hw2:setB (Go.Sort.ahead w n) cb (.cells (Go.Sort.putCells (Value.int .i64) (co+0*1) ys.toArray c) e' fz)=w2 at *
       have hB3:=amB (w:=w2) (Nat.le_refl _) os
       have H3:=H2.below hB3
       refine⟨.tuple #[],S,ρ,⟨⟨_,rfl⟩,rfl⟩,.tup rfl (fun i x v hx _=>by simp at hx),by rw[anT hbl];exact H3,((Ip.below H hB1).trans hs2).trans (Ip.below H2 hB3),fun b' hb'=>dom b' (by simpa using hb'),fun b' hb'=>all b' (by simpa using hb'),by simp,fun i x x' hx hx' hsm=>?_⟩
       by_cases e:i=b
       ·subst e
        rw[hg]at hx;cases hx
        rw[List.getElem?_set_self hbl]at hx';cases hx'
        simp[CB.same]at hsm
       ·refine⟨rfl,fun cb' co' st' sz' hb'=>?_⟩
        have hne:cb'≠cb:=fun q=>e (H.inj _ _ _ _ _ _ _ _ _ hb' (q▸hρ))
        have hl':cb'<w.heap.size:=H.lt hb'
        have hw2s:w2.heap.size=w.heap.size:=by rw[←hw2];simp[setB,Go.Sort.ahead]
        rw[hB3.block cb' (by rw[hw2s];exact hl'),←hw2,Bj hne]
        rfl
      ·rw[show hf h b=some _ from hg]at k4;cases k4
   ·cases hp
  ·cases hp
 ·cases hp
end
end
end Go.Ev
