/- The functions of the layer, walked. -/
import Derived.Test.YtcncggaobhbomaaGreatDoorPartAC
import Derived.Test.YtcncggaobhbomaaGreatDoorPartAE
open List renaming length_map→ad8,length_set→apA,getElem?_eq_some_iff→awL,pairwise_append→ay8,mem_append→azO,mem_of_getElem?→azV
open Bool renaming not_false→ahF,not_true→aoR,false_eq_true→aAO,and_eq_true→aA5
open Nat renaming le_refl→aoS
set_option linter.unusedSimpArgs false
set_option linter.unusedVariables false
namespace Go.Proofs.YtcncggaobhbomaaGreatDoor
open Go.Ev Go Go.Ev.Net
set_option maxRecDepth 100000
set_option maxHeartbeats 16000000
theorem aZT{w:Ah}{d:Int}{l:List Ep}{f:Int}(h:Kx w d l f=0){j:Nat}{q:Ac}(hq:Gx w.rooms q=true){g:Int}(hg0:0≤g)(hg3:g≤3):Kx (Jp w j q) d l g=0:=by
 obtain⟨h6,hwb,hdb,hgb,_,_⟩:=Kq h
 have hgb':aoP (Jp w j q) l=true:=by unfold aoP;rw[Jl];exact hgb
 unfold Kx
 rw[Jl,if_neg (by simp;omega),if_neg (by simp[aHT hwb hq,hdb,hgb'];omega)]
theorem a71{w:Ah}{N:Nat}{i:Nat}{p q:Ac}(hp:w.parts[i]?=some p)(h:aP6 p q)(l:List Ep)(s:St):bs (Jp w i q) N l s=bs w N l s:=by
 unfold bs;rw[aWR hp h]
theorem aMT{p:Ac}(hpf:p.fits){d:Int}(hdd:0≤d∧d≤5000)(k:Int)(b:Bool):(Pe p d k b).fits:=by
 have hi64:i64 d:=⟨by omega,by omega⟩
 unfold Pe
 split
 ·exact hpf
 ·split
  ·exact hpf
  ·split
   ·split
    ·exact⟨hpf.1,hpf.2.1,hi64,hpf.2.2.2⟩
    ·exact hpf
   ·exact⟨hpf.1,hpf.2.1,hi64,hpf.2.2.2⟩
theorem aQQ{w:Ah}(hs:w.small){d:Int}(hwb:Gl w=true)(hdb:Nl d=true){i:Nat}{p:Ac}(hp:w.parts[i]?=some p){k:Int}(hc:am5 p (Av p d,p.opn) k=true)(b:Bool):Ef.call (.fn 17) [.agg [.int .i64 w.rooms,.int .i64 w.need,.imm 9 true ((w.parts.set i (Pe p d k b)).map Ac.cells)]] []=some (.ret (.bool true),[]):=by
 have hc':aJS p d k=true:=by rw[←aPD hwb hp];exact hc
 have hdd:0≤d∧d≤5000:=by simpa [Nl,Ht]using hdb
 have h:=aYV (Jp w i (Pe p d k b)) (aGB hs (aMT (hs.fits p (azV hp)) hdd k b))
 rw[aHT hwb (aLA (aBB hwb hp) hdb hc' b)]at h
 have e5:(Jp w i (Pe p d k b)).cells=[.int .i64 w.rooms,.int .i64 w.need,.imm 9 true ((w.parts.set i (Pe p d k b)).map Ac.cells)]:=by
  show [_,_,Bt 9 true true _]=_
  rw[aNY];rfl
 change Ef.call _ [AV.agg (Jp w i (Pe p d k b)).cells] []=_ at h
 rw[e5]at h
 exact h
theorem aX7{w:Ah}{N:Nat}(hw:WOk w N)(hs:w.small){d:Int}{l:List Ep}(nn:Bool)(hl:l.length≤maxLen){f:Int}(h:Kx w d l f=0){i:Nat}{p:Ac}(hp:w.parts[i]?=some p){k:Int}(hk:k=1∨k=2∨k=3∨k=4)(hc:am5 p (Av p d,p.opn) k=true)(b:Bool){g:Nat}(hg:g≤3):
 ∃k' i':Int,Ef.call (.fn 15) [.agg [.int .i64 w.rooms,.int .i64 w.need,.imm 9 true ((w.parts.set i (Pe p d k b)).map Ac.cells)],.int .i64 d,Bt 3 true nn (l.map Ep.cells),.int .i64 (g:Int)] []=some (.ret (.tup [.agg [.int .i64 k',.int .i64 i'],.int .i64 (aPN (bs w N l ((Ab w d).set i (Da k b (Av p d,p.opn)),g))),.int .i64 (aHE (bs w N l ((Ab w d).set i (Da k b (Av p d,p.opn)),g)))]),[]):=by
 obtain⟨h6,hwb,hdb,hgb,_,_⟩:=Kq h
 have hc':aJS p d k=true:=by rw[←aPD hwb hp];exact hc
 have hq:=aLA (aBB hwb hp) hdb hc' b
 have hil:=(awL.1 hp).1
 have hpf:=hs.fits p (azV hp)
 have hdd:0≤d∧d≤5000:=by simpa [Nl,Ht]using hdb
 have hqf:=aMT hpf hdd k b
 have he:=a0B p d k b
 obtain⟨k',i',hA,_⟩:=a5Z (a2L hw hp he.1 he.2) (aGB hs hqf) d l nn hl g (aZT h hq (j:=i) (g:=(g:Int)) (by omega) (by omega))
 have e5:(Jp w i (Pe p d k b)).cells=[.int .i64 w.rooms,.int .i64 w.need,.imm 9 true ((w.parts.set i (Pe p d k b)).map Ac.cells)]:=by
  show [_,_,Bt 9 true true _]=_
  rw[aNY];rfl
 change Ef.call _ [AV.agg (Jp w i (Pe p d k b)).cells,.int .i64 d,Bt 3 true nn (l.map Ep.cells),.int .i64 (g:Int)] []=_ at hA
 rw[e5,aDZ hil,aSP (aBB hwb hp) hk hdb,a71 hp (aN9 p d k b)]at hA
 exact⟨k',i',hA⟩
noncomputable def aE9(w:Ah)(N:Nat)(l:List Ep)(s:St)(k:Int)(i:Nat):Int:=match ay7 w N s k i with
 |some o=>if Sys.mx (bs w N l) o.to<Di then((Sys.mx (bs w N l) o.to:Nat):Int)+o.c else -1
 |none=> -1
theorem a8T(f:St→Nat)(a:St):Sys.mx f [a]=f a:=by unfold Sys.mx;simp
theorem a8P(f:St→Nat)(a b:St):Sys.mx f [a,b]=max (f a) (f b):=by unfold Sys.mx;simp
theorem aQK{w:Ah}{N:Nat}(hw:WOk w N)(hs:w.small){d:Int}{l:List Ep}(nn:Bool)(hl:l.length≤maxLen){f:Nat}(h:Kx w d l f=0){i:Nat}{p:Ac}(hp:w.parts[i]?=some p){k:Int}(hk:k=1∨k=2∨k=3∨k=4):
 Ef.call (.fn 27) [.agg [.int .i64 w.rooms,.int .i64 w.need,Bt 9 true w.nn (w.parts.map Ac.cells)],.int .i64 d,Bt 3 true nn (l.map Ep.cells),.int .i64 (f:Int),.agg [.int .i64 k,.int .i64 (i:Int)]] []=some (.ret (.tup [.int .i64 (aE9 w N l (Ab w d,f) k i),.bool true]),[]):=by
 obtain⟨h6,hwb,hdb,hgb,hf0,hf3⟩:=Kq h
 have hzd:(Gl w&&Nl d)=true:=by rw[hwb,hdb];rfl
 have hil:=(awL.1 hp).1
 obtain⟨hD1,hD2,hD3⟩:=a5U hw (by omega) hs d hzd hp hk true
 have hx:=ay3 (d:=d) hp
 have hcf:ay7 w N (Ab w d,f) k i=if(am5 p (Av p d,p.opn) k&&Ll w N (Ab w d) k i true (Av p d,p.opn))=true then some ⟨k,i,aAY p k,toF (Ab w d) f k i (Av p d,p.opn)⟩else none:=by
  unfold ay7;rw[hp];simp only;rw[hx]
 have hsl:Bt 9 true w.nn (w.parts.map Ac.cells)=.imm 9 true (w.parts.map Ac.cells):=agF (by simpa using hw.ne)
 unfold aE9
 rw[hcf]
 cases cn:am5 p (Av p d,p.opn) k with
 |false=>
  replace hD1:=hD1 cn
  simp only[Bool.false_and,aAO,if_false]
  (refine ce Tryz.func27 ?_;simp only[Tryz.f27];(have hb:=trivial;with_reducible repeat' (first|simp only[hb,Vc.down,seval,aPU.down,hD1,bne,aoR,ahF,ad8]|refine Au ?_ ?_<;>intro hb|refine fd ?_|fail)))
 |true=>
 cases cs:Ll w N (Ab w d) k i true (Av p d,p.opn)with
 |false=>
  replace hD2:=hD2 cn cs
  simp only[Bool.and_false,aAO,if_false]
  (refine ce Tryz.func27 ?_;simp only[Tryz.f27];(have hb:=trivial;with_reducible repeat' (first|simp only[hb,Vc.down,seval,aPU.down,hD2,bne,aoR,ahF,ad8]|refine Au ?_ ?_<;>intro hb|refine fd ?_|fail)))
 |true=>
 obtain⟨wd,hD⟩:=hD3 cn cs
 simp only[Bool.and_self,if_true]
 have hcR:aJS p d k=true:=by rw[←aPD hwb hp];exact cn
 have hprice:=abJ hwb hp k
 change Ef.call _ _ _=some (Do.ret (AV.tup [_,.int .i64 (aAY p k),_]),_)at hD
 obtain⟨k1,i1,hA1⟩:=aX7 hw hs nn hl h hp hk cn true (g:=f) (by omega)
 have hW1:=aQQ hs hwb hdb hp cn true
 have htR2:∀q,List.take w.parts.length ((w.parts.set i q).map Ac.cells)=(w.parts.set i q).map Ac.cells:=fun q=>List.take_of_length_le (by simp)
 have hc1:decide (aAY p k<1)=false:=decide_eq_false (by omega)
 have hc2:decide (aAY p k>1000)=false:=decide_eq_false (by omega)
 have hF1:=aJX hw hl h
 generalize aAY p k=cc at *
 obtain⟨s1,hs1⟩:∃s1:St,((Ab w d).set i (Da k true (Av p d,p.opn)),f)=s1:=⟨_,rfl⟩
 rw[hs1]at hA1
 have htop:(Di:Int)=1099511627776:=rfl
 by_cases b1:bs w N l s1<Di
 rotate_left
 ·have hm:¬Sys.mx (bs w N l) (toF (Ab w d) f k i (Av p d,p.opn))<Di:=by
   have:=Sys.mx_le (f:=bs w N l) (l:=toF (Ab w d) f k i (Av p d,p.opn)) (x:=s1) (aP5.2 (.inl hs1.symm))
   omega
  rw[if_neg hm]
  rw[show aHE (bs w N l s1)=5 from if_neg b1]at hA1
  (refine ce Tryz.func27 ?_;simp only[Tryz.f27];(have hb:=trivial;with_reducible repeat' (first|simp only[hb,Vc.down,seval,aPU.down,hD,hA1,hW1,htR2,hc1,hc2,bne,beq_self_eq_true,aoR,ahF,apA,aoS,ad8]|refine Au ?_ ?_<;>intro hb|refine fd ?_|fail)))
 rw[show aHE (bs w N l s1)=0 from if_pos b1,show aPN (bs w N l s1)=(bs w N l s1:Int)from if_pos b1]at hA1
 have hb9:=htop
 by_cases q:k=3∧0<f
 rotate_left
 ·have hto:toF (Ab w d) f k i (Av p d,p.opn)=[s1]:=by unfold toF;rw[if_neg q,hs1]
  rw[hto,a8T,if_pos b1]
  have hws:IntKind.i64.wrap ((bs w N l s1:Int)+cc)=(bs w N l s1:Int)+cc:=Ez (by omega) (by omega)
  cases k3:(k==3)with
  |false=>
   (refine ce Tryz.func27 ?_;simp only[Tryz.f27];(have hb:=trivial;with_reducible repeat' (first|simp only[hb,Vc.down,seval,aPU.down,hD,hA1,hW1,htR2,hc1,hc2,bne,beq_self_eq_true,aoR,ahF,k3,hws,apA,aoS,ad8]|refine Au ?_ ?_<;>intro hb|refine fd ?_|fail)))
  |true=>
   have hf:decide ((f:Int)>0)=false:=decide_eq_false (fun h=>q ⟨by simpa using k3,by omega⟩)
   (refine ce Tryz.func27 ?_;simp only[Tryz.f27];(have hb:=trivial;with_reducible repeat' (first|simp only[hb,Vc.down,seval,aPU.down,hD,hA1,hW1,htR2,hc1,hc2,bne,beq_self_eq_true,aoR,ahF,k3,hf,hws,apA,aoS,ad8]|refine Au ?_ ?_<;>intro hb|refine fd ?_|fail)))
 obtain⟨s2,hs2⟩:∃s2:St,((Ab w d).set i (Da k false (Av p d,p.opn)),f-1)=s2:=⟨_,rfl⟩
 have hto:toF (Ab w d) f k i (Av p d,p.opn)=[s1,s2]:=by unfold toF;rw[if_pos q,hs1,hs2]
 rw[hto,a8P]
 have k3:(k==3)=true:=by simp[q.1]
 have hf:decide ((f:Int)>0)=true:=decide_eq_true (by omega)
 have hwf:IntKind.i64.wrap ((f:Int)-1)=((f-1:Nat):Int):=by rw[Ez (by omega) (by omega)];omega
 have cs2:Ll w N (Ab w d) k i false (Av p d,p.opn)=true:=by
  rw[aKI hw (by omega) hp hk false hcR,←aKI hw (by omega) hp hk true hcR];exact cs
 obtain⟨wd2,hE⟩:=(a5U hw (by omega) hs d hzd hp hk false).2.2 cn cs2
 obtain⟨k2,i2,hA2⟩:=aX7 hw hs nn hl h hp hk cn false (g:=f-1) (by omega)
 rw[hs2]at hA2
 have hW2:=aQQ hs hwb hdb hp cn false
 by_cases b2:bs w N l s2<Di
 rotate_left
 ·rw[if_neg (by omega)]
  rw[show aHE (bs w N l s2)=5 from if_neg b2]at hA2
  (refine ce Tryz.func27 ?_;simp only[Tryz.f27];(have hb:=trivial;with_reducible repeat' (first|simp only[hb,Vc.down,seval,aPU.down,hD,hA1,hW1,htR2,hc1,hc2,bne,beq_self_eq_true,aoR,ahF,k3,hf,hwf,hE,hA2,hW2,apA,aoS,ad8]|refine Au ?_ ?_<;>intro hb|refine fd ?_|fail)))
 rw[if_pos (by omega)]
 rw[show aHE (bs w N l s2)=0 from if_pos b2,show aPN (bs w N l s2)=(bs w N l s2:Int)from if_pos b2]at hA2
 have hmx:(if(bs w N l s2:Int)>(bs w N l s1:Int)then(bs w N l s2:Int)else(bs w N l s1:Int))=((max (bs w N l s1) (bs w N l s2):Nat):Int):=by split<;>omega
 have hws:IntKind.i64.wrap (((max (bs w N l s1) (bs w N l s2):Nat):Int)+cc)=((max (bs w N l s1) (bs w N l s2):Nat):Int)+cc:=Ez (by omega) (by omega)
 (refine ce Tryz.func27 ?_;simp only[Tryz.f27];(have hb:=trivial;with_reducible repeat' (first|simp only[hb,Vc.down,seval,aPU.down,hD,hA1,hW1,htR2,hc1,hc2,bne,beq_self_eq_true,aoR,ahF,k3,hf,hwf,hE,hA2,hW2,hmx,hws,apA,aoS,ad8]|refine Au ?_ ?_<;>intro hb|refine fd ?_|fail)))
def ba5(a b:Jr):Prop:=a.k<b.k∨(a.k=b.k∧a.i<b.i)
theorem Ol(w:Ah)(N:Nat)(s:St){k:Int}(hk:k=1∨k=2∨k=3∨k=4):(ai3 w N s k).Pairwise ba5:=by
 unfold ai3
 refine List.Pairwise.filterMap (R:=fun a b=>a<b) _ (fun a b hab x hx y hy=>?_) List.pairwise_lt_range
 obtain⟨h1,h2,_⟩:=(Pz hk).1 hx
 obtain⟨h3,h4,_⟩:=(Pz hk).1 hy
 exact .inr ⟨by rw[h1,h3],by rw[h2,h4];exact hab⟩
theorem aNX(w:Ah)(N:Nat)(s:St):(Cm w N s).Pairwise ba5:=by
 have e1:=fun o (h:o∈ai3 w N s 1)=>((La (k:=1) (by simp)).1 h).1
 have e2:=fun o (h:o∈ai3 w N s 2)=>((La (k:=2) (by simp)).1 h).1
 have e3:=fun o (h:o∈ai3 w N s 3)=>((La (k:=3) (by simp)).1 h).1
 have e4:=fun o (h:o∈ai3 w N s 4)=>((La (k:=4) (by simp)).1 h).1
 unfold Cm
 refine ay8.2 ⟨Ol w N s (by simp),ay8.2 ⟨Ol w N s (by simp),ay8.2 ⟨Ol w N s (by simp),Ol w N s (by simp),fun a ha b hb=>.inl ?_⟩,fun a ha b hb=>.inl ?_⟩,fun a ha b hb=>.inl ?_⟩
 ·rw[e3 a ha,e4 b hb];decide
 ·rw[e2 a ha]
  rcases azO.1 hb with h|h
  ·rw[e3 b h];decide
  ·rw[e4 b h];decide
 ·rw[e1 a ha]
  rcases azO.1 hb with h|h
  ·rw[e2 b h];decide
  ·rcases azO.1 h with h|h
   ·rw[e3 b h];decide
   ·rw[e4 b h];decide
theorem aFX{α:Type}{R:α→α→Prop}{p:α→Bool}:∀{l:List α} {o o':α},l.Pairwise R→l.find? p=some o→o'∈l→p o'=true→o'=o∨R o o'
 | [],o,o',_,h,_,_=>by cases h
 |a::l,o,o',hs,h,hm,hp=>by
  obtain⟨h1,h2⟩:=List.pairwise_cons.1 hs
  cases ha:p a with
  |true=>
   rw[List.find?_cons_of_pos ha]at h
   cases h
   rcases List.mem_cons.1 hm with rfl|hm
   ·exact .inl rfl
   ·exact .inr (h1 _ hm)
  |false=>
   rw[List.find?_cons_of_neg (by simp[ha])]at h
   rcases List.mem_cons.1 hm with rfl|hm
   ·rw[ha]at hp;cases hp
   ·exact aFX h2 h hm hp
theorem aR3{w:Ah}{N:Nat}(hw:WOk w N){d:Int}{l:List Ep}(hl:l.length≤maxLen){f:Nat}(h:Kx w d l f=0){k:Int}(hk:k=1∨k=2∨k=3∨k=4)(i:Nat):
 (aE9 w N l (Ab w d,f) k i= -1∨(0≤aE9 w N l (Ab w d,f) k i∧bs w N l (Ab w d,f)<Di∧(bs w N l (Ab w d,f):Int)≤aE9 w N l (Ab w d,f) k i∧∃o∈Cm w N (Ab w d,f),o.k=k∧o.i=i∧((aE9 w N l (Ab w d,f) k i=(bs w N l (Ab w d,f):Int))→wst (bs w N l) o=bs w N l (Ab w d,f)))):=by
 have hF:=aJX hw hl h
 obtain⟨_,hwb,_⟩:=Kq h
 unfold aE9
 cases hc:ay7 w N (Ab w d,f) k i with
 |none=>exact .inl rfl
 |some o=>
  obtain⟨h1,h2,p,x,I⟩:=(Pz hk).1 hc
  have ho:o∈Cm w N (Ab w d,f):=awJ.2 ⟨p,x,I⟩
  have hpr:=abJ hwb I.hp o.k
  rw[←I.c]at hpr
  simp only
  by_cases hm:Sys.mx (bs w N l) o.to<Di
  ·rw[if_pos hm]
   have hcan:∃k,Go.Ev.Can (Ly w N l) (Ab w d,f) k:=⟨_,.op (ay5.2 ⟨o,ho,rfl⟩) (k':=Sys.mx (bs w N l) o.to) (fun y hy=>by
    have hy2:=Sys.mx_le (f:=bs w N l) hy
    have:∃k,Go.Ev.Can (Ly w N l) y k:=Classical.byContradiction fun n=>by
     have:=Sys.bst_none (top:=Di) n
     have e:bs w N l y=Di:=this
     omega
    exact(Sys.bst_can (top:=Di) this).1.mono hy2) (aoS _)⟩
   have hlt:=hF.lt hcan
   have hle:=Sys.bst_le hF (ay5 (l:=l).2 ⟨o,ho,rfl⟩)
   change bs w N l (Ab w d,f)<Di at hlt
   change bs w N l (Ab w d,f)≤min Di (o.c.toNat+Sys.mx (bs w N l) o.to)at hle
   refine .inr ⟨by omega,hlt,by omega,o,ho,h1,h2,fun e=>?_⟩
   unfold wst
   omega
  ·rw[if_neg hm];exact .inl rfl
theorem aTS{w:Ah}{N:Nat}(hw:WOk w N){d:Int}{l:List Ep}(hl:l.length≤maxLen){f:Nat}(h:Kx w d l f=0){o:Jr}(ho:o∈Cm w N (Ab w d,f))(he:wst (bs w N l) o=bs w N l (Ab w d,f))(hlt:bs w N l (Ab w d,f)<Di):aE9 w N l (Ab w d,f) o.k o.i=(bs w N l (Ab w d,f):Int):=by
 obtain⟨_,hwb,_⟩:=Kq h
 obtain⟨p,x,I⟩:=awJ.1 ho
 have hpr:=abJ hwb I.hp o.k
 rw[←I.c]at hpr
 unfold aE9
 rw[(Pz I.k4).2 ⟨rfl,rfl,p,x,I⟩]
 simp only
 unfold wst at he
 rw[if_pos (by omega)]
 omega
theorem a65{w:Ah}{N:Nat}(hw:WOk w N){d:Int}{l:List Ep}(hl:l.length≤maxLen){f:Nat}(h:Kx w d l f=0):bs w N l (Ab w d,f)=0↔aEA (Ab w d) l=true:=by
 obtain⟨_,hwb,_⟩:=Kq h
 exact Sys.bst_pos (aJX hw hl h) (by unfold Di;omega) (aQA hwb)
theorem aGP(kn:Ef.call (.fn 10) [] []=some (.ret (.bool true),[]))(w:Ah)(hs:w.small)(d:Int)(l:List Ep)(nn:Bool)(hl:l.length≤maxLen)(f k i:Int):Ef.call (.fn 8) [.agg [.int .i64 w.rooms,.int .i64 w.need,Bt 9 true w.nn (w.parts.map Ac.cells)],.int .i64 d,Bt 3 true nn (l.map Ep.cells),.int .i64 f,.agg [.int .i64 k,.int .i64 i]] []=some (.ret (.bool true),[]):=by
 have h1:=a26 w
 have hpl:=aUF w hs d l nn hl f
 have h5:=bd3 w k i
 cases c1:aON w with
 |false=>
  rw[c1]at h1
  (refine ce Tryz.func8 ?_;simp only[Tryz.f8];(have hb:=trivial;with_reducible repeat' (first|simp only[hb,Vc.down,seval,TY8.down,h1,kn,ad8]|refine Au ?_ ?_<;>intro hb|refine fd ?_|fail)))
 |true=>
 rw[c1]at h1
 cases c2:decide ((l.length:Int)>10)with
 |true=>
  (refine ce Tryz.func8 ?_;simp only[Tryz.f8];(have hb:=trivial;with_reducible repeat' (first|simp only[hb,Vc.down,seval,TY8.down,h1,kn,ad8,c2]|refine Au ?_ ?_<;>intro hb|refine fd ?_|fail)))
 |false=>
 by_cases c3:Kx w d l f=0
 rotate_left
 ·have c3':(Kx w d l f==0)=false:=by simpa using c3
  (refine ce Tryz.func8 ?_;simp only[Tryz.f8];(have hb:=trivial;with_reducible repeat' (first|simp only[hb,Vc.down,seval,TY8.down,h1,kn,c2,hpl,c3',bne,ahF,ad8]|refine Au ?_ ?_<;>intro hb|refine fd ?_|fail)))
 rw[c3]at hpl
 cases c4:decide ((w.parts.length:Int)>4)with
 |true=>
  (refine ce Tryz.func8 ?_;simp only[Tryz.f8];(have hb:=trivial;with_reducible repeat' (first|simp only[hb,Vc.down,seval,TY8.down,h1,kn,c2,hpl,c4,bne,beq_self_eq_true,aoR,ahF,ad8]|refine Au ?_ ?_<;>intro hb|refine fd ?_|fail)))
 |false=>
 cases c5:opB w k i with
 |false=>
  rw[c5]at h5
  (refine ce Tryz.func8 ?_;simp only[Tryz.f8];(have hb:=trivial;with_reducible repeat' (first|simp only[hb,Vc.down,seval,TY8.down,h1,kn,c2,hpl,c4,h5,bne,beq_self_eq_true,aoR,ahF,ad8]|refine Au ?_ ?_<;>intro hb|refine fd ?_|fail)))
 |true=>
 rw[c5]at h5
 obtain⟨h6,hwb,hdb,hgb,hf0,hf3⟩:=Kq c3
 obtain⟨fN,rfl⟩:∃n:Nat,f=(n:Int):=⟨f.toNat,by omega⟩
 obtain⟨N,hw,h12⟩:=aQO hwb
 have hM:=bbA h12 d l nn hl (aCJ (by omega) hgb)
 have hmet:=a65 hw hl c3
 cases c6:aEA (Ab w d) l with
 |true=>
  rw[c6]at hM
  (refine ce Tryz.func8 ?_;simp only[Tryz.f8];(have hb:=trivial;with_reducible repeat' (first|simp only[hb,Vc.down,seval,TY8.down,h1,kn,c2,hpl,c4,h5,hM,bne,beq_self_eq_true,aoR,ahF,ad8]|refine Au ?_ ?_<;>intro hb|refine fd ?_|fail)))
 |false=>
 rw[c6]at hM hmet
 have hn0:bs w N l (Ab w d,fN)≠0:=fun e=>by have:=hmet.1 e;cases this
 obtain⟨k1,i1,hA,hop,_⟩:=a5Z hw hs d l nn hl fN c3
 have hlz:=hw.len
 have hnz:0<w.parts.length:=List.length_pos_iff.2 hw.ne
 simp only[opB,aA5,decide_eq_true_eq]at c5
 have hk:k=1∨k=2∨k=3∨k=4:=by omega
 have hj:0≤i∧i<(w.parts.length:Int):=by
  have:=c5.2
  rw[Ez (by omega) (by omega)]at this
  simp[Ht]at this
  omega
 obtain⟨j,rfl⟩:∃j:Nat,i=(j:Int):=⟨i.toNat,by omega⟩
 have hjl:j<w.parts.length:=by omega
 obtain⟨p,hp⟩:∃p,w.parts[j]?=some p:=⟨_,List.getElem?_eq_getElem hjl⟩
 have hAf:=aQK hw hs nn hl c3 hp hk
 have hlaw:=aR3 hw hl c3 hk j
 by_cases hfin:bs w N l (Ab w d,fN)<Di
 rotate_left
 ·have hv:aE9 w N l (Ab w d,fN) k j= -1:=hlaw.resolve_right fun h=>hfin h.2.1
  rw[hv]at hAf
  rw[show aHE (bs w N l (Ab w d,fN))=5 from if_neg hfin]at hA
  (refine ce Tryz.func8 ?_;simp only[Tryz.f8];(have hb:=trivial;with_reducible repeat' (first|simp only[hb,Vc.down,seval,TY8.down,h1,kn,c2,hpl,c4,h5,hM,hA,hAf,bne,beq_self_eq_true,aoR,ahF,ad8]|refine Au ?_ ?_<;>intro hb|refine fd ?_|fail)))
 obtain⟨o,ho,rfl,rfl⟩:=hop hn0 hfin
 have hom:=List.mem_of_find?_eq_some ho
 have hoe:wst (bs w N l) o=bs w N l (Ab w d,fN):=by simpa using List.find?_some ho
 obtain⟨po,xo,Io⟩:=awJ.1 hom
 have hAo:=aQK hw hs nn hl c3 Io.hp Io.k4
 rw[aTS hw hl c3 hom hoe hfin]at hAo
 have hopo:=bd3 w o.k (o.i:Int)
 have hil:=(awL.1 Io.hp).1
 rw[show opB w o.k (o.i:Int)=true by
  simp only[opB,aA5,decide_eq_true_eq]
  refine⟨⟨by have:=Io.k4;omega,by have:=Io.k4;omega⟩,?_⟩
  rw[Ez (by omega) (by omega)]
  simp[Ht]
  omega]at hopo
 rw[show aHE (bs w N l (Ab w d,fN))=0 from if_pos hfin,show aPN (bs w N l (Ab w d,fN))=(bs w N l (Ab w d,fN):Int)from if_pos hfin]at hA
 generalize hV:aE9 w N l (Ab w d,fN) k j=V at *
 have n1:decide (V≥0)=true→decide (V<(bs w N l (Ab w d,fN):Int))=false:=fun _=>by
  rcases hlaw with h|h
  ·rename_i h0;have:=of_decide_eq_true h0;omega
  ·exact decide_eq_false (by omega)
 have n2:(V==(bs w N l (Ab w d,fN):Int))=true→decide (k<o.k)=false∧((k==o.k)=true→decide ((j:Int)<(o.i:Int))=false):=fun e=>by
  have e:=eq_of_beq e
  rcases hlaw with h|⟨_,_,_,o',ho',e1,e2,e3⟩
  ·omega
  ·have hp':=e3 e
   have:=aFX (aNX w N (Ab w d,fN)) ho ho' (by simp[hp'])
   rcases this with rfl|h|⟨h1,h2⟩
   ·exact⟨decide_eq_false (by omega),fun _=>decide_eq_false (by omega)⟩
   ·exact⟨decide_eq_false (by omega),fun e=>by have:=eq_of_beq e;omega⟩
   ·exact⟨decide_eq_false (by omega),fun _=>decide_eq_false (by omega)⟩
 generalize bs w N l (Ab w d,fN)=bb at *
 cases m1:decide ((0:Int)≤V)with
 |true=>
  have m2:=n1 m1
  cases m3:(V==(bb:Int))with
  |true=>
   obtain⟨q1,q2⟩:=n2 m3
   cases m5:(k==o.k)with
   |true=>
    have q3:=q2 m5
    (refine ce Tryz.func8 ?_;simp only[Tryz.f8];(have hb:=trivial;with_reducible repeat' (first|simp only[hb,Vc.down,seval,TY8.down,h1,kn,c2,hpl,c4,h5,hM,hA,hAf,hAo,hopo,bne,beq_self_eq_true,aoR,ahF,ge_iff_le,m1,m2,m3,q1,m5,q3,ad8]|refine Au ?_ ?_<;>intro hb|refine fd ?_|fail)))
   |false=>
    (refine ce Tryz.func8 ?_;simp only[Tryz.f8];(have hb:=trivial;with_reducible repeat' (first|simp only[hb,Vc.down,seval,TY8.down,h1,kn,c2,hpl,c4,h5,hM,hA,hAf,hAo,hopo,bne,beq_self_eq_true,aoR,ahF,ge_iff_le,m1,m2,m3,q1,m5,ad8]|refine Au ?_ ?_<;>intro hb|refine fd ?_|fail)))
  |false=>
   (refine ce Tryz.func8 ?_;simp only[Tryz.f8];(have hb:=trivial;with_reducible repeat' (first|simp only[hb,Vc.down,seval,TY8.down,h1,kn,c2,hpl,c4,h5,hM,hA,hAf,hAo,hopo,bne,beq_self_eq_true,aoR,ahF,ge_iff_le,m1,m2,m3,ad8]|refine Au ?_ ?_<;>intro hb|refine fd ?_|fail)))
 |false=>
  cases m3:(V==(bb:Int))with
  |true=>
   obtain⟨q1,q2⟩:=n2 m3
   cases m5:(k==o.k)with
   |true=>
    have q3:=q2 m5
    (refine ce Tryz.func8 ?_;simp only[Tryz.f8];(have hb:=trivial;with_reducible repeat' (first|simp only[hb,Vc.down,seval,TY8.down,h1,kn,c2,hpl,c4,h5,hM,hA,hAf,hAo,hopo,bne,beq_self_eq_true,aoR,ahF,ge_iff_le,m1,m3,q1,m5,q3,ad8]|refine Au ?_ ?_<;>intro hb|refine fd ?_|fail)))
   |false=>
    (refine ce Tryz.func8 ?_;simp only[Tryz.f8];(have hb:=trivial;with_reducible repeat' (first|simp only[hb,Vc.down,seval,TY8.down,h1,kn,c2,hpl,c4,h5,hM,hA,hAf,hAo,hopo,bne,beq_self_eq_true,aoR,ahF,ge_iff_le,m1,m3,q1,m5,ad8]|refine Au ?_ ?_<;>intro hb|refine fd ?_|fail)))
  |false=>
   (refine ce Tryz.func8 ?_;simp only[Tryz.f8];(have hb:=trivial;with_reducible repeat' (first|simp only[hb,Vc.down,seval,TY8.down,h1,kn,c2,hpl,c4,h5,hM,hA,hAf,hAo,hopo,bne,beq_self_eq_true,aoR,ahF,ge_iff_le,m1,m3,ad8]|refine Au ?_ ?_<;>intro hb|refine fd ?_|fail)))
theorem aF2(hk:Ef.call (.fn 10) [] []=some (.ret (.bool true),[])):∀avs,aPJ Tryz.prog 7 Tryz.f8.params.toList avs→Ef.call (.fn 8) avs []=some (.ret (.bool true),[]):=by
 intro avs h
 rw[show Tryz.f8.params.toList=[24,3,25,3,36]from rfl]at h
 match avs,h with
 | [a,b,c,e,g],h=>
   obtain⟨w,rfl,hs⟩:=a2A h.1
   obtain⟨d,rfl,_⟩:=aYF h.2.1
   obtain⟨nn,l,rfl,hl⟩:=a1E h.2.2.1
   obtain⟨f,rfl,_⟩:=aYF h.2.2.2.1
   obtain⟨k,i,rfl⟩:=bbL h.2.2.2.2.1
   exact aGP hk w hs d l nn hl f k i
 | [],h=>exact h.elim
 | [_],h=>exact h.2.elim
 | [_,_],h=>exact h.2.2.elim
 | [_,_,_],h=>exact h.2.2.2.elim
 | [_,_,_,_],h=>exact h.2.2.2.2.elim
 |_::_::_::_::_::_::_,h=>exact h.2.2.2.2.2.elim
end Go.Proofs.YtcncggaobhbomaaGreatDoor
