/- The functions of the layer, walked. -/
import Derived.Test.YtdbiogihimdpcaaGreatDoorPartAH
import Derived.Test.YtdbiogihimdpcaaGreatDoorLibE
open List renaming mem_of_getElem?→aa9,getElem?_eq_getElem→acI,mem_cons_of_mem→acL,mem_cons_self→acQ,length_cons→acV,all_eq_true→adG,mem_cons→adJ,zipWith→adK,getElem?_eq_some_iff→adL,not_mem_nil→adN,zipWith_cons_cons→adP,sum_cons→adQ,getElem?_eq_none→ae4,getElem?_map→ajX,getElem?_zipWith→ajY,getElem?_cons_succ→aj1,replicate→an1,nil_append→aoC,ext_getElem?→aoF,getElem?_set_self→aoH,getElem?_set_ne→aoK,getElem_mem→aoL,append_assoc→aoO
open Int renaming toNat_natCast→abQ,add_zero→aeY,sub_zero→ajZ,mul_comm→ak9
open Bool renaming and_eq_true→acR,false_eq_true→adM,or_eq_true→alO
open Nat renaming zero_add→adO,add_zero→aj0,le_refl→aoB
open Option renaming getD_some→aoN
set_option linter.unusedSimpArgs false
set_option linter.unusedVariables false
namespace Go.Proofs.YtdbiogihimdpcaaGreatDoor
open Go.Ev Go
set_option maxRecDepth 100000
set_option maxHeartbeats 16000000
theorem Or.fz:∀{cs:List Ah} {l:List Int},Or l→Or (Hw cs l)
 | [],_,_=>fun w hw=>by simp[Hw]at hw
 |_::_,[],_=>fun w hw=>by simp[Hw]at hw
 |c::cs,x::l,h=>fun w hw=>by
  simp only[Hw,adP,adJ]at hw
  rcases hw with rfl|hw
  ·have:=h.head;unfold Jf;split<;>omega
  ·exact Or.fz h.tail w hw
theorem Or.oz:∀{cs:List Ah} {l:List Int},Or l→Or (Pl cs l)
 | [],_,_=>fun w hw=>by simp[Pl]at hw
 |_::_,[],_=>fun w hw=>by simp[Pl]at hw
 |c::cs,x::l,h=>fun w hw=>by
  simp only[Pl,adP,adJ]at hw
  rcases hw with rfl|hw
  ·have:=h.head;unfold gY;split<;>omega
  ·exact Or.oz h.tail w hw
theorem vD:∀{cs:List Ah} {l:List Int},l.length=cs.length→(Hw cs l).sum+(Pl cs l).sum=l.sum
 | [],[],_=>rfl
 |c::cs,x::l,h=>by
  have ih:=vD (cs:=cs) (l:=l) (by simpa using h)
  simp only[Hw,Pl,adP,adQ,Jf,gY]at ih ⊢
  split<;>omega
structure ayR(cs:List Ah)(l A:List Int)(m:Int):Prop where
 len:A.length=l.length
 ins:∀{i:Nat} {x w:Int},A[i]?=some x→l[i]?=some w→0≤x∧x≤w
 all:A.sum=min l.sum m
 firm:(Hw cs A).sum<(Hw cs l).sum→(Pl cs A).sum=0
 near:∀{i:Nat} {c:Ah} {x w:Int},cs[i]?=some c→A[i]?=some x→l[i]?=some w→
  (c.firm=true→x*(Hw cs l).sum-min m (Hw cs l).sum*w<max 1 (Hw cs l).sum∧ -(max 1 (Hw cs l).sum)<x*(Hw cs l).sum-min m (Hw cs l).sum*w)∧
  (c.firm=false→x*(Pl cs l).sum-min (max 0 (m-(Hw cs l).sum)) (Pl cs l).sum*w<max 1 (Pl cs l).sum∧ -(max 1 (Pl cs l).sum)<x*(Pl cs l).sum-min (max 0 (m-(Hw cs l).sum)) (Pl cs l).sum*w)
theorem an3:∀{cs:List Ah} {l A:List Int},(∀{i:Nat} {c:Ah} {x w:Int},cs[i]?=some c→A[i]?=some x→l[i]?=some w→c.firm=true→x=w)→l.length=cs.length→A.length=l.length→Hw cs A=Hw cs l
 | [],_,_,_,_,_=>rfl
 |c::cs,w::l,x::A,h,h1,h2=>by
  have ih:=an3 (cs:=cs) (l:=l) (A:=A) (fun {i c x w} hc hx hw=>h (i:=i+1) (by simpa using hc) (by simpa using hx) (by simpa using hw)) (by simpa using h1) (by simpa using h2)
  simp only[Hw,adP]at ih ⊢
  rw[ih]
  congr 1
  unfold Jf
  split
  ·rename_i hf;exact h (i:=0) rfl rfl rfl hf
  ·rfl
 |c::cs,[],_,_,h1,_=>by simp at h1
 |c::cs,_::_,[],_,_,h2=>by simp at h2
theorem yO:∀{cs:List Ah} {A:List Int},(∀{i:Nat} {c:Ah} {x:Int},cs[i]?=some c→A[i]?=some x→c.firm=false→x=0)→(Pl cs A).sum=0
 | [],_,_=>rfl
 |_::_,[],_=>rfl
 |c::cs,x::A,h=>by
  have ih:=yO (cs:=cs) (A:=A) (fun {i c x} hc hx=>h (i:=i+1) (by simpa using hc) (by simpa using hx))
  simp only[Pl,adP,adQ]at ih ⊢
  rw[ih]
  unfold gY
  split
  ·rfl
  ·rename_i hf;rw[h (i:=0) rfl rfl (by simpa using hf)];rfl
theorem uA{cs:List Ah}{l:List Int}{f:Ah→Int→Int}{i:Nat}{c:Ah}{w:Int}(hc:cs[i]?=some c)(hw:l[i]?=some w):(adK f cs l)[i]?=some (f c w):=by simp[ajY,hc,hw]
theorem auN{cs:List Ah}{l:List Int}{m:Int}(hl:l.length=cs.length)(h8:l.length≤8)(ha:Or l)(hm:0≤m)(hm':m≤800000000):ayR cs l (Wz cs l m) m:=by
 have hf:=ha.fz (cs:=cs)
 have ho:=ha.oz (cs:=cs)
 have lf:(Hw cs l).length=l.length:=by simp[Hw,hl]
 have lo:(Pl cs l).length=l.length:=by simp[Pl,hl]
 have s1:=Rq ha (by omega)
 have s2:=Rq hf (by omega)
 have s3:=Rq ho (by omega)
 have bf:=hf.sum
 have bo:=ho.sum
 have bl:=ha.sum
 have hfo:=vD hl
 unfold Wz
 rw[s1,s2,s3]
 split
 ·rename_i h1
  refine⟨rfl,fun hx hw=>?_,by omega,fun h=>by omega,fun {i c x w} hc hx hw=>?_⟩
  ·rw[hx]at hw;cases hw
   exact⟨(ha _ (aa9 hx)).1,Int.le_refl _⟩
  ·rw[hx]at hw;cases hw
   have e1:min m (Hw cs l).sum=(Hw cs l).sum:=by omega
   have e2:min (max 0 (m-(Hw cs l).sum)) (Pl cs l).sum=(Pl cs l).sum:=by omega
   rw[e1,e2,ak9 x,ak9 x]
   exact⟨fun _=>by omega,fun _=>by omega⟩
 ·rename_i h1
  split
  ·rename_i h2
   rw[cQ hm (by omega) (by omega) hf (by omega)]
   have hg:=fun {i:Nat} {x w:Int} hx hw=>Wp (l:=Hw cs l) (so:=0) hm (by omega:m≤(Hw cs l).sum) (by omega) hf (i:=i) (x:=x) (w:=w) hx hw
   have hz:∀{i:Nat} {c:Ah} {x:Int},cs[i]?=some c→(Gl m (Hw cs l).sum (Hw cs l) 0)[i]?=some x→c.firm=false→x=0:=fun {i c x} hc hx hfm=>by
    have hi:i<l.length:=by
     have:=(adL.1 hx).1
     rw[Hz,lf]at this;exact this
    obtain⟨w,hw⟩:∃w,l[i]?=some w:=⟨_,acI hi⟩
    have:=hg hx (uA (f:=Jf) hc hw)
    simp only[Jf,hfm,adM,if_false]at this
    omega
   refine⟨by rw[Hz,lf],fun {i x w} hx hw=>?_,?_,fun _=>yO hz,fun {i c x w} hc hx hw=>?_⟩
   ·have hi:i<cs.length:=by
     have:=(adL.1 hw).1;omega
    obtain⟨c,hc⟩:∃c,cs[i]?=some c:=⟨_,acI hi⟩
    have:=hg hx (uA (f:=Jf) hc hw)
    have hw0:=ha _ (aa9 hw)
    unfold Jf at this
    split at this<;>omega
   ·rw[aO (by omega)];omega
   ·have:=hg hx (uA (f:=Jf) hc hw)
    constructor
    ·intro hfm
     simp only[Jf,hfm,if_true]at this
     rw[Int.min_eq_left (by omega)]
     exact⟨by omega,by omega⟩
    ·intro hfm
     rw[hz hc hx hfm,show min (max 0 (m-(Hw cs l).sum)) (Pl cs l).sum=0 by omega]
     omega
  ·rename_i h2
   have e0:IntKind.i64.wrap (m-(Hw cs l).sum)=m-(Hw cs l).sum:=Ag (by omega) (by omega)
   rw[e0,cQ (by omega) (by omega) (by omega) ho (by omega)]
   have hg:=fun {i:Nat} {x w:Int} hx hw=>Wp (l:=Pl cs l) (so:=0) (by omega:0≤m-(Hw cs l).sum) (by omega:m-(Hw cs l).sum≤(Pl cs l).sum) (by omega) ho (i:=i) (x:=x) (w:=w) hx hw
   have hA:∀{i:Nat} {c:Ah} {x w:Int},cs[i]?=some c→l[i]?=some w→(adK Vq (Gl (m-(Hw cs l).sum) (Pl cs l).sum (Pl cs l) 0) (Hw cs l))[i]?=some x→(c.firm=true→x=w)∧(c.firm=false→0≤x∧x≤w∧x*(Pl cs l).sum-(m-(Hw cs l).sum)*w<(Pl cs l).sum∧ -(Pl cs l).sum<x*(Pl cs l).sum-(m-(Hw cs l).sum)*w):=fun {i c x w} hc hw hx=>by
    rw[ajY,uA (f:=Jf) hc hw (cs:=cs) (l:=l) |> (fun h=>(show(Hw cs l)[i]?=some (Jf c w)from h))]at hx
    cases hy:(Gl (m-(Hw cs l).sum) (Pl cs l).sum (Pl cs l) 0)[i]? with
    |none=>rw[hy]at hx;simp at hx
    |some y=>
     rw[hy]at hx
     simp only[Option.some.injEq]at hx
     have:=hg hy (uA (f:=gY) hc hw)
     have hw0:=ha _ (aa9 hw)
     subst hx
     constructor
     ·intro hfm
      simp only[gY,hfm,if_true]at this
      simp only[Vq,Jf,hfm,if_true]
      rw[Ag (by omega) (by omega)];omega
     ·intro hfm
      simp only[gY,hfm,adM,if_false]at this
      simp only[Vq,Jf,hfm,adM,if_false]
      rw[Ag (by omega) (by omega),aeY]
      exact this
   have hlen:(adK Vq (Gl (m-(Hw cs l).sum) (Pl cs l).sum (Pl cs l) 0) (Hw cs l)).length=l.length:=by simp[Hz,lf,lo]
   have hfz:=an3 (cs:=cs) (l:=l) (A:=adK Vq (Gl (m-(Hw cs l).sum) (Pl cs l).sum (Pl cs l) 0) (Hw cs l)) (fun {i c x w} hc hx hw hfm=>(hA hc hw hx).1 hfm) hl hlen
   have hoz:Pl cs (adK Vq (Gl (m-(Hw cs l).sum) (Pl cs l).sum (Pl cs l) 0) (Hw cs l))=Gl (m-(Hw cs l).sum) (Pl cs l).sum (Pl cs l) 0:=by
    refine aoF fun i=>?_
    by_cases hi:i<l.length
    ·obtain⟨w,hw⟩:∃w,l[i]?=some w:=⟨_,acI hi⟩
     obtain⟨c,hc⟩:∃c,cs[i]?=some c:=⟨_,acI (by omega)⟩
     obtain⟨y,hy⟩:∃y,(Gl (m-(Hw cs l).sum) (Pl cs l).sum (Pl cs l) 0)[i]?=some y:=⟨_,acI (by rw[Hz,lo];exact hi)⟩
     have:=hg hy (uA (f:=gY) hc hw)
     have hw0:=ha _ (aa9 hw)
     have hz:(adK Vq (Gl (m-(Hw cs l).sum) (Pl cs l).sum (Pl cs l) 0) (Hw cs l))[i]?=some (Vq y (Jf c w)):=by
      rw[ajY,hy,show(Hw cs l)[i]?=some (Jf c w)from uA hc hw]
     rw[hy,show(Pl cs _)[i]?=some (gY c (Vq y (Jf c w)))from uA hc hz]
     unfold gY at this ⊢
     split at this
     ·rename_i hfm;rw[if_pos hfm];congr 1;omega
     ·rename_i hfm
      rw[if_neg hfm]
      simp only[Vq,Jf,hfm,adM,if_false]
      rw[Ag (by omega) (by omega),aeY]
    ·rw[ae4 (by simp[Pl,Hz,lo,lf];omega),ae4 (by rw[Hz,lo];omega)]
   have hs:=vD (cs:=cs) (l:=adK Vq (Gl (m-(Hw cs l).sum) (Pl cs l).sum (Pl cs l) 0) (Hw cs l)) (by omega)
   rw[hfz,hoz,aO (by omega)]at hs
   refine⟨hlen,fun {i x w} hx hw=>?_,by omega,fun h=>by rw[hfz]at h;omega,fun {i c x w} hc hx hw=>?_⟩
   ·have hi:i<cs.length:=by
     have:=(adL.1 hw).1;omega
    obtain⟨c,hc⟩:∃c,cs[i]?=some c:=⟨_,acI hi⟩
    have hq:=hA hc hw hx
    have hw0:=ha _ (aa9 hw)
    cases hfm:c.firm with
    |true=>have:=hq.1 hfm;omega
    |false=>have:=hq.2 hfm;omega
   ·have hq:=hA hc hw hx
    constructor
    ·intro hfm
     rw[hq.1 hfm,Int.min_eq_right (by omega),ak9 w]
     omega
    ·intro hfm
     have:=hq.2 hfm
     rw[show min (max 0 (m-(Hw cs l).sum)) (Pl cs l).sum=m-(Hw cs l).sum by omega]
     exact⟨by omega,by omega⟩
theorem Tc(l:List Int)(i v j:Int):gI (sI l i v) j=if i.toNat=j.toNat∧i.toNat<l.length then v else gI l j:=by
 unfold gI sI
 by_cases h:i.toNat=j.toNat
 ·rw[←h]
  by_cases hl:i.toNat<l.length
  ·rw[if_pos ⟨rfl,hl⟩,aoH hl];rfl
  ·rw[if_neg (fun q=>hl q.2),List.set_eq_of_length_le (by omega)]
 ·rw[if_neg (fun q=>h q.1),aoK h]
structure pV(cs:List Ah)(G:List Int):Prop where
 len:G.length=cs.length
 inn:∀(i:Nat) c,cs[i]?=some c→0≤gI G i∧gI G i≤c.space
def LOK(B:Int)(L:List Int):Prop:=∀i:Int,-B≤gI L i∧gI L i≤B
theorem pV.at{cs:List Ah}{G:List Int}(h:pV cs G){i:Int}(hi:xQ cs.length i):∃c,cs[i.toNat]?=some c∧0≤gI G i∧gI G i≤c.space:=by
 obtain⟨c,hc⟩:∃c,cs[i.toNat]?=some c:=⟨_,acI hi.toNat⟩
 have:=h.inn i.toNat c hc
 have e:((i.toNat:Nat):Int)=i:=by have:=hi.1;omega
 rw[e]at this
 exact⟨c,hc,this⟩
theorem asX(l:List Int)(i:Int):gI l (i.toNat:Int)=gI l i:=by unfold gI;rw[abQ]
theorem pV.move{cs:List Ah}{G:List Int}(h:pV cs G){a b:Int}(ha:xQ cs.length a)(hb:xQ cs.length b)(hab:a≠b){n:Int}(hn:0≤n)(h1:n≤gI G a)(h2:∀c,cs[b.toNat]?=some c→gI G b+n≤c.space):
 pV cs (sI (sI G a (gI G a-n)) b (gI G b+n)):=by
 refine⟨by rw[Bj,Bj];exact h.len,fun i c hc=>?_⟩
 have hi:i<cs.length:=(adL.1 hc).1
 have hh:=h.inn i c hc
 have hla:=ha.toNat
 have hlb:=hb.toNat
 rw[Tc,Tc]
 simp only[abQ,Bj]
 have a0:=ha.1
 have b0:=hb.1
 split
 ·rename_i q
  have q1:=q.1
  subst q1
  have:=h2 c hc
  have h3:=h.at hb
  obtain⟨c',hc',p1,p2⟩:=h3
  exact⟨by omega,this⟩
 ·split
  ·rename_i q
   have q1:=q.1
   subst q1
   rw[asX]at hh
   omega
  ·exact hh
theorem yP{c:Ah}(h:Ig c=true):(0≤c.lack∧c.lack≤10000)∧(0≤c.cut∧c.cut≤10000)∧(0≤c.inn∧c.inn≤10000)∧(0≤c.out∧c.out≤10000)∧(0≤c.fixed∧c.fixed≤10000):=by
 simp only[Ig,acR,Gp,decide_eq_true_eq,List.all_cons,List.all_nil,and_true]at h
 obtain⟨_,h1,h2,h3,h4,h5⟩:=h
 exact⟨h5,h4,h2,h3,h1⟩
structure xN(n:Nat)(t:Ab):Prop where
 ok:t.ok n
 ne:t.frm≠t.to
 amt:1≤t.amount∧t.amount≤100000000
 back:t.back= -1∨0≤t.back
theorem tok{n:Nat}(hn:n≤1000){t:Ab}(h:Kx n t=true):xN n t:=by
 obtain⟨a,b,c,d,e⟩:=lP hn h
 exact⟨a,b,⟨c,d⟩,e⟩
def lnN(cs:List Ah)(t:Ab)(G:List Int):Int:=mn (mn t.amount (gI G t.to)) (Ie cs t.frm-gI G t.frm)
def mH(cs:List Ah)(t:Ab)(G:List Int):Int:=(t.amount-mn t.amount (gI G t.to))*bG cs t.to
theorem oW{l:List Int}{i:Int}(hi:xQ l.length i):sI l i (gI l i)=l:=by
 unfold sI gI
 have:=hi.toNat
 refine aoF fun j=>?_
 by_cases h:i.toNat=j
 ·subst h;rw[aoH this,acI this];rfl
 ·rw[aoK h]
theorem yN{cs:List Ah}(hcs:∀c∈cs,Ig c=true){t:Ab}(T:xN cs.length t){G L:List Int}(hG:pV cs G){B:Int}(hB:0≤B∧B≤4000000000000000000)(hLl:L.length=cs.length)(hL:LOK B L):
 Ud cs t G=sI (sI G t.to (gI G t.to-lnN cs t G)) t.frm (gI G t.frm+lnN cs t G)∧aj2 cs t G=Ud cs t G∧
 To cs t G L=sI (sI L t.to (gI L t.to+mH cs t G)) t.frm (gI L t.frm-mH cs t G)∧alU cs t G L=To cs t G L∧
 pV cs (Ud cs t G)∧LOK (B+1000000000000) (To cs t G L)∧(0≤lnN cs t G)∧(0≤mH cs t G∧mH cs t G≤1000000000000):=by
 obtain⟨ct,hct,gt0,gt1⟩:=hG.at T.ok.2
 obtain⟨cf,hcf,gf0,gf1⟩:=hG.at T.ok.1
 have Ct:=Vf (hcs ct (aa9 hct))
 have Cf:=Vf (hcs cf (aa9 hcf))
 have Lt:=(yP (hcs ct (aa9 hct))).1
 have hA:=T.amt
 have sp1:=Ct.space
 have sp2:=Cf.space
 have eS:Ie cs t.frm=cf.space:=by simp[Ie,hcf]
 have eK:bG cs t.to=ct.lack:=by simp[bG,hct]
 have hne:=T.ne
 have i0:=T.ok.1.1
 have j0:=T.ok.2.1
 have wS:IntKind.i64.wrap (cf.space-gI G t.frm)=cf.space-gI G t.frm:=Ag (by omega) (by omega)
 have wA:IntKind.i64.wrap (t.amount-gI G t.to)=t.amount-gI G t.to:=Ag (by omega) (by omega)
 have n0:0≤lnN cs t G∧lnN cs t G≤gI G t.to∧lnN cs t G≤cf.space-gI G t.frm:=by
  unfold lnN mn;rw[eS];split<;>split<;>omega
 have eN:kW cs t G=lnN cs t G:=by
  unfold kW lnN;rw[eS,wS];rfl
 have eR:oZ cs t G=lnN cs t G:=by
  unfold oZ lnN;rw[eS,wS]
 have m0:0≤t.amount-mn t.amount (gI G t.to)∧t.amount-mn t.amount (gI G t.to)≤100000000:=by
  unfold mn;split<;>omega
 have p0:0≤mH cs t G∧mH cs t G≤1000000000000:=by
  unfold mH;rw[eK]
  have:=bB m0.1 m0.2 Lt.1 Lt.2
  omega
 have eP:sM cs t G=mH cs t G:=by
  have w1:IntKind.i64.wrap (t.amount-mn t.amount (gI G t.to))=t.amount-mn t.amount (gI G t.to):=Ag (by omega) (by omega)
  have p1:=p0
  unfold mH at p1
  unfold sM mH
  rw[w1]
  exact Ag (by omega) (by omega)
 have wt:=hL t.to
 have wf:=hL t.frm
 have ne1:∀(l:List Int) v,gI (sI l t.to v) t.frm=gI l t.frm:=fun l v=>rL j0 i0 (Ne.symm hne) v
 have r1:Ud cs t G=sI (sI G t.to (gI G t.to-lnN cs t G)) t.frm (gI G t.frm+lnN cs t G):=by
  unfold Ud
  rw[eN,ne1,Ag (by omega) (by omega),Ag (by omega) (by omega)]
 have r2:aj2 cs t G=Ud cs t G:=by
  rw[r1];unfold aj2
  rw[eR,Ag (by omega) (by omega),Ag (by omega) (by omega)]
 have r4:alU cs t G L=sI (sI L t.to (gI L t.to+mH cs t G)) t.frm (gI L t.frm-mH cs t G):=by
  unfold alU
  rw[eP,Ag (by omega) (by omega),Ag (by omega) (by omega)]
 have r3:To cs t G L=sI (sI L t.to (gI L t.to+mH cs t G)) t.frm (gI L t.frm-mH cs t G):=by
  unfold To
  rw[wA]
  split
  ·rename_i hlt
   have eW:kC cs t G=mH cs t G:=by
    rw[←eP];unfold kC sM
    rw[show mn t.amount (gI G t.to)=gI G t.to by unfold mn;rw[if_pos (by omega)]]
   rw[eW,ne1,Ag (by omega) (by omega),Ag (by omega) (by omega)]
  ·rename_i hlt
   have z:mH cs t G=0:=by
    unfold mH
    rw[show mn t.amount (gI G t.to)=t.amount by unfold mn;rw[if_neg (by omega)]]
    simp
   have h1:=T.ok.1
   have h2:=T.ok.2
   rw[←hLl]at h1 h2
   rw[z,aeY,ajZ,oW h2,oW h1]
 refine⟨r1,r2,r3,by rw[r4,r3],?_,?_,n0.1,p0⟩
 ·rw[r1]
  exact hG.move T.ok.2 T.ok.1 (Ne.symm hne) n0.1 n0.2.1 (fun c hc=>by rw[hcf]at hc;cases hc;omega)
 ·rw[r3]
  intro i
  have:=hL i
  rw[Tc]
  split
  ·omega
  ·rw[Tc];split<;>omega
theorem jR{cs:List Ah}(hcs:∀c∈cs,Ig c=true)(hr:Int):∀{O:List Ab},(∀t∈O,xN cs.length t)→∀{G L:List Int} (p:List Ab) {B:Int},pV cs G→0≤B→B+1000000000000*O.length≤4000000000000000000→L.length=cs.length→LOK B L→
 aaO cs hr O (G,L,p)=Cd cs hr O (G,L,p)∧pV cs (Cd cs hr O (G,L,p)).1∧(Cd cs hr O (G,L,p)).2.1.length=cs.length∧LOK (B+1000000000000*O.length) (Cd cs hr O (G,L,p)).2.1
 | [],_,G,L,p,B,hG,h0,hB,hLl,hL=>⟨rfl,hG,hLl,by simpa [Cd]using hL⟩
 |t::O,hO,G,L,p,B,hG,h0,hB,hLl,hL=>by
  have T:=hO t (acQ ..)
  have hO':∀t∈O,xN cs.length t:=fun t ht=>hO t (acL _ ht)
  simp only[acV]at hB
  by_cases hb:t.back=hr
  ·obtain⟨_,r2,_,r4,g,l,_⟩:=yN hcs T hG (B:=B) ⟨h0,by omega⟩ hLl hL
   have hb':(t.back==hr)=true:=by simpa using hb
   simp only[aaO,Cd,hb,hb',if_true]
   rw[r2,r4]
   obtain⟨a,b,c,d⟩:=jR hcs hr hO' p g (by omega) (by omega) (by rw[Ns];exact hLl) l
   refine⟨by simpa using a,b,c,fun i=>?_⟩
   have:=d i
   simp only[acV]
   omega
  ·have hb':(t.back==hr)=false:=by simpa using hb
   simp only[aaO,Cd,hb,hb',if_false,adM]
   obtain⟨a,b,c,d⟩:=jR hcs hr hO' (p++[t]) hG h0 (by omega) hLl hL
   refine⟨a,b,c,fun i=>?_⟩
   have:=d i
   simp only[acV]
   omega
theorem Zs{cs:List Ah}(hcs:∀c∈cs,Ig c=true)(hr:Int):∀{T:List Ab},(∀t∈T,xN cs.length t)→∀{G:List Int} (i:Nat) (O:List Ab) (R:List Int),pV cs G→pV cs (Bd cs hr T i (G,O,R)).1
 | [],_,G,i,O,R,hG=>hG
 |t::T,hT,G,i,O,R,hG=>by
  have hT':∀t∈T,xN cs.length t:=fun t ht=>hT t (acL _ ht)
  have K:=hT t (acQ ..)
  simp only[Bd]
  split
  ·split
   ·exact Zs hcs hr hT' _ _ _ hG
   ·rename_i hno
    refine Zs hcs hr hT' _ _ _ ?_
    obtain⟨ct,hct,gt0,gt1⟩:=hG.at K.ok.2
    obtain⟨cf,hcf,gf0,gf1⟩:=hG.at K.ok.1
    have sp1:=(Vf (hcs ct (aa9 hct))).space
    have sp2:=(Vf (hcs cf (aa9 hcf))).space
    have hA:=K.amt
    have e:Ie cs t.to=ct.space:=by simp[Ie,hct]
    simp only[Lh,alO,decide_eq_true_eq,not_or,e]at hno
    obtain⟨⟨n1,n2⟩,_⟩:=hno
    rw[Ag (by omega) (by omega)]at n2
    rw[gA K.ok K.ne,Ag (by omega) (by omega),Ag (by omega) (by omega)]
    exact hG.move K.ok.1 K.ok.2 K.ne (by omega) (by omega) (fun c hc=>by rw[hct]at hc;cases hc;omega)
  ·exact Zs hcs hr hT' _ _ _ hG
theorem mM(q:Int):∀(l:List Bi) (o:Bi),dC q l o=o∨dC q l o∈l
 | [],o=>.inl rfl
 |r::l,o=>by
  simp only[dC]
  rcases mM q l (if r.fill≤q then r else o)with h|h
  ·rw[h];split
   ·exact .inr (acQ ..)
   ·exact .inl rfl
  ·exact .inr (acL _ h)
theorem ajT{c:Ah}(h:Ig c=true)(g:Int):(0≤(Tf c g).inn∧(Tf c g).inn≤100000000)∧(0≤(Tf c g).out∧(Tf c g).out≤100000000)∧(Rb c).fill=0:=by
 have C:=Vf h
 simp only[Ig,acR]at h
 have hr:=h.1.1.1.1.1
 have r0:Rb c∈c.rates:=by
  unfold Rb
  rw[acI (List.length_pos_iff.2 C.rates.1)]
  exact aoL _
 have m:Tf c g∈c.rates:=by
  unfold Tf
  rcases mM (ae6 c g) c.rates (Rb c)with e|e
  ·rw[e];exact r0
  ·exact e
 have:=Wq hr m
 refine⟨⟨this.1,this.2.1⟩,⟨this.2.2.1,this.2.2.2⟩,?_⟩
 unfold Rb
 cases hc:c.rates with
 |nil=>exact(C.rates.1 hc).elim
 |cons r l=>
  rw[hc]at hr
  simp only[Is,Rk,acR,decide_eq_true_eq]at hr
  exact hr.1.2
theorem xZ{c:Ah}(h:Ig c=true){n g:Int}(hn: -100000000≤n∧n≤100000000)(h0:0≤g)(h1:g≤c.space):
 fZ c n g=sY c n g∧ -g≤sY c n g∧sY c n g≤c.space-g:=by
 have C:=(Vf h).space
 obtain⟨⟨r1,r2⟩,⟨r3,r4⟩,_⟩:=ajT h g
 have w1:IntKind.i64.wrap (c.space-g)=c.space-g:=Ag (by omega) (by omega)
 have w2:IntKind.i64.wrap (0-n)=0-n:=Ag (by omega) (by omega)
 have w3:IntKind.i64.wrap (0-(Tf c g).out)=0-(Tf c g).out:=Ag (by omega) (by omega)
 have w4:IntKind.i64.wrap (0-g)=0-g:=Ag (by omega) (by omega)
 unfold fZ sY
 rw[w1,w2,w3,w4]
 generalize(Tf c g).inn=a at *
 generalize(Tf c g).out=b at *
 have e1:0≤yE (mn (mn n a) (c.space-g))∧yE (mn (mn n a) (c.space-g))≤100000000:=by
  unfold yE mn;split<;>split<;>split<;>omega
 have e2:0≤yE (mn (mn (0-n) b) g)∧yE (mn (mn (0-n) b) g)≤100000000:=by
  unfold yE mn;split<;>split<;>split<;>omega
 rw[Ag (by omega) (by omega)]
 by_cases hp:0≤n
 ·have z:yE (mn (mn (0-n) b) g)=0:=by unfold yE mn;split<;>split<;>split<;>omega
  rw[z]
  unfold yE mn jV
  refine⟨?_,?_,?_⟩<;>(repeat' split)<;>omega
 ·have z:yE (mn (mn n a) (c.space-g))=0:=by unfold yE mn;split<;>split<;>split<;>omega
  rw[z]
  unfold yE mn jV
  refine⟨?_,?_,?_⟩<;>(repeat' split)<;>omega
theorem mW{l:List Bq}{k:Int}(h:l.all (Yt k)=true)(j:Int): -100000000≤Rr l j∧Rr l j≤100000000:=by
 unfold Rr
 cases e:l[j.toNat]? with
 |none=>simp
 |some n=>
  have:=adG.1 h n (aa9 e)
  simp only[Yt,Gp,acR,decide_eq_true_eq]at this
  simp only[Option.map_some,aoN]
  omega
theorem kN{s:Ac}{d:An}{hr:Int}{G:List Int}(hn:d.noms.all (Yt s.cons.length)=true):∀(l:List Ah) (i:Nat) (p:List Int),p.length=i→(∀c∈l,Ig c=true)→(∀(j:Nat) c,l[j]?=some c→0≤gI G ((i+j:Nat):Int)∧gI G ((i+j:Nat):Int)≤c.space)→
 It (Bn s d hr G) l i (p++an1 l.length 0)=p++Qj s d hr G l i
 | [],i,p,hp,_,_=>by simp[It,Qj]
 |c::l,i,p,hp,hc,hG=>by
  have h0:=hG 0 c rfl
  rw[aj0]at h0
  have ih:=kN (hr:=hr) hn l (i+1) (p++[Wh s d hr G i c]) (by simp[hp]) (fun c hc'=>hc c (acL _ hc')) (fun j c' hj=>by
   have:=hG (j+1) c' (by simpa using hj)
   rwa[show i+(j+1)=i+1+j by omega]at this)
  have e:=xZ (hc c (acQ ..)) (mW hn (Ed s.lead d.noms i hr d.noms (0,-1))) h0.1 h0.2
  have key:Bn s d hr G i c (p++0::an1 l.length 0)=p++Wh s d hr G i c::an1 l.length 0:=by
   unfold Bn Wh
   cases ha:Gp hr c.lo c.hi with
   |false=>simp
   |true=>
    by_cases hk:Ed s.lead d.noms i hr d.noms (0,-1)<0
    ·have hk':¬0≤Ed s.lead d.noms i hr d.noms (0,-1):=by omega
     simp[hk,hk']
    ·have hk':0≤Ed s.lead d.noms i hr d.noms (0,-1):=by omega
     simp only[hk,hk',if_true,if_false,decide_true,Bool.and_self]
     rw[e.1]
     unfold sI
     rw[abQ,List.set_append_right _ _ (by omega),hp,Nat.sub_self]
     rfl
  simp only[It,Qj,acV,List.replicate_succ]
  rw[key]
  rw[aoO]at ih
  rw[aoO]at ih
  exact ih
theorem lI{l:List Int}(ha:Or l)(h8:l.length≤8){m:Int}(h0:0≤m)(h1:m≤l.sum){i:Nat}{x w:Int}(hx:(Br m l)[i]?=some x)(hw:l[i]?=some w):0≤x∧x≤w:=by
 unfold Br at hx
 rw[Rq ha (by omega)]at hx
 have hs:=ha.sum
 by_cases hp:0<l.sum
 ·rw[cQ h0 (by omega) hp ha h8]at hx
  have:=Wp h0 h1 hp ha hx hw
  exact⟨this.1,this.2.1⟩
 ·rw[Yc hp]at hx
  have:x=0:=by
   rw[List.getElem?_replicate]at hx
   split at hx
   ·cases hx;rfl
   ·cases hx
  have:=ha w (aa9 hw)
  omega
theorem zP{w:Int}:Db w=if 0<w then w else 0:=by unfold Db;rfl
theorem zR{w:Int}(h: -100000000≤w∧w≤100000000):Do w=if w<0 then -w else 0:=by
 unfold Do Db
 rw[Ag (by omega) (by omega)]
 split<;>split<;>omega
def uE(w f:Int):Prop:=(0≤w→0≤f∧f≤w)∧(w≤0→w≤f∧f≤0)
theorem ah4{l P N:List Int}(hP:P.length=l.length)(hN:N.length=l.length)(hl:∀w∈l,-100000000≤w∧w≤100000000)
 (h1:∀{i:Nat} {x w:Int},P[i]?=some x→l[i]?=some w→0≤x∧x≤Db w) (h2:∀{i:Nat} {x w:Int},N[i]?=some x→l[i]?=some w→0≤x∧x≤Do w) (i:Nat):
 uE (gI l i) (gI (adK Xr P N) i):=by
 unfold gI
 rw[abQ,ajY]
 by_cases hi:i<l.length
 ·obtain⟨w,hw⟩:∃w,l[i]?=some w:=⟨_,acI hi⟩
  obtain⟨x,hx⟩:∃x,P[i]?=some x:=⟨_,acI (by omega)⟩
  obtain⟨y,hy⟩:∃y,N[i]?=some y:=⟨_,acI (by omega)⟩
  have a:=h1 hx hw
  have b:=h2 hy hw
  have c:=hl w (aa9 hw)
  rw[zP]at a
  rw[zR c]at b
  simp only[hw,hx,hy,aoN]
  unfold Xr uE
  rw[Ag (by split at a<;>split at b<;>omega) (by split at a<;>split at b<;>omega)]
  split at a<;>split at b<;>omega
 ·rw[ae4 (by omega),ae4 (by omega)]
  simp[uE]
theorem iK{l:List Int}(hl:∀w∈l,-100000000≤w∧w≤100000000):Or (l.map Db):=fun w hw=>by
 obtain⟨x,hx,rfl⟩:=List.mem_map.1 hw
 have:=hl x hx
 rw[zP];split<;>omega
theorem iI{l:List Int}(hl:∀w∈l,-100000000≤w∧w≤100000000):Or (l.map Do):=fun w hw=>by
 obtain⟨x,hx,rfl⟩:=List.mem_map.1 hw
 have:=hl x hx
 rw[zR this];split<;>omega
theorem iS{f:Int→Int}{l:List Int}{i:Nat}{y w:Int}(h:(l.map f)[i]?=some y)(hw:l[i]?=some w):y=f w:=by
 rw[ajX,hw]at h;simpa using h.symm
theorem afQ{cs:List Ah}{l:List Int}(hl:∀w∈l,-100000000≤w∧w≤100000000)(hc:l.length=cs.length)(h8:l.length≤8){a b:Int}(ha:0≤a∧a≤800000000)(hb:0≤b∧b≤800000000)(i:Nat):
 uE (gI l i) (gI (Gk Wz cs l a b) i):=by
 have c1:=auN (cs:=cs) (l:=l.map Db) (m:=a) (by simpa using hc) (by simpa using h8) (iK hl) ha.1 ha.2
 have c2:=auN (cs:=cs) (l:=l.map Do) (m:=b) (by simpa using hc) (by simpa using h8) (iI hl) hb.1 hb.2
 refine ah4 (by rw[c1.len];simp) (by rw[c2.len];simp) hl (fun hx hw=>?_) (fun hx hw=>?_) i
 ·obtain⟨y,hy⟩:∃y,(l.map Db)[_]?=some y:=⟨_,by rw[ajX,hw];rfl⟩
  have:=c1.ins hx hy
  rwa[iS hy hw]at this
 ·obtain⟨y,hy⟩:∃y,(l.map Do)[_]?=some y:=⟨_,by rw[ajX,hw];rfl⟩
  have:=c2.ins hx hy
  rwa[iS hy hw]at this
theorem alY{A:List Int}(hl:∀w∈A,-100000000≤w∧w≤100000000)(h8:A.length≤8){z:Au}(h1:0≤z.flowIn)(h2:0≤z.flowOut)(i:Nat):uE (gI A i) (gI (RF z A) i):=by
 have p:=iK hl
 have q:=iI hl
 have sp:=Rq p (by simp;omega)
 have sq:=Rq q (by simp;omega)
 have bp:=p.sum
 have bq:=q.sum
 refine ah4 (by unfold Br;rw[Dz];simp) (by unfold Br;rw[Dz];simp) hl (fun hx hw=>?_) (fun hx hw=>?_) i
 ·obtain⟨y,hy⟩:∃y,(A.map Db)[_]?=some y:=⟨_,by rw[ajX,hw];rfl⟩
  have:=lI p (by simpa using h8) (by unfold mn;split<;>omega) (by unfold mn;split<;>omega) hx hy
  rwa[iS hy hw]at this
 ·obtain⟨y,hy⟩:∃y,(A.map Do)[_]?=some y:=⟨_,by rw[ajX,hw];rfl⟩
  have:=lI q (by simpa using h8) (by unfold mn;split<;>omega) (by unfold mn;split<;>omega) hx hy
  rwa[iS hy hw]at this
theorem adV{A:List Int}(hl:∀w∈A,-100000000≤w∧w≤100000000)(h8:A.length≤8){z:Au}(h1:0≤z.flowIn∧z.flowIn≤800000000)(h2:0≤z.flowOut∧z.flowOut≤800000000){own:Int}(ho: -4000000000000000000≤own∧own≤4000000000000000000):
 cX A z own=agJ z A own∧agJ z A own=own+(z.flowIn-mn z.flowIn (A.map Db).sum)-(z.flowOut-mn z.flowOut (A.map Do).sum)∧(0≤mn z.flowIn (A.map Db).sum∧mn z.flowIn (A.map Db).sum≤z.flowIn)∧(0≤mn z.flowOut (A.map Do).sum∧mn z.flowOut (A.map Do).sum≤z.flowOut):=by
 have p:=iK hl
 have q:=iI hl
 have sp:=Rq p (by simp;omega)
 have sq:=Rq q (by simp;omega)
 have bp:=p.sum
 have bq:=q.sum
 have m1:0≤mn z.flowIn (A.map Db).sum∧mn z.flowIn (A.map Db).sum≤z.flowIn:=by unfold mn;split<;>omega
 have m2:0≤mn z.flowOut (A.map Do).sum∧mn z.flowOut (A.map Do).sum≤z.flowOut:=by unfold mn;split<;>omega
 have e:agJ z A own=own+(z.flowIn-mn z.flowIn (A.map Db).sum)-(z.flowOut-mn z.flowOut (A.map Do).sum):=by
  unfold agJ
  rw[sp,sq]
  rw[Ag (n:=own+z.flowIn) (by omega) (by omega),Ag (n:=own+z.flowIn-_) (by omega) (by omega),Ag (n:=own+z.flowIn-_-z.flowOut) (by omega) (by omega),Ag (by omega) (by omega)]
  omega
 refine⟨?_,e,m1,m2⟩
 rw[e]
 unfold cX Ik Jr
 rw[show min2=mn from rfl,sp,sq]
 rw[Ag (n:=z.flowIn-_) (by omega) (by omega),Ag (n:=z.flowOut-_) (by omega) (by omega),Ag (n:=z.flowIn-_-_) (by omega) (by omega),Ag (by omega) (by omega)]
 omega
theorem pB{s:Ac}(hf:0≤s.fuel∧s.fuel≤1000){f:Int}(h: -100000000≤f∧f≤100000000):Nq s f=Ky s.fuel f∧0≤Nq s f∧Nq s f≤Gn f∧(0≤Gn f∧Gn f≤100000000∧0≤Jj f∧Jj f≤100000000∧Gn f-Jj f=f):=by
 have g:Jj f=jV 0 (0-f):=by unfold Jj;rw[Ag (by omega) (by omega)]
 have c0:0≤Gn f∧Gn f≤100000000∧0≤Jj f∧Jj f≤100000000∧Gn f-Jj f=f:=by
  rw[g];unfold Gn jV;split<;>split<;>omega
 have m:=bB c0.1 c0.2.1 hf.1 hf.2
 have e:Nq s f=Gn f*s.fuel / 1000:=by
  unfold Nq
  rw[Ag (n:=Gn f*s.fuel) (by omega) (by omega),Int.tdiv_eq_ediv_of_nonneg m.1,Ag (by omega) (by omega)]
 refine⟨rfl,by rw[e];omega,?_,c0⟩
 rw[e]
 have:Gn f*s.fuel≤Gn f*1000:=Int.mul_le_mul_of_nonneg_left hf.2 c0.1
 omega
theorem zU{s:Ac}(hf:0≤s.fuel∧s.fuel≤1000){f g:Int}(h: -100000000≤f∧f≤100000000)(hg:0≤g∧g≤100000000):IntKind.i64.wrap (g+IntKind.i64.wrap (f-Ky s.fuel f))=acJ s f g∧acJ s f g=g+f-Nq s f:=by
 obtain⟨e,a,b,c⟩:=pB hf h
 rw[←e]
 have r:acJ s f g=g+f-Nq s f:=by
  unfold acJ
  rw[Ag (n:=g+Gn f) (by omega) (by omega),Ag (n:=g+Gn f-_) (by omega) (by omega),Ag (by omega) (by omega)]
  omega
 rw[r,Ag (n:=f-Nq s f) (by omega) (by omega),Ag (by omega) (by omega)]
 exact⟨by omega,rfl⟩
theorem ahE{s:Ac}(hf:0≤s.fuel∧s.fuel≤1000)(hr:Int)(W A:List Int):∀(F:List Int) (i:Nat) (G:List Int) (fu:Int) (L:List Int),(∀x∈F,-100000000≤x∧x≤100000000)→(∀j:Nat,i≤j→j<i+F.length→0≤gI G j∧gI G j≤100000000)→
 (mI s hr W A F i (G,fu,L)).1=(Gt s.fuel F i (G,fu)).1∧(mI s hr W A F i (G,fu,L)).2.1=(Gt s.fuel F i (G,fu)).2
 | [],_,_,_,_,_,_=>⟨rfl,rfl⟩
 |f::F,i,G,fu,L,hF,hG=>by
  have e:=(zU hf (hF f (acQ ..)) (hG i (aoB _) (by simp))).1
  simp only[mI,Gt]
  rw[e]
  refine ahE hf hr W A F (i+1) _ _ _ (fun x hx=>hF x (acL _ hx)) (fun j h1 h2=>?_)
  rw[Tc]
  rw[if_neg (by simp only[abQ];omega)]
  exact hG j (by omega) (by simp only[acV];omega)
def aQ(k:Int):Int:=jV k (0-k)
theorem sX{c:Ah}(h:Ig c=true){f w a b:Int}(hf: -100000000≤f∧f≤100000000)(hw: -100000000≤w∧w≤100000000)(ha: -100000000≤a∧a≤100000000)(hb: -4000000000000000000≤b∧b≤4000000000000000000):
 IntKind.i64.wrap (b+Xq c f)=acK c f b∧acK c f b=b+(c.fixed+c.inn*Gn f+c.out*Jj f)∧xA c (IntKind.i64.wrap (w-a))=c.cut*aQ (w-a)∧(∀v,-4000000000000000000≤v→v≤4000000000010000000+4000000000000→apU c w a v=v-c.cut*aQ (w-a))∧(0≤c.cut*aQ (w-a)∧c.cut*aQ (w-a)≤2000000000000)∧(0≤c.fixed+c.inn*Gn f+c.out*Jj f∧c.fixed+c.inn*Gn f+c.out*Jj f≤2000000010000):=by
 obtain⟨_,h1,h2,h3,h4⟩:=yP h
 have g:Jj f=jV 0 (0-f):=by unfold Jj;rw[Ag (by omega) (by omega)]
 have c0:0≤Gn f∧Gn f≤100000000∧0≤Jj f∧Jj f≤100000000:=by
  rw[g];unfold Gn jV;split<;>split<;>omega
 have m1:=bB h2.1 h2.2 c0.1 c0.2.1
 have m2:=bB h3.1 h3.2 c0.2.2.1 c0.2.2.2
 have k0:0≤aQ (w-a)∧aQ (w-a)≤200000000:=by unfold aQ jV;split<;>omega
 have m3:=bB h1.1 h1.2 k0.1 k0.2
 have e1:acK c f b=b+(c.fixed+c.inn*Gn f+c.out*Jj f):=by
  unfold acK
  rw[Ag (n:=c.inn*Gn f) (by omega) (by omega),Ag (n:=c.out*Jj f) (by omega) (by omega),Ag (n:=b+c.fixed) (by omega) (by omega),Ag (n:=b+c.fixed+_) (by omega) (by omega),Ag (by omega) (by omega)]
  omega
 have e2:Xq c f=c.fixed+c.inn*Gn f+c.out*Jj f:=by
  unfold Xq
  rw[show jV 0 f=Gn f from rfl,show jV 0 (IntKind.i64.wrap (0-f))=Jj f from rfl]
  rw[Ag (n:=c.inn*Gn f) (by omega) (by omega),Ag (n:=c.out*Jj f) (by omega) (by omega),Ag (n:=c.fixed+_) (by omega) (by omega),Ag (by omega) (by omega)]
 have wa:IntKind.i64.wrap (w-a)=w-a:=Ag (by omega) (by omega)
 have aw:IntKind.i64.wrap (a-w)=a-w:=Ag (by omega) (by omega)
 refine⟨by rw[e2,e1,Ag (by omega) (by omega)],e1,?_,?_,by omega,by omega⟩
 ·unfold xA
  rw[wa,Ag (n:=0-(w-a)) (by omega) (by omega),show jV (w-a) (0-(w-a))=aQ (w-a)from rfl,Ag (by omega) (by omega)]
 ·intro v v1 v2
  unfold apU
  rw[wa,aw,show jV (w-a) (a-w)=aQ (w-a) by unfold aQ;rw[show 0-(w-a)=a-w by omega],Ag (n:=c.cut*aQ (w-a)) (by omega) (by omega),Ag (by omega) (by omega)]
theorem atV(l:List Int)(i:Int)(v w:Int):sI (sI l i v) i w=sI l i w:=by unfold sI;rw[List.set_set]
def kB(c:Ah)(hr f w a b:Int):Int:=b+(if Gp hr c.lo c.hi=true then c.fixed+c.inn*Gn f+c.out*Jj f else 0)-(if c.firm=true then c.cut*aQ (w-a)else 0)
theorem sP{c:Ah}(h:Ig c=true){hr:Int}{F W A L:List Int}{i:Nat}(hi:i<L.length)(hf: -100000000≤gI F i∧gI F i≤100000000)(hw: -100000000≤gI W i∧gI W i≤100000000)(ha: -100000000≤gI A i∧gI A i≤100000000)(hb: -3000000000000000000≤gI L i∧gI L i≤3000000000000000000)
 (h0:Gp hr c.lo c.hi=false→gI W i=0∧gI A i=0):Bt hr F W A i c L=sI L i (kB c hr (gI F i) (gI W i) (gI A i) (gI L i))∧rB c hr (gI F i) (gI W i) (gI A i) (gI L i)=kB c hr (gI F i) (gI W i) (gI A i) (gI L i):=by
 obtain⟨e1,e2,e3,e4,m1,m2⟩:=sX h hf hw ha (b:=gI L i) ⟨by omega,by omega⟩
 unfold Bt rB kB
 have gi:∀v,gI (sI L i v) i=v:=fun v=>by rw[Tc,if_pos ⟨rfl,by simpa using hi⟩]
 cases hact:Gp hr c.lo c.hi with
 |true=>
  cases hfirm:c.firm with
  |true=>
   simp only[if_true]
   rw[gi,e1,e2,atV,e3,e4 _ (by omega) (by omega),Ag (by omega) (by omega)]
   exact⟨rfl,rfl⟩
  |false=>
   simp only[if_true,adM,if_false]
   rw[e1,e2,ajZ]
   exact⟨rfl,rfl⟩
 |false=>
  obtain⟨z1,z2⟩:=h0 hact
  have z3:c.cut*aQ (gI W i-gI A i)=0:=by rw[z1,z2];simp[aQ,jV]
  have s0:sI L i (gI L i)=L:=oW ⟨by omega,by omega⟩
  cases hfirm:c.firm with
  |true=>
   simp only[if_true,adM,if_false]
   rw[z3,e4 _ (by omega) (by omega),z3,aeY,ajZ,s0]
   exact⟨rfl,rfl⟩
  |false=>
   simp only[adM,if_false]
   rw[aeY,ajZ,s0]
   exact⟨rfl,rfl⟩
theorem oO{α:Type}{l rest:List α}{x:α}{i:Nat}(h:l.drop i=x::rest):l[i]?=some x∧l.drop (i+1)=rest:=by
 have h1:=congrArg (·[0]?) h
 have h2:=congrArg List.tail h
 simp only[List.getElem?_drop,aj0,List.getElem?_cons_zero,List.tail_drop,List.tail_cons]at h1 h2
 exact⟨h1,h2⟩
theorem rO{s:Ac}(hcs:∀c∈s.cons,Ig c=true){hr:Int}{F W A:List Int}(hF:F.length=s.cons.length)(hf:∀i:Nat,-100000000≤gI F i∧gI F i≤100000000)(hw:∀i:Nat,-100000000≤gI W i∧gI W i≤100000000)(ha:∀i:Nat,-100000000≤gI A i∧gI A i≤100000000)
 (h0:∀(i:Nat) c,s.cons[i]?=some c→Gp hr c.lo c.hi=false→gI W i=0∧gI A i=0):∀(rest:List Int) (l:List Ah) (i:Nat) (G:List Int) (fu:Int) (L:List Int),F.drop i=rest→s.cons.drop i=l→L.length=s.cons.length→(∀j:Nat,i≤j→ -3000000000000000000≤gI L j∧gI L j≤3000000000000000000)→
 (mI s hr W A rest i (G,fu,L)).2.2=It (Bt hr F W A) l i L
 | [],l,i,G,fu,L,h1,h2,_,_=>by
   have:l=[]:=by
    have:=congrArg List.length h1
    have:=congrArg List.length h2
    simp at *
    exact List.length_eq_zero_iff.1 (by omega)
   subst this
   rfl
 |f::rest,l,i,G,fu,L,h1,h2,hL,hb=>by
  obtain⟨a1,a2⟩:=oO h1
  have hi:i<s.cons.length:=by have:=(adL.1 a1).1;omega
  cases l with
  |nil=>simp at h2;omega
  |cons c l=>
   obtain⟨b1,b2⟩:=oO h2
   have ef:gI F i=f:=by unfold gI;rw[abQ,a1];rfl
   have ec:vM s.cons i=c:=by unfold vM;rw[b1];rfl
   obtain⟨q1,q2⟩:=sP (hcs c (aa9 b1)) (hr:=hr) (F:=F) (W:=W) (A:=A) (L:=L) (i:=i) (by omega) (hf i) (hw i) (ha i) (hb i (aoB _)) (h0 i c b1)
   simp only[mI,It]
   rw[ec,←ef,q2,q1]
   refine rO hcs hF hf hw ha h0 rest l (i+1) _ _ _ a2 b2 (by rw[Bj];exact hL) (fun j hj=>?_)
   rw[Tc,if_neg (by simp only[abQ];omega)]
   exact hb j (by omega)
structure StI(s:Ac)(own:Int)(G L:List Int)(O:List Ab)(B:Int):Prop where
 g:pV s.cons G
 l:L.length=s.cons.length
 lok:LOK B L
 own: -B≤own∧own≤B
 owed:∀t∈O,xN s.cons.length t
 olen:O.length≤50
structure ajA(s:Ac)(d:An)(hr own fuel:Int)(z:Au)(G L:List Int)(O:List Ab)(B:Int):Prop where
 rg:RG s hr G L O=(G1 s hr G L O,L1 s hr G L O,O1 s hr G L O)
 g1:pV s.cons (G1 s hr G L O)
 l1:(L1 s hr G L O).length=s.cons.length∧LOK (B+50000000000000) (L1 s hr G L O)
 rt:RT s d hr G L O=T2 s d hr G L O
 g2:pV s.cons (T2 s d hr G L O).1
 rw:RW s d hr G L O=W3 s d hr G L O
 w3:∀(i:Nat) c,s.cons[i]?=some c→ -(gI (T2 s d hr G L O).1 i)≤gI (W3 s d hr G L O) i∧gI (W3 s d hr G L O) i≤c.space-gI (T2 s d hr G L O).1 i
 w0:∀(i:Nat) c,s.cons[i]?=some c→Gp hr c.lo c.hi=false→gI (W3 s d hr G L O) i=0
 ra:RA s d hr z G L O=A4 s d hr z G L O
 a4:∀i:Nat,uE (gI (W3 s d hr G L O) i) (gI (A4 s d hr z G L O) i)
 f5:∀i:Nat,uE (gI (A4 s d hr z G L O) i) (gI (F5 s d hr z G L O) i)
 own:agJ z (A4 s d hr z G L O) own=Xp s d hr z G L O own
 fin:mI s hr (W3 s d hr G L O) (A4 s d hr z G L O) (F5 s d hr z G L O) 0 ((T2 s d hr G L O).1,fuel,L1 s hr G L O)=((G6 s d hr z G L O fuel).1,(G6 s d hr z G L O fuel).2,L7 s d hr z G L O)
theorem kD{l:List Int}{P:Int→Prop}(h0:P 0)(h:∀i:Nat,P (gI l i)):∀w∈l,P w:=fun w hw=>by
 obtain⟨i,hi,rfl⟩:=List.getElem_of_mem hw
 have:=h i
 unfold gI at this
 rw[abQ,acI hi]at this
 exact this
theorem xI{l:List Int}{i:Nat}(h:l.length≤i):gI l i=0:=by unfold gI;rw[abQ,ae4 h];rfl
theorem Xx{s:Ac}{d:An}{hr:Int}{G:List Int}:∀(l:List Ah) (i j:Nat) c,l[j]?=some c→(Qj s d hr G l i)[j]?=some (Wh s d hr G (i+j) c)
 | [],_,j,c,h=>by simp at h
 |x::l,i,0,c,h=>by simp at h;subst h;rfl
 |x::l,i,j+1,c,h=>by
  have:=Xx (s:=s) (d:=d) (hr:=hr) (G:=G) l (i+1) j c (by simpa using h)
  simp only[Qj,aj1]
  rw[this,show i+1+j=i+(j+1) by omega]
theorem ag3{s:Ac}(h1:Fj s=true){d:An}(h3:Kz s.cons.length d=true){hr own fuel:Int}{z:Au}{G L:List Int}{O:List Ab}{B:Int}(hB:0≤B∧B≤2000000000000000000)(I:StI s own G L O B)(hz:d.hours[hr.toNat]?=some z):ajA s d hr own fuel z G L O B:=by
 have S:=Ss h1
 have hcs:∀c∈s.cons,Ig c=true:=adG.1 (Rj h1)
 have hl:=S.len
 simp only[Kz,acR,decide_eq_true_eq]at h3
 obtain⟨⟨⟨⟨⟨d1,d2⟩,d3⟩,d4⟩,d5⟩,d6⟩:=h3
 have hT:∀t∈d.trades,xN s.cons.length t:=fun t ht=>tok (by omega) (adG.1 d6 t ht)
 have hzb:=adG.1 d4 z (aa9 hz)
 simp only[Vw,Gp,acR,decide_eq_true_eq]at hzb
 obtain⟨⟨⟨z1,z2⟩,z3⟩,z4⟩:=hzb
 have ol:=I.olen
 obtain⟨q1,q2,q3,q4⟩:=jR hcs hr I.owed [] I.g (B:=B) hB.1 (by omega) I.l I.lok
 have rg:RG s hr G L O=(G1 s hr G L O,L1 s hr G L O,O1 s hr G L O):=q1
 have rt:RT s d hr G L O=T2 s d hr G L O:=by
  unfold RT T2;rw[rg]
 have g2:pV s.cons (T2 s d hr G L O).1:=Zs hcs hr hT 0 _ _ q2
 have hW:=kN (s:=s) (hr:=hr) d5 s.cons 0 [] rfl hcs (fun j c hj=>by rw[adO];exact g2.inn j c hj)
 rw[aoC,aoC]at hW
 have rw_:RW s d hr G L O=W3 s d hr G L O:=by
  unfold RW W3;rw[rt];exact hW.symm
 have wl:(W3 s d hr G L O).length=s.cons.length:=by rw[←rw_];unfold RW;rw[Rm]
 have wget:∀(i:Nat) c,s.cons[i]?=some c→gI (W3 s d hr G L O) i=Wh s d hr (T2 s d hr G L O).1 i c:=fun i c hc=>by
  have:=Xx (s:=s) (d:=d) (hr:=hr) (G:=(T2 s d hr G L O).1) s.cons 0 i c hc
  rw[←rw_];unfold RW gI
  rw[rt,abQ,this,adO];rfl
 have w3:∀(i:Nat) c,s.cons[i]?=some c→ -(gI (T2 s d hr G L O).1 i)≤gI (W3 s d hr G L O) i∧gI (W3 s d hr G L O) i≤c.space-gI (T2 s d hr G L O).1 i:=fun i c hc=>by
  have gi:=g2.inn i c hc
  rw[wget i c hc]
  unfold Wh
  split
  ·exact(xZ (hcs c (aa9 hc)) (mW d5 _) gi.1 gi.2).2
  ·omega
 have w0:∀(i:Nat) c,s.cons[i]?=some c→Gp hr c.lo c.hi=false→gI (W3 s d hr G L O) i=0:=fun i c hc ha=>by
  rw[wget i c hc];unfold Wh;rw[ha];simp
 have wb:∀i:Nat,-100000000≤gI (W3 s d hr G L O) i∧gI (W3 s d hr G L O) i≤100000000:=fun i=>by
  by_cases hi:i<s.cons.length
  ·have hc:s.cons[i]?=some s.cons[i]:=acI hi
   have a:=w3 i _ hc
   have b:=g2.inn i _ hc
   have c:=(Vf (hcs _ (aa9 hc))).space
   omega
  ·rw[xI (by omega)];omega
 have wm:∀w∈W3 s d hr G L O,-100000000≤w∧w≤100000000:=kD (P:=fun w=> -100000000≤w∧w≤100000000) (by omega) wb
 have ra:RA s d hr z G L O=A4 s d hr z G L O:=by
  unfold RA A4
  rw[rw_]
  refine(qZ ?_ _ _).symm
  simp only[wF,adG,Gp,acR,decide_eq_true_eq]
  exact wm
 have a4:∀i:Nat,uE (gI (W3 s d hr G L O) i) (gI (A4 s d hr z G L O) i):=fun i=>by
  rw[←ra];unfold RA;rw[rw_]
  exact afQ wm wl (by omega) z1 z2 i
 have al:(A4 s d hr z G L O).length=s.cons.length:=by
  rw[←ra];unfold RA;rw[rw_];simp[Gk,aB,wl]
 have ab:∀i:Nat,-100000000≤gI (A4 s d hr z G L O) i∧gI (A4 s d hr z G L O) i≤100000000:=fun i=>by
  have a:=a4 i
  have b:=wb i
  unfold uE at a
  by_cases hp:0≤gI (W3 s d hr G L O) i
  ·have:=a.1 hp;omega
  ·have:=a.2 (by omega);omega
 have am:=kD (P:=fun w=> -100000000≤w∧w≤100000000) (by omega) ab
 have f5:∀i:Nat,uE (gI (A4 s d hr z G L O) i) (gI (F5 s d hr z G L O) i):=fun i=>alY am (by omega) z3.1 z4.1 i
 have fb:∀i:Nat,-100000000≤gI (F5 s d hr z G L O) i∧gI (F5 s d hr z G L O) i≤100000000:=fun i=>by
  have a:=f5 i
  have b:=ab i
  unfold uE at a
  by_cases hp:0≤gI (A4 s d hr z G L O) i
  ·have:=a.1 hp;omega
  ·have:=a.2 (by omega);omega
 have fm:=kD (P:=fun w=> -100000000≤w∧w≤100000000) (by omega) fb
 have fl:(F5 s d hr z G L O).length=s.cons.length:=by
  show(RF z (A4 s d hr z G L O)).length=_
  simp[RF,Br,Dz,al]
 have a0:∀(i:Nat) c,s.cons[i]?=some c→Gp hr c.lo c.hi=false→gI (W3 s d hr G L O) i=0∧gI (A4 s d hr z G L O) i=0:=fun i c hc ha=>by
  have w:=w0 i c hc ha
  have a:=a4 i
  rw[w]at a
  have:=a.1 (by omega)
  exact⟨w,by omega⟩
 have own:=(adV am (by omega) z3 z4 (own:=own) (by have:=I.own;omega)).1
 have l1:LOK (B+50000000000000) (L1 s hr G L O):=fun i=>by
  have:=q4 i
  have e:(L1 s hr G L O)=(Cd s.cons hr O (G,L,[])).2.1:=rfl
  rw[←e]at this
  omega
 have fin1:=ahE (s:=s) S.fuel hr (W3 s d hr G L O) (A4 s d hr z G L O) (F5 s d hr z G L O) 0 (T2 s d hr G L O).1 fuel (L1 s hr G L O) fm (fun j _ hj=>by
  rw[adO,fl]at hj
  have hc:s.cons[j]?=some s.cons[j]:=acI hj
  have b:=g2.inn j _ hc
  have c:=(Vf (hcs _ (aa9 hc))).space
  omega)
 have fin2:=rO (s:=s) hcs (hr:=hr) fl fb wb ab a0 (F5 s d hr z G L O) s.cons 0 (T2 s d hr G L O).1 fuel (L1 s hr G L O) rfl rfl q3 (fun j _=>by have:=l1 j;omega)
 refine⟨rg,q2,⟨q3,l1⟩,rt,g2,rw_,w3,w0,ra,a4,f5,own.symm,?_⟩
 exact Prod.ext fin1.1 (Prod.ext fin1.2 fin2)
theorem aaA:∀(l:List Int) (k:Nat) (v:Int),k<l.length→(l.set k v).sum=l.sum-(l[k]?).getD 0+v
 | [],k,_,h=>by simp at h
 |x::l,0,v,_=>by simp;omega
 |x::l,k+1,v,h=>by
  have:=aaA l k v (by simpa using h)
  simp only[List.set_cons_succ,adQ,aj1]
  omega
theorem vT{l:List Int}{i:Int}(hi:xQ l.length i)(v:Int):(sI l i v).sum=l.sum-gI l i+v:=aaA l _ v hi.toNat
theorem jP{l:List Int}{a b:Int}(ha:xQ l.length a)(hb:xQ l.length b)(hab:a≠b)(n m:Int)(hn:n=m):(sI (sI l a (gI l a-n)) b (gI l b+m)).sum=l.sum:=by
 rw[vT (by rw[Bj];exact hb),vT ha,rL ha.1 hb.1 hab]
 omega
theorem qG{l:List Int}{a b i:Int}(ha:0≤a)(hb:0≤b)(hi:0≤i)(h1:a≠i)(h2:b≠i)(v w:Int):gI (sI (sI l a v) b w) i=gI l i:=by
 rw[rL hb hi h2,rL ha hi h1]
theorem dX{cs:List Ah}(hcs:∀c∈cs,Ig c=true)(hr:Int):∀{O:List Ab},(∀t∈O,xN cs.length t)→∀{G L:List Int} (p:List Ab) {B:Int},pV cs G→0≤B→B+1000000000000*O.length≤4000000000000000000→L.length=cs.length→LOK B L→
 (Cd cs hr O (G,L,p)).1.sum=G.sum∧(Cd cs hr O (G,L,p)).2.1.sum=L.sum∧∀i:Int,0≤i→(∀t∈O,t.back=hr→t.frm≠i∧t.to≠i)→gI (Cd cs hr O (G,L,p)).1 i=gI G i∧gI (Cd cs hr O (G,L,p)).2.1 i=gI L i
 | [],_,G,L,p,B,hG,h0,hB,hLl,hL=>⟨rfl,rfl,fun _ _ _=>⟨rfl,rfl⟩⟩
 |t::O,hO,G,L,p,B,hG,h0,hB,hLl,hL=>by
  have T:=hO t (acQ ..)
  have hO':∀t∈O,xN cs.length t:=fun t ht=>hO t (acL _ ht)
  simp only[acV]at hB
  by_cases hb:t.back=hr
  ·obtain⟨r1,_,r3,_,g,l,_⟩:=yN hcs T hG (B:=B) ⟨h0,by omega⟩ hLl hL
   simp only[Cd,hb,if_true]
   obtain⟨a,b,c⟩:=dX hcs hr hO' p g (by omega) (by omega) (by rw[Ns];exact hLl) l
   have i1:=T.ok.1
   have i2:=T.ok.2
   refine⟨?_,?_,fun i hi h=>?_⟩
   ·rw[a,r1]
    exact jP (by rw[hG.len];exact i2) (by rw[hG.len];exact i1) (Ne.symm T.ne) _ _ rfl
   ·rw[b,r3]
    have e:gI L t.frm-mH cs t G=gI L t.frm+ -(mH cs t G):=by omega
    have e2:gI L t.to+mH cs t G=gI L t.to - -(mH cs t G):=by omega
    rw[e,e2]
    exact jP (by rw[hLl];exact i2) (by rw[hLl];exact i1) (Ne.symm T.ne) _ _ rfl
   ·have k:=h t (acQ ..) hb
    have c':=c i hi (fun t ht=>h t (acL _ ht))
    rw[c'.1,c'.2,r1,r3,qG i2.1 i1.1 hi k.2 k.1,qG i2.1 i1.1 hi k.2 k.1]
    exact⟨rfl,rfl⟩
  ·simp only[Cd,hb,if_false]
   obtain⟨a,b,c⟩:=dX hcs hr hO' (p++[t]) hG h0 (by omega) hLl hL
   exact⟨a,b,fun i hi h=>c i hi (fun t ht=>h t (acL _ ht))⟩
theorem Ws{cs:List Ah}(hcs:∀c∈cs,Ig c=true)(hr:Int):∀{T:List Ab},(∀t∈T,xN cs.length t)→∀{G:List Int} (i:Nat) (O:List Ab) (R:List Int),pV cs G→
 (Bd cs hr T i (G,O,R)).1.sum=G.sum∧∀j:Int,0≤j→(∀t∈T,t.hour=hr→t.frm≠j∧t.to≠j)→gI (Bd cs hr T i (G,O,R)).1 j=gI G j
 | [],_,G,i,O,R,hG=>⟨rfl,fun _ _ _=>rfl⟩
 |t::T,hT,G,i,O,R,hG=>by
  have hT':∀t∈T,xN cs.length t:=fun t ht=>hT t (acL _ ht)
  have K:=hT t (acQ ..)
  simp only[Bd]
  split
  ·rename_i hh
   have hh':t.hour=hr:=by simpa using hh
   split
   ·obtain⟨a,b⟩:=Ws hcs hr hT' (i+1) O (R++[(i:Int)]) hG
    exact⟨a,fun j hj h=>b j hj (fun t ht=>h t (acL _ ht))⟩
   ·rename_i hno
    obtain⟨ct,hct,gt0,gt1⟩:=hG.at K.ok.2
    obtain⟨cf,hcf,gf0,gf1⟩:=hG.at K.ok.1
    have sp1:=(Vf (hcs ct (aa9 hct))).space
    have sp2:=(Vf (hcs cf (aa9 hcf))).space
    have hA:=K.amt
    have e:Ie cs t.to=ct.space:=by simp[Ie,hct]
    simp only[Lh,alO,decide_eq_true_eq,not_or,e]at hno
    obtain⟨⟨n1,n2⟩,_⟩:=hno
    rw[Ag (by omega) (by omega)]at n2
    have eG:Kv t G=sI (sI G t.frm (gI G t.frm-t.amount)) t.to (gI G t.to+t.amount):=by
     rw[gA K.ok K.ne,Ag (by omega) (by omega),Ag (by omega) (by omega)]
    have hG':pV cs (Kv t G):=by
     rw[eG]
     exact hG.move K.ok.1 K.ok.2 K.ne (by omega) (by omega) (fun c hc=>by rw[hct]at hc;cases hc;omega)
    obtain⟨a,b⟩:=Ws hcs hr hT' (i+1) (if(t.back== -1)=true then O else O++[t]) R hG'
    refine⟨?_,fun j hj h=>?_⟩
    ·rw[a,eG]
     exact jP (by rw[hG.len];exact K.ok.1) (by rw[hG.len];exact K.ok.2) K.ne _ _ rfl
    ·have k:=h t (acQ ..) hh'
     rw[b j hj (fun t ht=>h t (acL _ ht)),eG,qG K.ok.1.1 K.ok.2.1 hj k.1 k.2]
  ·obtain⟨a,b⟩:=Ws hcs hr hT' (i+1) O R hG
   exact⟨a,fun j hj h=>b j hj (fun t ht=>h t (acL _ ht))⟩
theorem mU{l:List Int}(ha:Or l)(h8:l.length≤8){m:Int}(h0:0≤m)(h1:m≤l.sum):(Br m l).sum=m:=by
 unfold Br
 rw[Rq ha (by omega)]
 have hs:=ha.sum
 by_cases hp:0<l.sum
 ·rw[cQ h0 (by omega) hp ha h8]
  exact aO hp
 ·rw[Yc hp]
  simp
  omega
theorem yA:∀(P N:List Int),P.length=N.length→(∀x∈P,0≤x∧x≤1000000000)→(∀x∈N,0≤x∧x≤1000000000)→(adK Xr P N).sum=P.sum-N.sum
 | [],[],_,_,_=>rfl
 | [],_::_,h,_,_=>by simp at h
 |_::_,[],h,_,_=>by simp at h
 |x::P,y::N,h,h1,h2=>by
  have a:=h1 x (acQ ..)
  have b:=h2 y (acQ ..)
  have:=yA P N (by simpa using h) (fun x hx=>h1 x (acL _ hx)) (fun x hx=>h2 x (acL _ hx))
  simp only[adP,adQ,this]
  unfold Xr
  rw[Ag (by omega) (by omega)]
  omega
theorem yZ{l:List Int}(ha:Or l)(h8:l.length≤8){m:Int}(h0:0≤m)(h1:m≤l.sum):∀x∈Br m l,0≤x∧x≤1000000000:=fun x hx=>by
 obtain⟨i,hi⟩:=List.getElem?_of_mem hx
 have hl:i<l.length:=by
  have:=(adL.1 hi).1
  unfold Br at this
  rwa[Dz]at this
 have hw:l[i]?=some l[i]:=acI hl
 have:=lI ha h8 h0 h1 hi hw
 have:=ha l[i] (aoL hl)
 omega
theorem ajJ{A:List Int}(hl:∀w∈A,-100000000≤w∧w≤100000000)(h8:A.length≤8){z:Au}(h1:0≤z.flowIn)(h2:0≤z.flowOut):
 (RF z A).sum=mn z.flowIn (A.map Db).sum-mn z.flowOut (A.map Do).sum:=by
 have p:=iK hl
 have q:=iI hl
 have bp:=p.sum
 have bq:=q.sum
 have m1:0≤mn z.flowIn (A.map Db).sum∧mn z.flowIn (A.map Db).sum≤(A.map Db).sum:=by unfold mn;split<;>omega
 have m2:0≤mn z.flowOut (A.map Do).sum∧mn z.flowOut (A.map Do).sum≤(A.map Do).sum:=by unfold mn;split<;>omega
 unfold RF
 rw[Rq p (by simp;omega),Rq q (by simp;omega)]
 rw[yA _ _ (by unfold Br;simp[Dz]) (yZ p (by simpa using h8) m1.1 m1.2) (yZ q (by simpa using h8) m2.1 m2.2)]
 rw[mU p (by simpa using h8) m1.1 m1.2,mU q (by simpa using h8) m2.1 m2.2]
theorem zV{s:Ac}(hf:0≤s.fuel∧s.fuel≤1000):∀(F:List Int) (i:Nat) (G:List Int) (fu:Int),(∀x∈F,-100000000≤x∧x≤100000000)→(∀j:Nat,i≤j→j<i+F.length→0≤gI G j∧gI G j≤100000000)→i+F.length≤G.length→0≤fu→fu+100000000*F.length≤4000000000000000000→
 (Gt s.fuel F i (G,fu)).1.sum+(Gt s.fuel F i (G,fu)).2=G.sum+fu+F.sum∧(fu≤(Gt s.fuel F i (G,fu)).2∧(Gt s.fuel F i (G,fu)).2≤fu+100000000*F.length)∧
 (∀j:Nat,j<i→gI (Gt s.fuel F i (G,fu)).1 j=gI G j)∧(∀j:Nat,j<F.length→gI (Gt s.fuel F i (G,fu)).1 ((i+j:Nat):Int)=gI G ((i+j:Nat):Int)+gI F j-Nq s (gI F j))
 | [],i,G,fu,_,_,_,h0,_=>⟨by simp[Gt],by simp[Gt],fun _ _=>rfl,fun j hj=>by simp at hj⟩
 |f::F,i,G,fu,hF,hG,hi,h0,hB=>by
  have hf1:=hF f (acQ ..)
  have hg1:=hG i (aoB _) (by simp)
  obtain⟨e1,e2⟩:=zU hf hf1 hg1
  obtain⟨k1,k2,k3,k4⟩:=pB hf hf1
  simp only[acV]at hB hi
  have hii:xQ G.length (i:Int):=⟨by omega,by omega⟩
  obtain⟨a,b,c,d⟩:=zV hf F (i+1) (sI G i (gI G i+f-Nq s f)) (fu+Nq s f) (fun x hx=>hF x (acL _ hx)) (fun j h1 h2=>by
   rw[Tc,if_neg (by simp only[abQ];omega)]
   exact hG j (by omega) (by simp only[acV];omega)) (by rw[Bj];omega) (by omega) (by omega)
  simp only[Gt]
  rw[e1,e2,←k1,Ag (n:=fu+Nq s f) (by omega) (by omega)]
  refine⟨?_,⟨by omega,by simp only[acV];omega⟩,fun j hj=>?_,fun j hj=>?_⟩
  ·rw[a,vT hii,adQ]
   omega
  ·rw[c j (by omega),Tc,if_neg (by simp only[abQ];omega)]
  ·cases j with
   |zero=>
    simp only[aj0]
    rw[c i (by omega),Tc,if_pos ⟨rfl,by rw[abQ];omega⟩]
    rfl
   |succ j=>
    have hj':j<F.length:=by simpa using hj
    have:=d j hj'
    rw[show i+1+j=i+(j+1) by omega]at this
    rw[this,Tc,if_neg (by simp only[abQ];omega)]
    have eg:gI (f::F) ((j+1:Nat):Int)=gI F (j:Int):=by
     unfold gI;rw[abQ,abQ,aj1]
    rw[eg]
theorem mX{s:Ac}{hr:Int}{W A:List Int}:∀(F:List Int) (i:Nat) (G:List Int) (fu:Int) (L:List Int),i+F.length≤L.length→
 (∀j:Nat,j<i→gI (mI s hr W A F i (G,fu,L)).2.2 j=gI L j)∧(∀j:Nat,j<F.length→gI (mI s hr W A F i (G,fu,L)).2.2 ((i+j:Nat):Int)=rB (vM s.cons (i+j)) hr (gI F j) (gI W ((i+j:Nat):Int)) (gI A ((i+j:Nat):Int)) (gI L ((i+j:Nat):Int)))
 | [],i,G,fu,L,_=>⟨fun _ _=>rfl,fun j hj=>by simp at hj⟩
 |f::F,i,G,fu,L,hi=>by
  simp only[acV]at hi
  simp only[mI]
  obtain⟨a,b⟩:=mX (s:=s) (hr:=hr) (W:=W) (A:=A) F (i+1) (sI G i (acJ s f (gI G i))) (IntKind.i64.wrap (fu+Nq s f)) (sI L i (rB (vM s.cons i) hr f (gI W i) (gI A i) (gI L i))) (by rw[Bj];omega)
  refine⟨fun j hj=>?_,fun j hj=>?_⟩
  ·rw[a j (by omega),Tc,if_neg (by simp only[abQ];omega)]
  ·cases j with
   |zero=>
    simp only[aj0]
    rw[a i (by omega),Tc,if_pos ⟨rfl,by rw[abQ];omega⟩]
    rfl
   |succ j=>
    have hj':j<F.length:=by simpa using hj
    have:=b j hj'
    rw[show i+1+j=i+(j+1) by omega]at this
    rw[this,Tc,if_neg (by simp only[abQ];omega)]
    have eg:gI (f::F) ((j+1:Nat):Int)=gI F (j:Int):=by
     unfold gI;rw[abQ,abQ,aj1]
    rw[eg]
theorem nI(lead:Int)(l:List Bq)(c h:Int):∀(rest:List Bq) (i:Nat),(∀n∈rest,¬(n.con=c∧n.hour=h))→Ed lead l c h rest (i,-1)= -1
 | [],_,_=>rfl
 |n::rest,i,hn=>by
  have h0:=hn n (acQ ..)
  have e:Ks lead l c h n i (-1)= -1:=by
   unfold Ks
   rw[if_neg]
   simp only[acR,decide_eq_true_eq,beq_iff_eq,not_and,Bool.not_eq_true]at h0 ⊢
   simp_all
  rw[Ed,e]
  exact nI lead l c h rest (i+1) (fun n hn'=>hn n (acL _ hn'))
def afX(d:An)(hr:Int)(O:List Ab)(i:Int):Bool:=
 d.noms.any (fun n=>n.con==i&&n.hour==hr)||d.trades.any (fun t=>t.hour==hr&&(t.frm==i||t.to==i))||O.any (fun t=>t.back==hr&&(t.frm==i||t.to==i))
structure zD(s:Ac)(d:An)(hr own fuel:Int)(z:Au)(G L:List Int)(O:List Ab):Prop where
 len:(G6 s d hr z G L O fuel).1.length=s.cons.length∧(L7 s d hr z G L O).length=s.cons.length∧(F5 s d hr z G L O).length=s.cons.length∧(W3 s d hr G L O).length=s.cons.length∧(A4 s d hr z G L O).length=s.cons.length
 gas:pV s.cons (G6 s d hr z G L O fuel).1
 fu:fuel≤(G6 s d hr z G L O fuel).2∧(G6 s d hr z G L O fuel).2≤fuel+800000000
 ow:own-800000000≤Xp s d hr z G L O own∧Xp s d hr z G L O own≤own+800000000
 sum:Xp s d hr z G L O own+(G6 s d hr z G L O fuel).2+(G6 s d hr z G L O fuel).1.sum=own+fuel+z.flowIn-z.flowOut+G.sum
 lsum:(L1 s hr G L O).sum=L.sum
 flow:∀i:Nat,-100000000≤gI (F5 s d hr z G L O) i∧gI (F5 s d hr z G L O) i≤100000000
 cut:∀i:Nat,-100000000≤gI (W3 s d hr G L O) i∧gI (W3 s d hr G L O) i≤100000000∧ -100000000≤gI (A4 s d hr z G L O) i∧gI (A4 s d hr z G L O) i≤100000000
 bill:∀(i:Nat) c,s.cons[i]?=some c→gI (L7 s d hr z G L O) i=kB c hr (gI (F5 s d hr z G L O) i) (gI (W3 s d hr G L O) i) (gI (A4 s d hr z G L O) i) (gI (L1 s hr G L O) i)
 rest:∀(i:Nat) c,s.cons[i]?=some c→afX d hr O i=false→gI (G6 s d hr z G L O fuel).1 i=gI G i∧gI (F5 s d hr z G L O) i=0∧gI (L7 s d hr z G L O) i=gI L i+if Gp hr c.lo c.hi=true then c.fixed else 0
theorem aoJ{s:Ac}(hf:0≤s.fuel∧s.fuel≤1000){f:Int}(h: -100000000≤f∧f≤100000000):0≤Nq s f∧(f≤0→Nq s f=0)∧(0≤f→Nq s f≤f):=by
 obtain⟨_,k2,k3,_⟩:=pB hf h
 have e:Gn f=if 0<f then f else 0:=by unfold Gn jV;split<;>omega
 rw[e]at k3
 refine⟨k2,fun h=>?_,fun h=>?_⟩
 ·rw[if_neg (by omega)]at k3;omega
 ·split at k3<;>omega
theorem ak3{s:Ac}(h1:Fj s=true){d:An}(h3:Kz s.cons.length d=true){hr own fuel:Int}{z:Au}{G L:List Int}{O:List Ab}{B:Int}(hB:0≤B∧B≤2000000000000000000)(I:StI s own G L O B)(hfu:0≤fuel∧fuel≤1000000000000000000)(hz:d.hours[hr.toNat]?=some z):zD s d hr own fuel z G L O:=by
 have S:=Ss h1
 have hcs:∀c∈s.cons,Ig c=true:=adG.1 (Rj h1)
 have hl:=S.len
 have E:=ag3 (fuel:=fuel) h1 h3 hB I hz
 have h3':=h3
 simp only[Kz,acR,decide_eq_true_eq]at h3'
 obtain⟨⟨⟨⟨⟨d1,d2⟩,d3⟩,d4⟩,d5⟩,d6⟩:=h3'
 have hT:∀t∈d.trades,xN s.cons.length t:=fun t ht=>tok (by omega) (adG.1 d6 t ht)
 have hzb:=adG.1 d4 z (aa9 hz)
 simp only[Vw,Gp,acR,decide_eq_true_eq]at hzb
 obtain⟨⟨⟨z1,z2⟩,z3⟩,z4⟩:=hzb
 have ol:=I.olen
 obtain⟨p1,p2,p3⟩:=dX hcs hr I.owed [] I.g (B:=B) hB.1 (by omega) I.l I.lok
 obtain⟨t1,t2⟩:=Ws hcs hr hT 0 (O1 s hr G L O) [] E.g1
 have p1':(G1 s hr G L O).sum=G.sum:=p1
 have p2':(L1 s hr G L O).sum=L.sum:=p2
 have t1':(T2 s d hr G L O).1.sum=(G1 s hr G L O).sum:=t1
 have tl:=E.g2.len
 have wl:(W3 s d hr G L O).length=s.cons.length:=by rw[←E.rw];unfold RW;rw[Rm]
 have al:(A4 s d hr z G L O).length=s.cons.length:=by
  rw[←E.ra];unfold RA;rw[E.rw];simp[Gk,aB,wl]
 have wb:∀i:Nat,-100000000≤gI (W3 s d hr G L O) i∧gI (W3 s d hr G L O) i≤100000000:=fun i=>by
  by_cases hi:i<s.cons.length
  ·have hc:s.cons[i]?=some s.cons[i]:=acI hi
   have a:=E.w3 i _ hc
   have b:=E.g2.inn i _ hc
   have c:=(Vf (hcs _ (aa9 hc))).space
   omega
  ·rw[xI (by omega)];omega
 have ab:∀i:Nat,-100000000≤gI (A4 s d hr z G L O) i∧gI (A4 s d hr z G L O) i≤100000000:=fun i=>by
  have a:=E.a4 i
  have b:=wb i
  unfold uE at a
  by_cases hp:0≤gI (W3 s d hr G L O) i
  ·have:=a.1 hp;omega
  ·have:=a.2 (by omega);omega
 have am:=kD (P:=fun w=> -100000000≤w∧w≤100000000) (by omega) ab
 have fb:∀i:Nat,-100000000≤gI (F5 s d hr z G L O) i∧gI (F5 s d hr z G L O) i≤100000000:=fun i=>by
  have a:=E.f5 i
  have b:=ab i
  unfold uE at a
  by_cases hp:0≤gI (A4 s d hr z G L O) i
  ·have:=a.1 hp;omega
  ·have:=a.2 (by omega);omega
 have fm:=kD (P:=fun w=> -100000000≤w∧w≤100000000) (by omega) fb
 have fl:(F5 s d hr z G L O).length=s.cons.length:=by
  show(RF z (A4 s d hr z G L O)).length=_
  simp[RF,Br,Dz,al]
 have fsum:(F5 s d hr z G L O).sum=mn z.flowIn ((A4 s d hr z G L O).map Db).sum-mn z.flowOut ((A4 s d hr z G L O).map Do).sum:=ajJ am (by omega) z3.1 z4.1
 obtain⟨o1,o2,o3,o4⟩:=adV am (by omega) z3 z4 (own:=own) (by have:=I.own;omega)
 have oe:Xp s d hr z G L O own=own+(z.flowIn-mn z.flowIn ((A4 s d hr z G L O).map Db).sum)-(z.flowOut-mn z.flowOut ((A4 s d hr z G L O).map Do).sum):=o1.trans o2
 obtain⟨g1,g2,_,g4⟩:=zV (s:=s) S.fuel (F5 s d hr z G L O) 0 (T2 s d hr G L O).1 fuel fm (fun j _ hj=>by
  rw[adO,fl]at hj
  have hc:s.cons[j]?=some s.cons[j]:=acI hj
  have b:=E.g2.inn j _ hc
  have c:=(Vf (hcs _ (aa9 hc))).space
  omega) (by omega) hfu.1 (by omega)
 have gl:(G6 s d hr z G L O fuel).1.length=s.cons.length:=by unfold G6;rw[Yf,tl]
 have ge:∀(i:Nat) c,s.cons[i]?=some c→gI (G6 s d hr z G L O fuel).1 i=gI (T2 s d hr G L O).1 i+gI (F5 s d hr z G L O) i-Nq s (gI (F5 s d hr z G L O) i):=fun i c hc=>by
  have hi:=(adL.1 hc).1
  have:=g4 i (by omega)
  rw[adO]at this
  exact this
 have gr:∀(i:Nat) c,s.cons[i]?=some c→0≤gI (G6 s d hr z G L O fuel).1 i∧gI (G6 s d hr z G L O fuel).1 i≤c.space:=fun i c hc=>by
  rw[ge i c hc]
  have a:=E.w3 i c hc
  have b:=E.g2.inn i c hc
  have x:=E.a4 i
  have y:=E.f5 i
  obtain⟨u1,u2,u3⟩:=aoJ S.fuel (fb i)
  unfold uE at x y
  by_cases hp:0≤gI (W3 s d hr G L O) i
  ·have x1:=x.1 hp
   have y1:=y.1 x1.1
   have:=u3 y1.1
   omega
  ·have x1:=x.2 (by omega)
   have y1:=y.2 x1.2
   have:=u2 y1.2
   omega
 have be:∀(i:Nat) c,s.cons[i]?=some c→gI (L7 s d hr z G L O) i=kB c hr (gI (F5 s d hr z G L O) i) (gI (W3 s d hr G L O) i) (gI (A4 s d hr z G L O) i) (gI (L1 s hr G L O) i):=fun i c hc=>by
  have hi:=(adL.1 hc).1
  have l1:=E.l1
  have:=(mX (s:=s) (hr:=hr) (W:=W3 s d hr G L O) (A:=A4 s d hr z G L O) (F5 s d hr z G L O) 0 (T2 s d hr G L O).1 fuel (L1 s hr G L O) (by omega)).2 i (by omega)
  rw[E.fin,adO]at this
  rw[this,show vM s.cons i=c by unfold vM;rw[hc];rfl]
  have hb:=l1.2 i
  refine(sP (hcs c (aa9 hc)) (by omega) (fb i) (wb i) (ab i) (by omega) (fun ha=>?_)).2
  have w:=E.w0 i c hc ha
  have a:=E.a4 i
  unfold uE at a
  rw[w]at a
  have:=a.1 (by omega)
  exact⟨w,by omega⟩
 refine⟨⟨gl,?_,fl,wl,al⟩,⟨gl,gr⟩,?_,?_,?_,p2',fb,fun i=>⟨(wb i).1,(wb i).2,ab i⟩,be,fun i c hc ht=>?_⟩
 ·unfold L7;rw[Wi,E.l1.1]
 ·have:fuel≤(G6 s d hr z G L O fuel).2∧(G6 s d hr z G L O fuel).2≤fuel+100000000*(F5 s d hr z G L O).length:=g2
  rw[fl]at this
  omega
 ·rw[oe];omega
 ·have q:(G6 s d hr z G L O fuel).1.sum+(G6 s d hr z G L O fuel).2=(T2 s d hr G L O).1.sum+fuel+(F5 s d hr z G L O).sum:=g1
  rw[oe];omega
 ·simp only[afX,Bool.or_eq_false_iff,List.any_eq_false,acR,alO,beq_iff_eq,not_and,not_or]at ht
  obtain⟨⟨n1,n2⟩,n3⟩:=ht
  have q1:=p3 i (by omega) n3
  have q2:=t2 i (by omega) n2
  have q1':gI (G1 s hr G L O) i=gI G i:=q1.1
  have q3':gI (L1 s hr G L O) i=gI L i:=q1.2
  have q2':gI (T2 s d hr G L O).1 i=gI (G1 s hr G L O) i:=q2
  have w:gI (W3 s d hr G L O) i=0:=by
   have:=Xx (s:=s) (d:=d) (hr:=hr) (G:=(RT s d hr G L O).1) s.cons 0 i c hc
   rw[←E.rw];unfold RW gI
   rw[abQ,this,adO]
   unfold Wh
   rw[nI s.lead d.noms i hr d.noms 0 (fun n hn q=>n1 n hn q.1 q.2)]
   rfl
  have a:=E.a4 i
  unfold uE at a
  rw[w]at a
  have a0:=a.1 (by omega)
  have f:=E.f5 i
  unfold uE at f
  have f0:=f.1 (by omega)
  have f0:gI (F5 s d hr z G L O) i=0:=by omega
  refine⟨?_,f0,?_⟩
  ·rw[ge i c hc,f0,(aoJ S.fuel (f:=0) (by omega)).2.1 (by omega)]
   omega
  ·rw[be i c hc,f0,w,show gI (A4 s d hr z G L O) i=0 by omega,q3']
   unfold kB
   simp[Gn,Jj,aQ,jV,Ag]
structure Lx where
 nW:Bool
 wants:List Int
 nA:Bool
 grants:List Int
 nF:Bool
 flows:List Int
 nR:Bool
 refused:List Int
abbrev Lx.cells(x:Lx):List AV:=[Az 1 true x.nW (x.wants.map iv),Az 1 true x.nA (x.grants.map iv),Az 1 true x.nF (x.flows.map iv),Az 1 true x.nR (x.refused.map iv)]
def wX(s:Ac)(d:An)(z:Au)(y:Gh):Gh:=
 ⟨y.hour+1,false,(G6 s d y.hour z y.gas y.bills y.owed y.fuel).1,Xp s d y.hour z y.gas y.bills y.owed y.own,(G6 s d y.hour z y.gas y.bills y.owed y.fuel).2,false,L7 s d y.hour z y.gas y.bills y.owed,false,(T2 s d y.hour y.gas y.bills y.owed).2.1⟩
def flw(s:Ac)(d:An)(z:Au)(y:Gh):Lx:=
 ⟨false,W3 s d y.hour y.gas y.bills y.owed,false,A4 s d y.hour z y.gas y.bills y.owed,false,F5 s d y.hour z y.gas y.bills y.owed,false,(T2 s d y.hour y.gas y.bills y.owed).2.2⟩
def Gh.as(y:Gh)(g l o:Bool):Gh:={ y with nG:=g,nL:=l,nO:=o }
def Lx.as(x:Lx)(w a f r:Bool):Lx:={ x with nW:=w,nA:=a,nF:=f,nR:=r }
theorem qE{st:Nat}(rows:List (List AV)):Az st true true rows=.imm st true rows:=by cases rows<;>rfl
theorem Yk{w:Bool}{l:List Int}:Rnm (iM w l):=fun _=>⟨_,rfl⟩
theorem aiK{w:Bool}{l:List Ab}:Rnm (lv5 w l):=fun _=>⟨_,rfl⟩
theorem Nk{h:Aa}{b n d:Nat}{w:Bool}{l:List Int}(hb:h[b]?=some (iM w l))(hn:n=l.length):rd (d+1) (hf h) (.slr 1 b 0 n)=some (Az 1 true true (l.map iv),[b]):=by
 rw[qE];exact tW (by show(h[b]?).bind Bw=_;rw[hb];rfl) (by simpa using hn)
theorem avC{h:Aa}{b n d:Nat}{w:Bool}{l:List Ab}(hb:h[b]?=some (lv5 w l))(hn:n=l.length):rd (d+1) (hf h) (.slr 5 b 0 n)=some (Az 5 true true (l.map Ab.cells),[b]):=by
 rw[qE];exact tW (by show(h[b]?).bind Bw=_;rw[hb];rfl) (by simpa using hn)
theorem iJ{h:Aa}{d st:Nat}{α:Type}{l:List α}{f:α→List AV}(hl:l=[]):rd (d+1) (hf h) .nils=some (Az st true false (l.map f),[]):=by subst hl;rfl
theorem af7{O:Ez}{f:Nat}{vs:List AV}{n:Nat}{hr own fuel:Int}{G L R W A F:List Int}{T:List Ab}(lG:G.length=n)(lL:L.length=n)(lW:W.length=n)(lA:A.length=n)(lF:F.length=n)
 (h:Vg O f vs [] (zB n hr own fuel G L T R W A F)):∃o r,RdT O f vs [.agg (Gh.cells ⟨hr,true,G,own,fuel,true,L,o,T⟩),.agg (Lx.cells ⟨true,W,true,A,true,F,r,R⟩)] 7:=by
 obtain⟨o,h',e,w1,w2,w3,w4,w5,w6,w7,hq⟩:=h
 rcases hq with⟨hT,hR,rfl,rfl⟩|⟨hR,rfl,rfl⟩|⟨hT,hR,rfl,rfl⟩|⟨hR,rfl,rfl⟩
 ·exact⟨false,false,_,_,_,e,Ae (Jg (Ae (Gw ..) (Ae (Nk rfl lG.symm) (Ae (Gw ..) (Ae (Gw ..) (Ae (Nk rfl lL.symm) (Ae (iJ hT) Ii))))))) (Ae (Jg (Ae (Nk rfl lW.symm) (Ae (Nk rfl lA.symm) (Ae (Nk rfl lF.symm) (Ae (iJ hR) Ii))))) Ii),by simp,fun c hc=>by
   simp only[adJ,adN,or_false]at hc
   rcases hc with rfl|rfl|rfl|rfl|rfl<;>exact Yk⟩
 ·exact⟨true,false,_,_,_,e,Ae (Jg (Ae (Gw ..) (Ae (Nk rfl lG.symm) (Ae (Gw ..) (Ae (Gw ..) (Ae (Nk rfl lL.symm) (Ae (avC rfl rfl) Ii))))))) (Ae (Jg (Ae (Nk rfl lW.symm) (Ae (Nk rfl lA.symm) (Ae (Nk rfl lF.symm) (Ae (iJ hR) Ii))))) Ii),by simp,fun c hc=>by
   simp only[adJ,adN,or_false]at hc
   rcases hc with rfl|rfl|rfl|rfl|rfl|rfl<;>first|exact Yk|exact aiK⟩
 ·exact⟨false,true,_,_,_,e,Ae (Jg (Ae (Gw ..) (Ae (Nk rfl lG.symm) (Ae (Gw ..) (Ae (Gw ..) (Ae (Nk rfl lL.symm) (Ae (iJ hT) Ii))))))) (Ae (Jg (Ae (Nk rfl lW.symm) (Ae (Nk rfl lA.symm) (Ae (Nk rfl lF.symm) (Ae (Nk rfl rfl) Ii))))) Ii),by simp,fun c hc=>by
   simp only[adJ,adN,or_false]at hc
   rcases hc with rfl|rfl|rfl|rfl|rfl|rfl<;>exact Yk⟩
 ·exact⟨true,true,_,_,_,e,Ae (Jg (Ae (Gw ..) (Ae (Nk rfl lG.symm) (Ae (Gw ..) (Ae (Gw ..) (Ae (Nk rfl lL.symm) (Ae (avC rfl rfl) Ii))))))) (Ae (Jg (Ae (Nk rfl lW.symm) (Ae (Nk rfl lA.symm) (Ae (Nk rfl lF.symm) (Ae (Nk rfl rfl) Ii))))) Ii),by simp,fun c hc=>by
   simp only[adJ,adN,or_false]at hc
   rcases hc with rfl|rfl|rfl|rfl|rfl|rfl|rfl<;>first|exact Yk|exact aiK⟩
theorem av5{O:Ez}{f:Nat}{vs:List AV}{hr own fuel:Int}(h:Vg O f vs [] (ZQ hr own fuel)):∃g l w,RdT O f vs [.agg (Gh.cells ⟨hr,g,[],own,fuel,l,[],false,[]⟩),.agg (Lx.cells ⟨w,[],false,[],false,[],false,[]⟩)] 7:=by
 obtain⟨o,h',e,w1,w2,w3,hq⟩:=h
 rcases hq with⟨rfl,rfl⟩|⟨rfl,rfl⟩|⟨rfl,rfl⟩|⟨rfl,rfl⟩
 ·exact⟨false,false,true,_,_,_,e,Ae (Jg (Ae (Gw ..) (Ae (iJ rfl) (Ae (Gw ..) (Ae (Gw ..) (Ae (iJ rfl) (Ae (iJ rfl) Ii))))))) (Ae (Jg (Ae (Nk (w:=w3) (l:=[]) rfl rfl) (Ae (iJ rfl) (Ae (iJ rfl) (Ae (iJ rfl) Ii))))) Ii),by simp,fun c hc=>by
   simp only[adJ,adN,or_false]at hc
   rcases hc with rfl;exact Yk (l:=[])⟩
 ·exact⟨true,false,true,_,_,_,e,Ae (Jg (Ae (Gw ..) (Ae (Nk (w:=w1) (l:=[]) rfl rfl) (Ae (Gw ..) (Ae (Gw ..) (Ae (iJ rfl) (Ae (iJ rfl) Ii))))))) (Ae (Jg (Ae (Nk (w:=w3) (l:=[]) rfl rfl) (Ae (iJ rfl) (Ae (iJ rfl) (Ae (iJ rfl) Ii))))) Ii),by simp,fun c hc=>by
   simp only[adJ,adN,or_false]at hc
   rcases hc with rfl|rfl<;>exact Yk (l:=[])⟩
 ·exact⟨false,true,true,_,_,_,e,Ae (Jg (Ae (Gw ..) (Ae (iJ rfl) (Ae (Gw ..) (Ae (Gw ..) (Ae (Nk (w:=w2) (l:=[]) rfl rfl) (Ae (iJ rfl) Ii))))))) (Ae (Jg (Ae (Nk (w:=w3) (l:=[]) rfl rfl) (Ae (iJ rfl) (Ae (iJ rfl) (Ae (iJ rfl) Ii))))) Ii),by simp,fun c hc=>by
   simp only[adJ,adN,or_false]at hc
   rcases hc with rfl|rfl<;>exact Yk (l:=[])⟩
 ·exact⟨true,true,true,_,_,_,e,Ae (Jg (Ae (Gw ..) (Ae (Nk (w:=w1) (l:=[]) rfl rfl) (Ae (Gw ..) (Ae (Gw ..) (Ae (Nk (w:=w2) (l:=[]) rfl rfl) (Ae (iJ rfl) Ii))))))) (Ae (Jg (Ae (Nk (w:=w3) (l:=[]) rfl rfl) (Ae (iJ rfl) (Ae (iJ rfl) (Ae (iJ rfl) Ii))))) Ii),by simp,fun c hc=>by
   simp only[adJ,adN,or_false]at hc
   rcases hc with rfl|rfl|rfl<;>exact Yk (l:=[])⟩
theorem Pn(cs:List Ah)(hr:Int):∀(T:List Ab) (i:Nat) (G:List Int) (O:List Ab) (R:List Int),O.length≤50→
 (Bd cs hr T i (G,O,R)).2.1.length≤50∧(∀t∈(Bd cs hr T i (G,O,R)).2.1,t∈O∨t∈T)∧(Bd cs hr T i (G,O,R)).2.2.length≤R.length+T.length
 | [],_,_,O,R,h=>⟨h,fun t ht=>.inl ht,by simp[Bd]⟩
 |t::T,i,G,O,R,h=>by
  simp only[Bd]
  split
  ·split
   ·obtain⟨a,b,c⟩:=Pn cs hr T (i+1) G O (R++[(i:Int)]) h
    refine⟨a,fun x hx=>(b x hx).imp id (acL _),?_⟩
    simp only[List.length_append,acV,List.length_nil]at c ⊢;omega
   ·rename_i hno
    have hO:(if(t.back== -1)=true then O else O++[t]).length≤50:=by
     split
     ·exact h
     ·rename_i hb
      simp[Lh,hb]at hno
      simp;omega
    obtain⟨a,b,c⟩:=Pn cs hr T (i+1) (Kv t G) (if(t.back== -1)=true then O else O++[t]) R hO
    refine⟨a,fun x hx=>?_,by simp only[acV];omega⟩
    rcases b x hx with h1|h1
    ·split at h1
     ·exact .inl h1
     ·rcases List.mem_append.1 h1 with h1|h1
      ·exact .inl h1
      ·simp at h1;subst h1;exact .inr (acQ ..)
    ·exact .inr (acL _ h1)
  ·obtain⟨a,b,c⟩:=Pn cs hr T (i+1) G O R h
   exact⟨a,fun x hx=>(b x hx).imp id (acL _),by simp only[acV];omega⟩
structure StJ(s:Ac)(k:Nat)(y:Gh):Prop where
 hour:y.hour=k
 i:StI s y.own y.gas y.bills y.owed (100000000000000*(k+1))
 fuel:0≤y.fuel∧y.fuel≤800000000*k
theorem StJ.of{s:Ac}{k:Nat}{y y':Gh}(I:StJ s k y)(h1:y'.hour=y.hour)(h2:y'.gas=y.gas)(h3:y'.own=y.own)(h4:y'.fuel=y.fuel)(h5:y'.bills=y.bills)(h6:y'.owed=y.owed):StJ s k y':=by
 obtain⟨a,b,c⟩:=I
 exact⟨by rw[h1];exact a,by rw[h2,h3,h5,h6];exact b,by rw[h4];exact c⟩
theorem dN{n:Int}{d:An}(h3:Kz n d=true){k:Nat}{z:Au}(hz:d.hours[k]?=some z):k<48∧(0≤z.inn∧0≤z.out)∧(0≤z.flowIn∧z.flowIn≤800000000)∧(0≤z.flowOut∧z.flowOut≤800000000):=by
 simp only[Kz,Vw,Gp,acR,decide_eq_true_eq,adG]at h3
 have D:=h3.1.1.2 z (aa9 hz)
 have:=(adL.1 hz).1
 exact⟨by omega,⟨D.1.1.1.1,D.1.1.2.1⟩,D.1.2,D.2⟩
theorem cO{s:Ac}(h1:Fj s=true){d:An}(h3:Kz s.cons.length d=true){k:Nat}{y:Gh}(I:StJ s k y){z:Au}(hz:d.hours[k]?=some z):StJ s (k+1) (wX s d z y)∧ajA s d y.hour y.own y.fuel z y.gas y.bills y.owed (100000000000000*(k+1))∧zD s d y.hour y.own y.fuel z y.gas y.bills y.owed:=by
 have S:=Ss h1
 have hcs:∀c∈s.cons,Ig c=true:=adG.1 (Rj h1)
 have hD:=dN h3 hz
 have hz':d.hours[y.hour.toNat]?=some z:=by rw[I.hour];exact hz
 have E:=ag3 (fuel:=y.fuel) h1 h3 (B:=100000000000000*(k+1)) (by omega) I.i hz'
 have W:=ak3 (fuel:=y.fuel) h1 h3 (B:=100000000000000*(k+1)) (by omega) I.i (by have:=I.fuel;omega) hz'
 have hO1:(O1 s y.hour y.gas y.bills y.owed).length≤50∧∀t∈O1 s y.hour y.gas y.bills y.owed,t∈y.owed:=by
  have h:=List.length_filter_le (fun t:Ab=>decide (t.back≠y.hour)) y.owed
  have:=I.i.olen
  unfold O1
  rw[Pg,aoC]
  exact⟨by omega,fun t ht=>(List.mem_filter.1 ht).1⟩
 obtain⟨t1,t2,_⟩:=Pn s.cons y.hour d.trades 0 (G1 s y.hour y.gas y.bills y.owed) (O1 s y.hour y.gas y.bills y.owed) [] hO1.1
 have hT:∀t∈d.trades,xN s.cons.length t:=fun t ht=>by
  have p:=h3
  simp only[Kz,acR,adG]at p
  exact tok (by have:=S.len;omega) (p.2 t ht)
 refine⟨⟨by show y.hour+1=_;rw[I.hour];rfl,⟨W.gas,W.len.2.1,fun i=>?_,?_,fun t ht=>?_,t1⟩,?_⟩,E,W⟩
 ·show -(100000000000000*(((k+1:Nat):Int)+1))≤gI (L7 s d y.hour z y.gas y.bills y.owed) i∧gI (L7 s d y.hour z y.gas y.bills y.owed) i≤100000000000000*(((k+1:Nat):Int)+1)
  have hl1:=E.l1.2
  have ei:gI (L7 s d y.hour z y.gas y.bills y.owed) i=gI (L7 s d y.hour z y.gas y.bills y.owed) (i.toNat:Int):=by unfold gI;rw[abQ]
  rw[ei]
  by_cases hi:i.toNat<s.cons.length
  ·obtain⟨c,hc⟩:∃c,s.cons[i.toNat]?=some c:=⟨_,acI hi⟩
   have hl:=hl1 (i.toNat:Int)
   have hb:=W.bill _ c hc
   have hf:=W.flow i.toNat
   have hw:=W.cut i.toNat
   obtain⟨_,_,_,_,m1,m2⟩:=sX (hcs c (aa9 hc)) (b:=gI (L1 s y.hour y.gas y.bills y.owed) i.toNat) hf ⟨hw.1,hw.2.1⟩ hw.2.2 (by omega)
   rw[hb]
   unfold kB
   split<;>split<;>omega
  ·rw[xI (by have:=W.len.2.1;omega)]
   omega
 ·have:=W.ow
  have:=I.i.own
  show -(100000000000000*(((k+1:Nat):Int)+1))≤Xp s d y.hour z y.gas y.bills y.owed y.own∧Xp s d y.hour z y.gas y.bills y.owed y.own≤_
  omega
 ·rcases t2 t ht with h|h
  ·exact I.i.owed t (hO1.2 t h)
  ·exact hT t h
 ·have:=W.fu
  have:=I.fuel
  show 0≤(G6 s d y.hour z y.gas y.bills y.owed y.fuel).2∧(G6 s d y.hour z y.gas y.bills y.owed y.fuel).2≤_
  omega
end Go.Proofs.YtdbiogihimdpcaaGreatDoor
