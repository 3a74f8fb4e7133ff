/- The functions of the layer, walked. -/
import Derived.Test.YtdbiogihimdpcaaGreatDoorPartAH
import Derived.Test.YtdbiogihimdpcaaGreatDoorLibE
open Int renaming toNat_natCast→aaF,sub_zero→aeO,add_zero→ai7
open List renaming mem_of_getElem?→aaR,mem_cons_of_mem→aaV,mem_cons_self→abT,getElem?_eq_getElem→acK,length_cons→acY,all_eq_true→acZ,mem_cons→ac2,not_mem_nil→ac3,getElem?_eq_some_iff→ac5,length_eq_zero_iff→adA,getElem?_map→aeG,getElem?_cons_succ→ai6,replicate→ai9,getElem?_eq_none→ajA,nil_append→ajY,sum_cons→am2,length_nil→am3,getElem?_set_self→am4,getElem?_set_ne→am5,getElem_mem→am6,append_assoc→anC,eq_nil_iff_forall_not_mem→anG
open Bool renaming and_eq_true→abL,false_eq_true→aiT,or_eq_true→ai8
open Nat renaming zero_add→ac4,add_zero→ai5,le_refl→ajB
open Option renaming getD_some→am8
set_option linter.unusedSimpArgs false
set_option linter.unusedVariables false
namespace Go.Proofs.YtdbiogihimdpcaaGreatDoor
open Go.Ev Go
set_option maxRecDepth 100000
set_option maxHeartbeats 16000000
theorem Sm(l:List Int)(i v j:Int):gI (sI l i v) j=if i.toNat=j.toNat∧i.toNat<l.length then v else gI l j:=by
 unfold gI sI
 by_cases h:i.toNat=j.toNat
 ·rw[←h]
  by_cases hl:i.toNat<l.length
  ·rw[if_pos ⟨rfl,hl⟩,am4 hl];rfl
  ·rw[if_neg (fun q=>hl q.2),List.set_eq_of_length_le (by omega)]
 ·rw[if_neg (fun q=>h q.1),am5 h]
structure oZ(cs:List Ae)(G:List Int):Prop where
 len:G.length=cs.length
 inn:∀(i:Nat) c,cs[i]?=some c→0≤gI G i∧gI G i≤c.space
def LOK(B:Int)(L:List Int):Prop:=∀i:Int,-B≤gI L i∧gI L i≤B
theorem oZ.at{cs:List Ae}{G:List Int}(h:oZ cs G){i:Int}(hi:yI cs.length i):∃c,cs[i.toNat]?=some c∧0≤gI G i∧gI G i≤c.space:=by
 obtain⟨c,hc⟩:∃c,cs[i.toNat]?=some c:=⟨_,acK hi.toNat⟩
 have:=h.inn i.toNat c hc
 have e:((i.toNat:Nat):Int)=i:=by have:=hi.1;omega
 rw[e]at this
 exact⟨c,hc,this⟩
theorem apQ(l:List Int)(i:Int):gI l (i.toNat:Int)=gI l i:=by unfold gI;rw[aaF]
theorem oZ.move{cs:List Ae}{G:List Int}(h:oZ cs G){a b:Int}(ha:yI cs.length a)(hb:yI cs.length b)(hab:a≠b){n:Int}(hn:0≤n)(h1:n≤gI G a)(h2:∀c,cs[b.toNat]?=some c→gI G b+n≤c.space):
 oZ cs (sI (sI G a (gI G a-n)) b (gI G b+n)):=by
 refine⟨by rw[Bi,Bi];exact h.len,fun i c hc=>?_⟩
 have hi:i<cs.length:=(ac5.1 hc).1
 have hh:=h.inn i c hc
 have hla:=ha.toNat
 have hlb:=hb.toNat
 rw[Sm,Sm]
 simp only[aaF,Bi]
 have a0:=ha.1
 have b0:=hb.1
 split
 ·rename_i q
  have q1:=q.1
  subst q1
  have:=h2 c hc
  have h3:=h.at hb
  obtain⟨c',hc',p1,p2⟩:=h3
  exact⟨by omega,this⟩
 ·split
  ·rename_i q
   have q1:=q.1
   subst q1
   rw[apQ]at hh
   omega
  ·exact hh
theorem xX{c:Ae}(h:Gz c=true):(0≤c.lack∧c.lack≤10000)∧(0≤c.cut∧c.cut≤10000)∧(0≤c.inn∧c.inn≤10000)∧(0≤c.out∧c.out≤10000)∧(0≤c.fixed∧c.fixed≤10000):=by
 simp only[Gz,abL,Gm,decide_eq_true_eq,List.all_cons,List.all_nil,and_true]at h
 obtain⟨_,h1,h2,h3,h4,h5⟩:=h
 exact⟨h5,h4,h2,h3,h1⟩
structure yG(n:Nat)(t:Ab):Prop where
 ok:t.ok n
 ne:t.frm≠t.to
 amt:1≤t.amount∧t.amount≤100000000
 back:t.back= -1∨0≤t.back
theorem tok{n:Nat}(hn:n≤1000){t:Ab}(h:Ko n t=true):yG n t:=by
 obtain⟨a,b,c,d,e⟩:=jE hn h
 exact⟨a,b,⟨c,d⟩,e⟩
def lnN(cs:List Ae)(t:Ab)(G:List Int):Int:=mn (mn t.amount (gI G t.to)) (Ic cs t.frm-gI G t.frm)
def lT(cs:List Ae)(t:Ab)(G:List Int):Int:=(t.amount-mn t.amount (gI G t.to))*aD cs t.to
theorem oU{l:List Int}{i:Int}(hi:yI l.length i):sI l i (gI l i)=l:=by
 unfold sI gI
 have:=hi.toNat
 refine List.ext_getElem? fun j=>?_
 by_cases h:i.toNat=j
 ·subst h;rw[am4 this,acK this];rfl
 ·rw[am5 h]
theorem yR{cs:List Ae}(hcs:∀c∈cs,Gz c=true){t:Ab}(T:yG cs.length t){G L:List Int}(hG:oZ cs G){B:Int}(hB:0≤B∧B≤4000000000000000000)(hLl:L.length=cs.length)(hL:LOK B L):
 Sv cs t G=sI (sI G t.to (gI G t.to-lnN cs t G)) t.frm (gI G t.frm+lnN cs t G)∧ak2 cs t G=Sv cs t G∧
 Ta cs t G L=sI (sI L t.to (gI L t.to+lT cs t G)) t.frm (gI L t.frm-lT cs t G)∧akW cs t G L=Ta cs t G L∧
 oZ cs (Sv cs t G)∧LOK (B+1000000000000) (Ta cs t G L)∧(0≤lnN cs t G)∧(0≤lT cs t G∧lT cs t G≤1000000000000):=by
 obtain⟨ct,hct,gt0,gt1⟩:=hG.at T.ok.2
 obtain⟨cf,hcf,gf0,gf1⟩:=hG.at T.ok.1
 have Ct:=Lm (hcs ct (aaR hct))
 have Cf:=Lm (hcs cf (aaR hcf))
 have Lt:=(xX (hcs ct (aaR hct))).1
 have hA:=T.amt
 have sp1:=Ct.space
 have sp2:=Cf.space
 have eS:Ic cs t.frm=cf.space:=by simp[Ic,hcf]
 have eK:aD cs t.to=ct.lack:=by simp[aD,hct]
 have hne:=T.ne
 have i0:=T.ok.1.1
 have j0:=T.ok.2.1
 have wS:IntKind.i64.wrap (cf.space-gI G t.frm)=cf.space-gI G t.frm:=Af (by omega) (by omega)
 have wA:IntKind.i64.wrap (t.amount-gI G t.to)=t.amount-gI G t.to:=Af (by omega) (by omega)
 have n0:0≤lnN cs t G∧lnN cs t G≤gI G t.to∧lnN cs t G≤cf.space-gI G t.frm:=by
  unfold lnN mn;rw[eS];split<;>split<;>omega
 have eN:jO cs t G=lnN cs t G:=by
  unfold jO lnN;rw[eS,wS];rfl
 have eR:pB cs t G=lnN cs t G:=by
  unfold pB lnN;rw[eS,wS]
 have m0:0≤t.amount-mn t.amount (gI G t.to)∧t.amount-mn t.amount (gI G t.to)≤100000000:=by
  unfold mn;split<;>omega
 have p0:0≤lT cs t G∧lT cs t G≤1000000000000:=by
  unfold lT;rw[eK]
  have:=aH m0.1 m0.2 Lt.1 Lt.2
  omega
 have eP:qF cs t G=lT cs t G:=by
  have w1:IntKind.i64.wrap (t.amount-mn t.amount (gI G t.to))=t.amount-mn t.amount (gI G t.to):=Af (by omega) (by omega)
  have p1:=p0
  unfold lT at p1
  unfold qF lT
  rw[w1]
  exact Af (by omega) (by omega)
 have wt:=hL t.to
 have wf:=hL t.frm
 have ne1:∀(l:List Int) v,gI (sI l t.to v) t.frm=gI l t.frm:=fun l v=>qB j0 i0 (Ne.symm hne) v
 have r1:Sv cs t G=sI (sI G t.to (gI G t.to-lnN cs t G)) t.frm (gI G t.frm+lnN cs t G):=by
  unfold Sv
  rw[eN,ne1,Af (by omega) (by omega),Af (by omega) (by omega)]
 have r2:ak2 cs t G=Sv cs t G:=by
  rw[r1];unfold ak2
  rw[eR,Af (by omega) (by omega),Af (by omega) (by omega)]
 have r4:akW cs t G L=sI (sI L t.to (gI L t.to+lT cs t G)) t.frm (gI L t.frm-lT cs t G):=by
  unfold akW
  rw[eP,Af (by omega) (by omega),Af (by omega) (by omega)]
 have r3:Ta cs t G L=sI (sI L t.to (gI L t.to+lT cs t G)) t.frm (gI L t.frm-lT cs t G):=by
  unfold Ta
  rw[wA]
  split
  ·rename_i hlt
   have eW:jV cs t G=lT cs t G:=by
    rw[←eP];unfold jV qF
    rw[show mn t.amount (gI G t.to)=gI G t.to by unfold mn;rw[if_pos (by omega)]]
   rw[eW,ne1,Af (by omega) (by omega),Af (by omega) (by omega)]
  ·rename_i hlt
   have z:lT cs t G=0:=by
    unfold lT
    rw[show mn t.amount (gI G t.to)=t.amount by unfold mn;rw[if_neg (by omega)]]
    simp
   have h1:=T.ok.1
   have h2:=T.ok.2
   rw[←hLl]at h1 h2
   rw[z,ai7,aeO,oU h2,oU h1]
 refine⟨r1,r2,r3,by rw[r4,r3],?_,?_,n0.1,p0⟩
 ·rw[r1]
  exact hG.move T.ok.2 T.ok.1 (Ne.symm hne) n0.1 n0.2.1 (fun c hc=>by rw[hcf]at hc;cases hc;omega)
 ·rw[r3]
  intro i
  have:=hL i
  rw[Sm]
  split
  ·omega
  ·rw[Sm];split<;>omega
theorem kU{cs:List Ae}(hcs:∀c∈cs,Gz c=true)(hr:Int):∀{O:List Ab},(∀t∈O,yG cs.length t)→∀{G L:List Int} (p:List Ab) {B:Int},oZ cs G→0≤B→B+1000000000000*O.length≤4000000000000000000→L.length=cs.length→LOK B L→
 acR cs hr O (G,L,p)=Bz cs hr O (G,L,p)∧oZ cs (Bz cs hr O (G,L,p)).1∧(Bz cs hr O (G,L,p)).2.1.length=cs.length∧LOK (B+1000000000000*O.length) (Bz cs hr O (G,L,p)).2.1
 | [],_,G,L,p,B,hG,h0,hB,hLl,hL=>⟨rfl,hG,hLl,by simpa [Bz]using hL⟩
 |t::O,hO,G,L,p,B,hG,h0,hB,hLl,hL=>by
  have T:=hO t (abT ..)
  have hO':∀t∈O,yG cs.length t:=fun t ht=>hO t (aaV _ ht)
  simp only[acY]at hB
  by_cases hb:t.back=hr
  ·obtain⟨_,r2,_,r4,g,l,_⟩:=yR hcs T hG (B:=B) ⟨h0,by omega⟩ hLl hL
   have hb':(t.back==hr)=true:=by simpa using hb
   simp only[acR,Bz,hb,hb',if_true]
   rw[r2,r4]
   obtain⟨a,b,c,d⟩:=kU hcs hr hO' p g (by omega) (by omega) (by rw[Nr];exact hLl) l
   refine⟨by simpa using a,b,c,fun i=>?_⟩
   have:=d i
   simp only[acY]
   omega
  ·have hb':(t.back==hr)=false:=by simpa using hb
   simp only[acR,Bz,hb,hb',if_false,aiT]
   obtain⟨a,b,c,d⟩:=kU hcs hr hO' (p++[t]) hG h0 (by omega) hLl hL
   refine⟨a,b,c,fun i=>?_⟩
   have:=d i
   simp only[acY]
   omega
theorem Zf{cs:List Ae}(hcs:∀c∈cs,Gz c=true)(hr:Int):∀{T:List Ab},(∀t∈T,yG cs.length t)→∀{G:List Int} (i:Nat) (O:List Ab) (R:List Int),oZ cs G→oZ cs (Bd cs hr T i (G,O,R)).1
 | [],_,G,i,O,R,hG=>hG
 |t::T,hT,G,i,O,R,hG=>by
  have hT':∀t∈T,yG cs.length t:=fun t ht=>hT t (aaV _ ht)
  have K:=hT t (abT ..)
  simp only[Bd]
  split
  ·split
   ·exact Zf hcs hr hT' _ _ _ hG
   ·rename_i hno
    refine Zf hcs hr hT' _ _ _ ?_
    obtain⟨ct,hct,gt0,gt1⟩:=hG.at K.ok.2
    obtain⟨cf,hcf,gf0,gf1⟩:=hG.at K.ok.1
    have sp1:=(Lm (hcs ct (aaR hct))).space
    have sp2:=(Lm (hcs cf (aaR hcf))).space
    have hA:=K.amt
    have e:Ic cs t.to=ct.space:=by simp[Ic,hct]
    simp only[Kx,ai8,decide_eq_true_eq,not_or,e]at hno
    obtain⟨⟨n1,n2⟩,_⟩:=hno
    rw[Af (by omega) (by omega)]at n2
    rw[fD K.ok K.ne,Af (by omega) (by omega),Af (by omega) (by omega)]
    exact hG.move K.ok.1 K.ok.2 K.ne (by omega) (by omega) (fun c hc=>by rw[hct]at hc;cases hc;omega)
  ·exact Zf hcs hr hT' _ _ _ hG
theorem dZ(q:Int):∀(l:List Bc) (o:Bc),cJ q l o=o∨cJ q l o∈l
 | [],o=>.inl rfl
 |r::l,o=>by
  simp only[cJ]
  rcases dZ q l (if r.fill≤q then r else o)with h|h
  ·rw[h];split
   ·exact .inr (abT ..)
   ·exact .inl rfl
  ·exact .inr (aaV _ h)
theorem rR{c:Ae}(h:Gz c=true)(g:Int):(0≤(Ll c g).inn∧(Ll c g).inn≤100000000)∧(0≤(Ll c g).out∧(Ll c g).out≤100000000)∧(Oc c).fill=0:=by
 have C:=Lm h
 simp only[Gz,abL]at h
 have hr:=h.1.1.1.1.1
 have r0:Oc c∈c.rates:=by
  unfold Oc
  rw[acK (List.length_pos_iff.2 C.rates.1)]
  exact am6 _
 have m:Ll c g∈c.rates:=by
  unfold Ll
  rcases dZ (abX c g) c.rates (Oc c)with e|e
  ·rw[e];exact r0
  ·exact e
 have:=Vz hr m
 refine⟨⟨this.1,this.2.1⟩,⟨this.2.2.1,this.2.2.2⟩,?_⟩
 unfold Oc
 cases hc:c.rates with
 |nil=>exact(C.rates.1 hc).elim
 |cons r l=>
  rw[hc]at hr
  simp only[Fq,Pz,abL,decide_eq_true_eq]at hr
  exact hr.1.2
theorem xZ{c:Ae}(h:Gz c=true){n g:Int}(hn: -100000000≤n∧n≤100000000)(h0:0≤g)(h1:g≤c.space):
 jM c n g=fF c n g∧ -g≤fF c n g∧fF c n g≤c.space-g:=by
 have C:=(Lm h).space
 obtain⟨⟨r1,r2⟩,⟨r3,r4⟩,_⟩:=rR h g
 have w1:IntKind.i64.wrap (c.space-g)=c.space-g:=Af (by omega) (by omega)
 have w2:IntKind.i64.wrap (0-n)=0-n:=Af (by omega) (by omega)
 have w3:IntKind.i64.wrap (0-(Ll c g).out)=0-(Ll c g).out:=Af (by omega) (by omega)
 have w4:IntKind.i64.wrap (0-g)=0-g:=Af (by omega) (by omega)
 unfold jM fF
 rw[w1,w2,w3,w4]
 generalize(Ll c g).inn=a at *
 generalize(Ll c g).out=b at *
 have e1:0≤yW (mn (mn n a) (c.space-g))∧yW (mn (mn n a) (c.space-g))≤100000000:=by
  unfold yW mn;split<;>split<;>split<;>omega
 have e2:0≤yW (mn (mn (0-n) b) g)∧yW (mn (mn (0-n) b) g)≤100000000:=by
  unfold yW mn;split<;>split<;>split<;>omega
 rw[Af (by omega) (by omega)]
 by_cases hp:0≤n
 ·have z:yW (mn (mn (0-n) b) g)=0:=by unfold yW mn;split<;>split<;>split<;>omega
  rw[z]
  unfold yW mn iK
  refine⟨?_,?_,?_⟩<;>(repeat' split)<;>omega
 ·have z:yW (mn (mn n a) (c.space-g))=0:=by unfold yW mn;split<;>split<;>split<;>omega
  rw[z]
  unfold yW mn iK
  refine⟨?_,?_,?_⟩<;>(repeat' split)<;>omega
theorem nT{l:List Gl}{k:Int}(h:l.all (bE k)=true)(j:Int): -100000000≤Vn l j∧Vn l j≤100000000:=by
 unfold Vn
 cases e:l[j.toNat]? with
 |none=>simp
 |some n=>
  have:=acZ.1 h n (aaR e)
  simp only[bE,Gm,abL,decide_eq_true_eq]at this
  simp only[Option.map_some,am8]
  omega
theorem jW{s:Ac}{d:Aq}{hr:Int}{G:List Int}(hn:d.noms.all (bE s.cons.length)=true):∀(l:List Ae) (i:Nat) (p:List Int),p.length=i→(∀c∈l,Gz c=true)→(∀(j:Nat) c,l[j]?=some c→0≤gI G ((i+j:Nat):Int)∧gI G ((i+j:Nat):Int)≤c.space)→
 Iy (Br s d hr G) l i (p++ai9 l.length 0)=p++Qk s d hr G l i
 | [],i,p,hp,_,_=>by simp[Iy,Qk]
 |c::l,i,p,hp,hc,hG=>by
  have h0:=hG 0 c rfl
  rw[ai5]at h0
  have ih:=jW (hr:=hr) hn l (i+1) (p++[Qy s d hr G i c]) (by simp[hp]) (fun c hc'=>hc c (aaV _ hc')) (fun j c' hj=>by
   have:=hG (j+1) c' (by simpa using hj)
   rwa[show i+(j+1)=i+1+j by omega]at this)
  have e:=xZ (hc c (abT ..)) (nT hn (Kz s.lead d.noms i hr d.noms (0,-1))) h0.1 h0.2
  have key:Br s d hr G i c (p++0::ai9 l.length 0)=p++Qy s d hr G i c::ai9 l.length 0:=by
   unfold Br Qy
   cases ha:Gm hr c.lo c.hi with
   |false=>simp
   |true=>
    by_cases hk:Kz s.lead d.noms i hr d.noms (0,-1)<0
    ·have hk':¬0≤Kz s.lead d.noms i hr d.noms (0,-1):=by omega
     simp[hk,hk']
    ·have hk':0≤Kz s.lead d.noms i hr d.noms (0,-1):=by omega
     simp only[hk,hk',if_true,if_false,decide_true,Bool.and_self]
     rw[e.1]
     unfold sI
     rw[aaF,List.set_append_right _ _ (by omega),hp,Nat.sub_self]
     rfl
  simp only[Iy,Qk,acY,List.replicate_succ]
  rw[key]
  rw[anC]at ih
  rw[anC]at ih
  exact ih
theorem iZ{l:List Int}(ha:Oa l)(h8:l.length≤8){m:Int}(h0:0≤m)(h1:m≤l.sum){i:Nat}{x w:Int}(hx:(Bo m l)[i]?=some x)(hw:l[i]?=some w):0≤x∧x≤w:=by
 unfold Bo at hx
 rw[Qu ha (by omega)]at hx
 have hs:=ha.sum
 by_cases hp:0<l.sum
 ·rw[bZ h0 (by omega) hp ha h8]at hx
  have:=We h0 h1 hp ha hx hw
  exact⟨this.1,this.2.1⟩
 ·rw[Yy hp]at hx
  have:x=0:=by
   rw[List.getElem?_replicate]at hx
   split at hx
   ·cases hx;rfl
   ·cases hx
  have:=ha w (aaR hw)
  omega
theorem hY{w:Int}:Cc w=if 0<w then w else 0:=by unfold Cc;rfl
theorem gX{w:Int}(h: -100000000≤w∧w≤100000000):Df w=if w<0 then -w else 0:=by
 unfold Df Cc
 rw[Af (by omega) (by omega)]
 split<;>split<;>omega
def uF(w f:Int):Prop:=(0≤w→0≤f∧f≤w)∧(w≤0→w≤f∧f≤0)
theorem aeI{l P N:List Int}(hP:P.length=l.length)(hN:N.length=l.length)(hl:∀w∈l,-100000000≤w∧w≤100000000)
 (h1:∀{i:Nat} {x w:Int},P[i]?=some x→l[i]?=some w→0≤x∧x≤Cc w) (h2:∀{i:Nat} {x w:Int},N[i]?=some x→l[i]?=some w→0≤x∧x≤Df w) (i:Nat):
 uF (gI l i) (gI (List.zipWith Ui P N) i):=by
 unfold gI
 rw[aaF,List.getElem?_zipWith]
 by_cases hi:i<l.length
 ·obtain⟨w,hw⟩:∃w,l[i]?=some w:=⟨_,acK hi⟩
  obtain⟨x,hx⟩:∃x,P[i]?=some x:=⟨_,acK (by omega)⟩
  obtain⟨y,hy⟩:∃y,N[i]?=some y:=⟨_,acK (by omega)⟩
  have a:=h1 hx hw
  have b:=h2 hy hw
  have c:=hl w (aaR hw)
  rw[hY]at a
  rw[gX c]at b
  simp only[hw,hx,hy,am8]
  unfold Ui uF
  rw[Af (by split at a<;>split at b<;>omega) (by split at a<;>split at b<;>omega)]
  split at a<;>split at b<;>omega
 ·rw[ajA (by omega),ajA (by omega)]
  simp[uF]
theorem bG{l:List Int}(hl:∀w∈l,-100000000≤w∧w≤100000000):Oa (l.map Cc):=fun w hw=>by
 obtain⟨x,hx,rfl⟩:=List.mem_map.1 hw
 have:=hl x hx
 rw[hY];split<;>omega
theorem bJ{l:List Int}(hl:∀w∈l,-100000000≤w∧w≤100000000):Oa (l.map Df):=fun w hw=>by
 obtain⟨x,hx,rfl⟩:=List.mem_map.1 hw
 have:=hl x hx
 rw[gX this];split<;>omega
theorem iI{f:Int→Int}{l:List Int}{i:Nat}{y w:Int}(h:(l.map f)[i]?=some y)(hw:l[i]?=some w):y=f w:=by
 rw[aeG,hw]at h;simpa using h.symm
theorem ac8{cs:List Ae}{l:List Int}(hl:∀w∈l,-100000000≤w∧w≤100000000)(hc:l.length=cs.length)(h8:l.length≤8){a b:Int}(ha:0≤a∧a≤800000000)(hb:0≤b∧b≤800000000)(i:Nat):
 uF (gI l i) (gI (Fj Re cs l a b) i):=by
 have c1:=amK (cs:=cs) (l:=l.map Cc) (m:=a) (by simpa using hc) (by simpa using h8) (bG hl) ha.1 ha.2
 have c2:=amK (cs:=cs) (l:=l.map Df) (m:=b) (by simpa using hc) (by simpa using h8) (bJ hl) hb.1 hb.2
 refine aeI (by rw[c1.len];simp) (by rw[c2.len];simp) hl (fun hx hw=>?_) (fun hx hw=>?_) i
 ·obtain⟨y,hy⟩:∃y,(l.map Cc)[_]?=some y:=⟨_,by rw[aeG,hw];rfl⟩
  have:=c1.ins hx hy
  rwa[iI hy hw]at this
 ·obtain⟨y,hy⟩:∃y,(l.map Df)[_]?=some y:=⟨_,by rw[aeG,hw];rfl⟩
  have:=c2.ins hx hy
  rwa[iI hy hw]at this
theorem ajK{A:List Int}(hl:∀w∈A,-100000000≤w∧w≤100000000)(h8:A.length≤8){z:Au}(h1:0≤z.flowIn)(h2:0≤z.flowOut)(i:Nat):uF (gI A i) (gI (RF z A) i):=by
 have p:=bG hl
 have q:=bJ hl
 have sp:=Qu p (by simp;omega)
 have sq:=Qu q (by simp;omega)
 have bp:=p.sum
 have bq:=q.sum
 refine aeI (by unfold Bo;rw[Dt];simp) (by unfold Bo;rw[Dt];simp) hl (fun hx hw=>?_) (fun hx hw=>?_) i
 ·obtain⟨y,hy⟩:∃y,(A.map Cc)[_]?=some y:=⟨_,by rw[aeG,hw];rfl⟩
  have:=iZ p (by simpa using h8) (by unfold mn;split<;>omega) (by unfold mn;split<;>omega) hx hy
  rwa[iI hy hw]at this
 ·obtain⟨y,hy⟩:∃y,(A.map Df)[_]?=some y:=⟨_,by rw[aeG,hw];rfl⟩
  have:=iZ q (by simpa using h8) (by unfold mn;split<;>omega) (by unfold mn;split<;>omega) hx hy
  rwa[iI hy hw]at this
theorem adK{A:List Int}(hl:∀w∈A,-100000000≤w∧w≤100000000)(h8:A.length≤8){z:Au}(h1:0≤z.flowIn∧z.flowIn≤800000000)(h2:0≤z.flowOut∧z.flowOut≤800000000){own:Int}(ho: -4000000000000000000≤own∧own≤4000000000000000000):
 cP A z own=aeA z A own∧aeA z A own=own+(z.flowIn-mn z.flowIn (A.map Cc).sum)-(z.flowOut-mn z.flowOut (A.map Df).sum)∧(0≤mn z.flowIn (A.map Cc).sum∧mn z.flowIn (A.map Cc).sum≤z.flowIn)∧(0≤mn z.flowOut (A.map Df).sum∧mn z.flowOut (A.map Df).sum≤z.flowOut):=by
 have p:=bG hl
 have q:=bJ hl
 have sp:=Qu p (by simp;omega)
 have sq:=Qu q (by simp;omega)
 have bp:=p.sum
 have bq:=q.sum
 have m1:0≤mn z.flowIn (A.map Cc).sum∧mn z.flowIn (A.map Cc).sum≤z.flowIn:=by unfold mn;split<;>omega
 have m2:0≤mn z.flowOut (A.map Df).sum∧mn z.flowOut (A.map Df).sum≤z.flowOut:=by unfold mn;split<;>omega
 have e:aeA z A own=own+(z.flowIn-mn z.flowIn (A.map Cc).sum)-(z.flowOut-mn z.flowOut (A.map Df).sum):=by
  unfold aeA
  rw[sp,sq]
  rw[Af (n:=own+z.flowIn) (by omega) (by omega),Af (n:=own+z.flowIn-_) (by omega) (by omega),Af (n:=own+z.flowIn-_-z.flowOut) (by omega) (by omega),Af (by omega) (by omega)]
  omega
 refine⟨?_,e,m1,m2⟩
 rw[e]
 unfold cP Ie Jg
 rw[show min2=mn from rfl,sp,sq]
 rw[Af (n:=z.flowIn-_) (by omega) (by omega),Af (n:=z.flowOut-_) (by omega) (by omega),Af (n:=z.flowIn-_-_) (by omega) (by omega),Af (by omega) (by omega)]
 omega
theorem oJ{s:Ac}(hf:0≤s.fuel∧s.fuel≤1000){f:Int}(h: -100000000≤f∧f≤100000000):Nw s f=Jx s.fuel f∧0≤Nw s f∧Nw s f≤Gp f∧(0≤Gp f∧Gp f≤100000000∧0≤Jf f∧Jf f≤100000000∧Gp f-Jf f=f):=by
 have g:Jf f=iK 0 (0-f):=by unfold Jf;rw[Af (by omega) (by omega)]
 have c0:0≤Gp f∧Gp f≤100000000∧0≤Jf f∧Jf f≤100000000∧Gp f-Jf f=f:=by
  rw[g];unfold Gp iK;split<;>split<;>omega
 have m:=aH c0.1 c0.2.1 hf.1 hf.2
 have e:Nw s f=Gp f*s.fuel / 1000:=by
  unfold Nw
  rw[Af (n:=Gp f*s.fuel) (by omega) (by omega),Int.tdiv_eq_ediv_of_nonneg m.1,Af (by omega) (by omega)]
 refine⟨rfl,by rw[e];omega,?_,c0⟩
 rw[e]
 have:Gp f*s.fuel≤Gp f*1000:=Int.mul_le_mul_of_nonneg_left hf.2 c0.1
 omega
theorem zG{s:Ac}(hf:0≤s.fuel∧s.fuel≤1000){f g:Int}(h: -100000000≤f∧f≤100000000)(hg:0≤g∧g≤100000000):IntKind.i64.wrap (g+IntKind.i64.wrap (f-Jx s.fuel f))=acG s f g∧acG s f g=g+f-Nw s f:=by
 obtain⟨e,a,b,c⟩:=oJ hf h
 rw[←e]
 have r:acG s f g=g+f-Nw s f:=by
  unfold acG
  rw[Af (n:=g+Gp f) (by omega) (by omega),Af (n:=g+Gp f-_) (by omega) (by omega),Af (by omega) (by omega)]
  omega
 rw[r,Af (n:=f-Nw s f) (by omega) (by omega),Af (by omega) (by omega)]
 exact⟨by omega,rfl⟩
theorem ahE{s:Ac}(hf:0≤s.fuel∧s.fuel≤1000)(hr:Int)(W A:List Int):∀(F:List Int) (i:Nat) (G:List Int) (fu:Int) (L:List Int),(∀x∈F,-100000000≤x∧x≤100000000)→(∀j:Nat,i≤j→j<i+F.length→0≤gI G j∧gI G j≤100000000)→
 (lN s hr W A F i (G,fu,L)).1=(Gt s.fuel F i (G,fu)).1∧(lN s hr W A F i (G,fu,L)).2.1=(Gt s.fuel F i (G,fu)).2
 | [],_,_,_,_,_,_=>⟨rfl,rfl⟩
 |f::F,i,G,fu,L,hF,hG=>by
  have e:=(zG hf (hF f (abT ..)) (hG i (ajB _) (by simp))).1
  simp only[lN,Gt]
  rw[e]
  refine ahE hf hr W A F (i+1) _ _ _ (fun x hx=>hF x (aaV _ hx)) (fun j h1 h2=>?_)
  rw[Sm]
  rw[if_neg (by simp only[aaF];omega)]
  exact hG j (by omega) (by simp only[acY];omega)
def aJ(k:Int):Int:=iK k (0-k)
theorem uJ{c:Ae}(h:Gz c=true){f w a b:Int}(hf: -100000000≤f∧f≤100000000)(hw: -100000000≤w∧w≤100000000)(ha: -100000000≤a∧a≤100000000)(hb: -4000000000000000000≤b∧b≤4000000000000000000):
 IntKind.i64.wrap (b+Xa c f)=aa9 c f b∧aa9 c f b=b+(c.fixed+c.inn*Gp f+c.out*Jf f)∧wQ c (IntKind.i64.wrap (w-a))=c.cut*aJ (w-a)∧(∀v,-4000000000000000000≤v→v≤4000000000010000000+4000000000000→an3 c w a v=v-c.cut*aJ (w-a))∧(0≤c.cut*aJ (w-a)∧c.cut*aJ (w-a)≤2000000000000)∧(0≤c.fixed+c.inn*Gp f+c.out*Jf f∧c.fixed+c.inn*Gp f+c.out*Jf f≤2000000010000):=by
 obtain⟨_,h1,h2,h3,h4⟩:=xX h
 have g:Jf f=iK 0 (0-f):=by unfold Jf;rw[Af (by omega) (by omega)]
 have c0:0≤Gp f∧Gp f≤100000000∧0≤Jf f∧Jf f≤100000000:=by
  rw[g];unfold Gp iK;split<;>split<;>omega
 have m1:=aH h2.1 h2.2 c0.1 c0.2.1
 have m2:=aH h3.1 h3.2 c0.2.2.1 c0.2.2.2
 have k0:0≤aJ (w-a)∧aJ (w-a)≤200000000:=by unfold aJ iK;split<;>omega
 have m3:=aH h1.1 h1.2 k0.1 k0.2
 have e1:aa9 c f b=b+(c.fixed+c.inn*Gp f+c.out*Jf f):=by
  unfold aa9
  rw[Af (n:=c.inn*Gp f) (by omega) (by omega),Af (n:=c.out*Jf f) (by omega) (by omega),Af (n:=b+c.fixed) (by omega) (by omega),Af (n:=b+c.fixed+_) (by omega) (by omega),Af (by omega) (by omega)]
  omega
 have e2:Xa c f=c.fixed+c.inn*Gp f+c.out*Jf f:=by
  unfold Xa
  rw[show iK 0 f=Gp f from rfl,show iK 0 (IntKind.i64.wrap (0-f))=Jf f from rfl]
  rw[Af (n:=c.inn*Gp f) (by omega) (by omega),Af (n:=c.out*Jf f) (by omega) (by omega),Af (n:=c.fixed+_) (by omega) (by omega),Af (by omega) (by omega)]
 have wa:IntKind.i64.wrap (w-a)=w-a:=Af (by omega) (by omega)
 have aw:IntKind.i64.wrap (a-w)=a-w:=Af (by omega) (by omega)
 refine⟨by rw[e2,e1,Af (by omega) (by omega)],e1,?_,?_,by omega,by omega⟩
 ·unfold wQ
  rw[wa,Af (n:=0-(w-a)) (by omega) (by omega),show iK (w-a) (0-(w-a))=aJ (w-a)from rfl,Af (by omega) (by omega)]
 ·intro v v1 v2
  unfold an3
  rw[wa,aw,show iK (w-a) (a-w)=aJ (w-a) by unfold aJ;rw[show 0-(w-a)=a-w by omega],Af (n:=c.cut*aJ (w-a)) (by omega) (by omega),Af (by omega) (by omega)]
theorem asS(l:List Int)(i:Int)(v w:Int):sI (sI l i v) i w=sI l i w:=by unfold sI;rw[List.set_set]
def iY(c:Ae)(hr f w a b:Int):Int:=b+(if Gm hr c.lo c.hi=true then c.fixed+c.inn*Gp f+c.out*Jf f else 0)-(if c.firm=true then c.cut*aJ (w-a)else 0)
theorem rJ{c:Ae}(h:Gz c=true){hr:Int}{F W A L:List Int}{i:Nat}(hi:i<L.length)(hf: -100000000≤gI F i∧gI F i≤100000000)(hw: -100000000≤gI W i∧gI W i≤100000000)(ha: -100000000≤gI A i∧gI A i≤100000000)(hb: -3000000000000000000≤gI L i∧gI L i≤3000000000000000000)
 (h0:Gm hr c.lo c.hi=false→gI W i=0∧gI A i=0):Bq hr F W A i c L=sI L i (iY c hr (gI F i) (gI W i) (gI A i) (gI L i))∧rA c hr (gI F i) (gI W i) (gI A i) (gI L i)=iY c hr (gI F i) (gI W i) (gI A i) (gI L i):=by
 obtain⟨e1,e2,e3,e4,m1,m2⟩:=uJ h hf hw ha (b:=gI L i) ⟨by omega,by omega⟩
 unfold Bq rA iY
 have gi:∀v,gI (sI L i v) i=v:=fun v=>by rw[Sm,if_pos ⟨rfl,by simpa using hi⟩]
 cases hact:Gm hr c.lo c.hi with
 |true=>
  cases hfirm:c.firm with
  |true=>
   simp only[if_true]
   rw[gi,e1,e2,asS,e3,e4 _ (by omega) (by omega),Af (by omega) (by omega)]
   exact⟨rfl,rfl⟩
  |false=>
   simp only[if_true,aiT,if_false]
   rw[e1,e2,aeO]
   exact⟨rfl,rfl⟩
 |false=>
  obtain⟨z1,z2⟩:=h0 hact
  have z3:c.cut*aJ (gI W i-gI A i)=0:=by rw[z1,z2];simp[aJ,iK]
  have s0:sI L i (gI L i)=L:=oU ⟨by omega,by omega⟩
  cases hfirm:c.firm with
  |true=>
   simp only[if_true,aiT,if_false]
   rw[z3,e4 _ (by omega) (by omega),z3,ai7,aeO,s0]
   exact⟨rfl,rfl⟩
  |false=>
   simp only[aiT,if_false]
   rw[ai7,aeO,s0]
   exact⟨rfl,rfl⟩
theorem nB{α:Type}{l rest:List α}{x:α}{i:Nat}(h:l.drop i=x::rest):l[i]?=some x∧l.drop (i+1)=rest:=by
 have h1:=congrArg (·[0]?) h
 have h2:=congrArg List.tail h
 simp only[List.getElem?_drop,ai5,List.getElem?_cons_zero,List.tail_drop,List.tail_cons]at h1 h2
 exact⟨h1,h2⟩
theorem sG{s:Ac}(hcs:∀c∈s.cons,Gz c=true){hr:Int}{F W A:List Int}(hF:F.length=s.cons.length)(hf:∀i:Nat,-100000000≤gI F i∧gI F i≤100000000)(hw:∀i:Nat,-100000000≤gI W i∧gI W i≤100000000)(ha:∀i:Nat,-100000000≤gI A i∧gI A i≤100000000)
 (h0:∀(i:Nat) c,s.cons[i]?=some c→Gm hr c.lo c.hi=false→gI W i=0∧gI A i=0):∀(rest:List Int) (l:List Ae) (i:Nat) (G:List Int) (fu:Int) (L:List Int),F.drop i=rest→s.cons.drop i=l→L.length=s.cons.length→(∀j:Nat,i≤j→ -3000000000000000000≤gI L j∧gI L j≤3000000000000000000)→
 (lN s hr W A rest i (G,fu,L)).2.2=Iy (Bq hr F W A) l i L
 | [],l,i,G,fu,L,h1,h2,_,_=>by
   have:l=[]:=by
    have:=congrArg List.length h1
    have:=congrArg List.length h2
    simp at *
    exact adA.1 (by omega)
   subst this
   rfl
 |f::rest,l,i,G,fu,L,h1,h2,hL,hb=>by
  obtain⟨a1,a2⟩:=nB h1
  have hi:i<s.cons.length:=by have:=(ac5.1 a1).1;omega
  cases l with
  |nil=>simp at h2;omega
  |cons c l=>
   obtain⟨b1,b2⟩:=nB h2
   have ef:gI F i=f:=by unfold gI;rw[aaF,a1];rfl
   have ec:vK s.cons i=c:=by unfold vK;rw[b1];rfl
   obtain⟨q1,q2⟩:=rJ (hcs c (aaR b1)) (hr:=hr) (F:=F) (W:=W) (A:=A) (L:=L) (i:=i) (by omega) (hf i) (hw i) (ha i) (hb i (ajB _)) (h0 i c b1)
   simp only[lN,Iy]
   rw[ec,←ef,q2,q1]
   refine sG hcs hF hf hw ha h0 rest l (i+1) _ _ _ a2 b2 (by rw[Bi];exact hL) (fun j hj=>?_)
   rw[Sm,if_neg (by simp only[aaF];omega)]
   exact hb j (by omega)
structure StI(s:Ac)(own:Int)(G L:List Int)(O:List Ab)(B:Int):Prop where
 g:oZ s.cons G
 l:L.length=s.cons.length
 lok:LOK B L
 own: -B≤own∧own≤B
 owed:∀t∈O,yG s.cons.length t
 olen:O.length≤50
structure aeZ(s:Ac)(d:Aq)(hr own fuel:Int)(z:Au)(G L:List Int)(O:List Ab)(B:Int):Prop where
 rg:RG s hr G L O=(G1 s hr G L O,L1 s hr G L O,O1 s hr G L O)
 g1:oZ s.cons (G1 s hr G L O)
 l1:(L1 s hr G L O).length=s.cons.length∧LOK (B+50000000000000) (L1 s hr G L O)
 rt:RT s d hr G L O=T2 s d hr G L O
 g2:oZ s.cons (T2 s d hr G L O).1
 rw:RW s d hr G L O=W3 s d hr G L O
 w3:∀(i:Nat) c,s.cons[i]?=some c→ -(gI (T2 s d hr G L O).1 i)≤gI (W3 s d hr G L O) i∧gI (W3 s d hr G L O) i≤c.space-gI (T2 s d hr G L O).1 i
 w0:∀(i:Nat) c,s.cons[i]?=some c→Gm hr c.lo c.hi=false→gI (W3 s d hr G L O) i=0
 ra:RA s d hr z G L O=A4 s d hr z G L O
 a4:∀i:Nat,uF (gI (W3 s d hr G L O) i) (gI (A4 s d hr z G L O) i)
 f5:∀i:Nat,uF (gI (A4 s d hr z G L O) i) (gI (F5 s d hr z G L O) i)
 own:aeA z (A4 s d hr z G L O) own=aR s d hr z G L O own
 fin:lN s hr (W3 s d hr G L O) (A4 s d hr z G L O) (F5 s d hr z G L O) 0 ((T2 s d hr G L O).1,fuel,L1 s hr G L O)=((G6 s d hr z G L O fuel).1,(G6 s d hr z G L O fuel).2,L7 s d hr z G L O)
theorem dN{l:List Int}{P:Int→Prop}(h0:P 0)(h:∀i:Nat,P (gI l i)):∀w∈l,P w:=fun w hw=>by
 obtain⟨i,hi,rfl⟩:=List.getElem_of_mem hw
 have:=h i
 unfold gI at this
 rw[aaF,acK hi]at this
 exact this
theorem vB{l:List Int}{i:Nat}(h:l.length≤i):gI l i=0:=by unfold gI;rw[aaF,ajA h];rfl
theorem Rz{s:Ac}{d:Aq}{hr:Int}{G:List Int}:∀(l:List Ae) (i j:Nat) c,l[j]?=some c→(Qk s d hr G l i)[j]?=some (Qy s d hr G (i+j) c)
 | [],_,j,c,h=>by simp at h
 |x::l,i,0,c,h=>by simp at h;subst h;rfl
 |x::l,i,j+1,c,h=>by
  have:=Rz (s:=s) (d:=d) (hr:=hr) (G:=G) l (i+1) j c (by simpa using h)
  simp only[Qk,ai6]
  rw[this,show i+1+j=i+(j+1) by omega]
theorem aeF{s:Ac}(h1:Ft s=true){d:Aq}(h3:Nb s.cons.length d=true){hr own fuel:Int}{z:Au}{G L:List Int}{O:List Ab}{B:Int}(hB:0≤B∧B≤2000000000000000000)(I:StI s own G L O B)(hz:d.hours[hr.toNat]?=some z):aeZ s d hr own fuel z G L O B:=by
 have S:=Vx h1
 have hcs:∀c∈s.cons,Gz c=true:=acZ.1 (Oq h1)
 have hl:=S.len
 simp only[Nb,abL,decide_eq_true_eq]at h3
 obtain⟨⟨⟨⟨⟨d1,d2⟩,d3⟩,d4⟩,d5⟩,d6⟩:=h3
 have hT:∀t∈d.trades,yG s.cons.length t:=fun t ht=>tok (by omega) (acZ.1 d6 t ht)
 have hzb:=acZ.1 d4 z (aaR hz)
 simp only[Su,Gm,abL,decide_eq_true_eq]at hzb
 obtain⟨⟨⟨z1,z2⟩,z3⟩,z4⟩:=hzb
 have ol:=I.olen
 obtain⟨q1,q2,q3,q4⟩:=kU hcs hr I.owed [] I.g (B:=B) hB.1 (by omega) I.l I.lok
 have rg:RG s hr G L O=(G1 s hr G L O,L1 s hr G L O,O1 s hr G L O):=q1
 have rt:RT s d hr G L O=T2 s d hr G L O:=by
  unfold RT T2;rw[rg]
 have g2:oZ s.cons (T2 s d hr G L O).1:=Zf hcs hr hT 0 _ _ q2
 have hW:=jW (s:=s) (hr:=hr) d5 s.cons 0 [] rfl hcs (fun j c hj=>by rw[ac4];exact g2.inn j c hj)
 rw[ajY,ajY]at hW
 have rw_:RW s d hr G L O=W3 s d hr G L O:=by
  unfold RW W3;rw[rt];exact hW.symm
 have wl:(W3 s d hr G L O).length=s.cons.length:=by rw[←rw_];unfold RW;rw[Rk]
 have wget:∀(i:Nat) c,s.cons[i]?=some c→gI (W3 s d hr G L O) i=Qy s d hr (T2 s d hr G L O).1 i c:=fun i c hc=>by
  have:=Rz (s:=s) (d:=d) (hr:=hr) (G:=(T2 s d hr G L O).1) s.cons 0 i c hc
  rw[←rw_];unfold RW gI
  rw[rt,aaF,this,ac4];rfl
 have w3:∀(i:Nat) c,s.cons[i]?=some c→ -(gI (T2 s d hr G L O).1 i)≤gI (W3 s d hr G L O) i∧gI (W3 s d hr G L O) i≤c.space-gI (T2 s d hr G L O).1 i:=fun i c hc=>by
  have gi:=g2.inn i c hc
  rw[wget i c hc]
  unfold Qy
  split
  ·exact(xZ (hcs c (aaR hc)) (nT d5 _) gi.1 gi.2).2
  ·omega
 have w0:∀(i:Nat) c,s.cons[i]?=some c→Gm hr c.lo c.hi=false→gI (W3 s d hr G L O) i=0:=fun i c hc ha=>by
  rw[wget i c hc];unfold Qy;rw[ha];simp
 have wb:∀i:Nat,-100000000≤gI (W3 s d hr G L O) i∧gI (W3 s d hr G L O) i≤100000000:=fun i=>by
  by_cases hi:i<s.cons.length
  ·have hc:s.cons[i]?=some s.cons[i]:=acK hi
   have a:=w3 i _ hc
   have b:=g2.inn i _ hc
   have c:=(Lm (hcs _ (aaR hc))).space
   omega
  ·rw[vB (by omega)];omega
 have wm:∀w∈W3 s d hr G L O,-100000000≤w∧w≤100000000:=dN (P:=fun w=> -100000000≤w∧w≤100000000) (by omega) wb
 have ra:RA s d hr z G L O=A4 s d hr z G L O:=by
  unfold RA A4
  rw[rw_]
  refine(uA ?_ _ _).symm
  simp only[wX,acZ,Gm,abL,decide_eq_true_eq]
  exact wm
 have a4:∀i:Nat,uF (gI (W3 s d hr G L O) i) (gI (A4 s d hr z G L O) i):=fun i=>by
  rw[←ra];unfold RA;rw[rw_]
  exact ac8 wm wl (by omega) z1 z2 i
 have al:(A4 s d hr z G L O).length=s.cons.length:=by
  rw[←ra];unfold RA;rw[rw_];simp[Fj,Zv,wl]
 have ab:∀i:Nat,-100000000≤gI (A4 s d hr z G L O) i∧gI (A4 s d hr z G L O) i≤100000000:=fun i=>by
  have a:=a4 i
  have b:=wb i
  unfold uF at a
  by_cases hp:0≤gI (W3 s d hr G L O) i
  ·have:=a.1 hp;omega
  ·have:=a.2 (by omega);omega
 have am:=dN (P:=fun w=> -100000000≤w∧w≤100000000) (by omega) ab
 have f5:∀i:Nat,uF (gI (A4 s d hr z G L O) i) (gI (F5 s d hr z G L O) i):=fun i=>ajK am (by omega) z3.1 z4.1 i
 have fb:∀i:Nat,-100000000≤gI (F5 s d hr z G L O) i∧gI (F5 s d hr z G L O) i≤100000000:=fun i=>by
  have a:=f5 i
  have b:=ab i
  unfold uF at a
  by_cases hp:0≤gI (A4 s d hr z G L O) i
  ·have:=a.1 hp;omega
  ·have:=a.2 (by omega);omega
 have fm:=dN (P:=fun w=> -100000000≤w∧w≤100000000) (by omega) fb
 have fl:(F5 s d hr z G L O).length=s.cons.length:=by
  show(RF z (A4 s d hr z G L O)).length=_
  simp[RF,Bo,Dt,al]
 have a0:∀(i:Nat) c,s.cons[i]?=some c→Gm hr c.lo c.hi=false→gI (W3 s d hr G L O) i=0∧gI (A4 s d hr z G L O) i=0:=fun i c hc ha=>by
  have w:=w0 i c hc ha
  have a:=a4 i
  rw[w]at a
  have:=a.1 (by omega)
  exact⟨w,by omega⟩
 have own:=(adK am (by omega) z3 z4 (own:=own) (by have:=I.own;omega)).1
 have l1:LOK (B+50000000000000) (L1 s hr G L O):=fun i=>by
  have:=q4 i
  have e:(L1 s hr G L O)=(Bz s.cons hr O (G,L,[])).2.1:=rfl
  rw[←e]at this
  omega
 have fin1:=ahE (s:=s) S.fuel hr (W3 s d hr G L O) (A4 s d hr z G L O) (F5 s d hr z G L O) 0 (T2 s d hr G L O).1 fuel (L1 s hr G L O) fm (fun j _ hj=>by
  rw[ac4,fl]at hj
  have hc:s.cons[j]?=some s.cons[j]:=acK hj
  have b:=g2.inn j _ hc
  have c:=(Lm (hcs _ (aaR hc))).space
  omega)
 have fin2:=sG (s:=s) hcs (hr:=hr) fl fb wb ab a0 (F5 s d hr z G L O) s.cons 0 (T2 s d hr G L O).1 fuel (L1 s hr G L O) rfl rfl q3 (fun j _=>by have:=l1 j;omega)
 refine⟨rg,q2,⟨q3,l1⟩,rt,g2,rw_,w3,w0,ra,a4,f5,own.symm,?_⟩
 exact Prod.ext fin1.1 (Prod.ext fin1.2 fin2)
theorem zC:∀(l:List Int) (k:Nat) (v:Int),k<l.length→(l.set k v).sum=l.sum-(l[k]?).getD 0+v
 | [],k,_,h=>by simp at h
 |x::l,0,v,_=>by simp;omega
 |x::l,k+1,v,h=>by
  have:=zC l k v (by simpa using h)
  simp only[List.set_cons_succ,am2,ai6]
  omega
theorem uX{l:List Int}{i:Int}(hi:yI l.length i)(v:Int):(sI l i v).sum=l.sum-gI l i+v:=zC l _ v hi.toNat
theorem iW{l:List Int}{a b:Int}(ha:yI l.length a)(hb:yI l.length b)(hab:a≠b)(n m:Int)(hn:n=m):(sI (sI l a (gI l a-n)) b (gI l b+m)).sum=l.sum:=by
 rw[uX (by rw[Bi];exact hb),uX ha,qB ha.1 hb.1 hab]
 omega
theorem oK{l:List Int}{a b i:Int}(ha:0≤a)(hb:0≤b)(hi:0≤i)(h1:a≠i)(h2:b≠i)(v w:Int):gI (sI (sI l a v) b w) i=gI l i:=by
 rw[qB hb hi h2,qB ha hi h1]
theorem eD{cs:List Ae}(hcs:∀c∈cs,Gz c=true)(hr:Int):∀{O:List Ab},(∀t∈O,yG cs.length t)→∀{G L:List Int} (p:List Ab) {B:Int},oZ cs G→0≤B→B+1000000000000*O.length≤4000000000000000000→L.length=cs.length→LOK B L→
 (Bz cs hr O (G,L,p)).1.sum=G.sum∧(Bz cs hr O (G,L,p)).2.1.sum=L.sum∧∀i:Int,0≤i→(∀t∈O,t.back=hr→t.frm≠i∧t.to≠i)→gI (Bz cs hr O (G,L,p)).1 i=gI G i∧gI (Bz cs hr O (G,L,p)).2.1 i=gI L i
 | [],_,G,L,p,B,hG,h0,hB,hLl,hL=>⟨rfl,rfl,fun _ _ _=>⟨rfl,rfl⟩⟩
 |t::O,hO,G,L,p,B,hG,h0,hB,hLl,hL=>by
  have T:=hO t (abT ..)
  have hO':∀t∈O,yG cs.length t:=fun t ht=>hO t (aaV _ ht)
  simp only[acY]at hB
  by_cases hb:t.back=hr
  ·obtain⟨r1,_,r3,_,g,l,_⟩:=yR hcs T hG (B:=B) ⟨h0,by omega⟩ hLl hL
   simp only[Bz,hb,if_true]
   obtain⟨a,b,c⟩:=eD hcs hr hO' p g (by omega) (by omega) (by rw[Nr];exact hLl) l
   have i1:=T.ok.1
   have i2:=T.ok.2
   refine⟨?_,?_,fun i hi h=>?_⟩
   ·rw[a,r1]
    exact iW (by rw[hG.len];exact i2) (by rw[hG.len];exact i1) (Ne.symm T.ne) _ _ rfl
   ·rw[b,r3]
    have e:gI L t.frm-lT cs t G=gI L t.frm+ -(lT cs t G):=by omega
    have e2:gI L t.to+lT cs t G=gI L t.to - -(lT cs t G):=by omega
    rw[e,e2]
    exact iW (by rw[hLl];exact i2) (by rw[hLl];exact i1) (Ne.symm T.ne) _ _ rfl
   ·have k:=h t (abT ..) hb
    have c':=c i hi (fun t ht=>h t (aaV _ ht))
    rw[c'.1,c'.2,r1,r3,oK i2.1 i1.1 hi k.2 k.1,oK i2.1 i1.1 hi k.2 k.1]
    exact⟨rfl,rfl⟩
  ·simp only[Bz,hb,if_false]
   obtain⟨a,b,c⟩:=eD hcs hr hO' (p++[t]) hG h0 (by omega) hLl hL
   exact⟨a,b,fun i hi h=>c i hi (fun t ht=>h t (aaV _ ht))⟩
theorem Wu{cs:List Ae}(hcs:∀c∈cs,Gz c=true)(hr:Int):∀{T:List Ab},(∀t∈T,yG cs.length t)→∀{G:List Int} (i:Nat) (O:List Ab) (R:List Int),oZ cs G→
 (Bd cs hr T i (G,O,R)).1.sum=G.sum∧∀j:Int,0≤j→(∀t∈T,t.hour=hr→t.frm≠j∧t.to≠j)→gI (Bd cs hr T i (G,O,R)).1 j=gI G j
 | [],_,G,i,O,R,hG=>⟨rfl,fun _ _ _=>rfl⟩
 |t::T,hT,G,i,O,R,hG=>by
  have hT':∀t∈T,yG cs.length t:=fun t ht=>hT t (aaV _ ht)
  have K:=hT t (abT ..)
  simp only[Bd]
  split
  ·rename_i hh
   have hh':t.hour=hr:=by simpa using hh
   split
   ·obtain⟨a,b⟩:=Wu hcs hr hT' (i+1) O (R++[(i:Int)]) hG
    exact⟨a,fun j hj h=>b j hj (fun t ht=>h t (aaV _ ht))⟩
   ·rename_i hno
    obtain⟨ct,hct,gt0,gt1⟩:=hG.at K.ok.2
    obtain⟨cf,hcf,gf0,gf1⟩:=hG.at K.ok.1
    have sp1:=(Lm (hcs ct (aaR hct))).space
    have sp2:=(Lm (hcs cf (aaR hcf))).space
    have hA:=K.amt
    have e:Ic cs t.to=ct.space:=by simp[Ic,hct]
    simp only[Kx,ai8,decide_eq_true_eq,not_or,e]at hno
    obtain⟨⟨n1,n2⟩,_⟩:=hno
    rw[Af (by omega) (by omega)]at n2
    have eG:Kq t G=sI (sI G t.frm (gI G t.frm-t.amount)) t.to (gI G t.to+t.amount):=by
     rw[fD K.ok K.ne,Af (by omega) (by omega),Af (by omega) (by omega)]
    have hG':oZ cs (Kq t G):=by
     rw[eG]
     exact hG.move K.ok.1 K.ok.2 K.ne (by omega) (by omega) (fun c hc=>by rw[hct]at hc;cases hc;omega)
    obtain⟨a,b⟩:=Wu hcs hr hT' (i+1) (if(t.back== -1)=true then O else O++[t]) R hG'
    refine⟨?_,fun j hj h=>?_⟩
    ·rw[a,eG]
     exact iW (by rw[hG.len];exact K.ok.1) (by rw[hG.len];exact K.ok.2) K.ne _ _ rfl
    ·have k:=h t (abT ..) hh'
     rw[b j hj (fun t ht=>h t (aaV _ ht)),eG,oK K.ok.1.1 K.ok.2.1 hj k.1 k.2]
  ·obtain⟨a,b⟩:=Wu hcs hr hT' (i+1) O R hG
   exact⟨a,fun j hj h=>b j hj (fun t ht=>h t (aaV _ ht))⟩
theorem mC{l:List Int}(ha:Oa l)(h8:l.length≤8){m:Int}(h0:0≤m)(h1:m≤l.sum):(Bo m l).sum=m:=by
 unfold Bo
 rw[Qu ha (by omega)]
 have hs:=ha.sum
 by_cases hp:0<l.sum
 ·rw[bZ h0 (by omega) hp ha h8]
  exact aI hp
 ·rw[Yy hp]
  simp
  omega
theorem yL:∀(P N:List Int),P.length=N.length→(∀x∈P,0≤x∧x≤1000000000)→(∀x∈N,0≤x∧x≤1000000000)→(List.zipWith Ui P N).sum=P.sum-N.sum
 | [],[],_,_,_=>rfl
 | [],_::_,h,_,_=>by simp at h
 |_::_,[],h,_,_=>by simp at h
 |x::P,y::N,h,h1,h2=>by
  have a:=h1 x (abT ..)
  have b:=h2 y (abT ..)
  have:=yL P N (by simpa using h) (fun x hx=>h1 x (aaV _ hx)) (fun x hx=>h2 x (aaV _ hx))
  simp only[List.zipWith_cons_cons,am2,this]
  unfold Ui
  rw[Af (by omega) (by omega)]
  omega
theorem zA{l:List Int}(ha:Oa l)(h8:l.length≤8){m:Int}(h0:0≤m)(h1:m≤l.sum):∀x∈Bo m l,0≤x∧x≤1000000000:=fun x hx=>by
 obtain⟨i,hi⟩:=List.getElem?_of_mem hx
 have hl:i<l.length:=by
  have:=(ac5.1 hi).1
  unfold Bo at this
  rwa[Dt]at this
 have hw:l[i]?=some l[i]:=acK hl
 have:=iZ ha h8 h0 h1 hi hw
 have:=ha l[i] (am6 hl)
 omega
theorem ah1{A:List Int}(hl:∀w∈A,-100000000≤w∧w≤100000000)(h8:A.length≤8){z:Au}(h1:0≤z.flowIn)(h2:0≤z.flowOut):
 (RF z A).sum=mn z.flowIn (A.map Cc).sum-mn z.flowOut (A.map Df).sum:=by
 have p:=bG hl
 have q:=bJ hl
 have bp:=p.sum
 have bq:=q.sum
 have m1:0≤mn z.flowIn (A.map Cc).sum∧mn z.flowIn (A.map Cc).sum≤(A.map Cc).sum:=by unfold mn;split<;>omega
 have m2:0≤mn z.flowOut (A.map Df).sum∧mn z.flowOut (A.map Df).sum≤(A.map Df).sum:=by unfold mn;split<;>omega
 unfold RF
 rw[Qu p (by simp;omega),Qu q (by simp;omega)]
 rw[yL _ _ (by unfold Bo;simp[Dt]) (zA p (by simpa using h8) m1.1 m1.2) (zA q (by simpa using h8) m2.1 m2.2)]
 rw[mC p (by simpa using h8) m1.1 m1.2,mC q (by simpa using h8) m2.1 m2.2]
theorem zK{s:Ac}(hf:0≤s.fuel∧s.fuel≤1000):∀(F:List Int) (i:Nat) (G:List Int) (fu:Int),(∀x∈F,-100000000≤x∧x≤100000000)→(∀j:Nat,i≤j→j<i+F.length→0≤gI G j∧gI G j≤100000000)→i+F.length≤G.length→0≤fu→fu+100000000*F.length≤4000000000000000000→
 (Gt s.fuel F i (G,fu)).1.sum+(Gt s.fuel F i (G,fu)).2=G.sum+fu+F.sum∧(fu≤(Gt s.fuel F i (G,fu)).2∧(Gt s.fuel F i (G,fu)).2≤fu+100000000*F.length)∧
 (∀j:Nat,j<i→gI (Gt s.fuel F i (G,fu)).1 j=gI G j)∧(∀j:Nat,j<F.length→gI (Gt s.fuel F i (G,fu)).1 ((i+j:Nat):Int)=gI G ((i+j:Nat):Int)+gI F j-Nw s (gI F j))
 | [],i,G,fu,_,_,_,h0,_=>⟨by simp[Gt],by simp[Gt],fun _ _=>rfl,fun j hj=>by simp at hj⟩
 |f::F,i,G,fu,hF,hG,hi,h0,hB=>by
  have hf1:=hF f (abT ..)
  have hg1:=hG i (ajB _) (by simp)
  obtain⟨e1,e2⟩:=zG hf hf1 hg1
  obtain⟨k1,k2,k3,k4⟩:=oJ hf hf1
  simp only[acY]at hB hi
  have hii:yI G.length (i:Int):=⟨by omega,by omega⟩
  obtain⟨a,b,c,d⟩:=zK hf F (i+1) (sI G i (gI G i+f-Nw s f)) (fu+Nw s f) (fun x hx=>hF x (aaV _ hx)) (fun j h1 h2=>by
   rw[Sm,if_neg (by simp only[aaF];omega)]
   exact hG j (by omega) (by simp only[acY];omega)) (by rw[Bi];omega) (by omega) (by omega)
  simp only[Gt]
  rw[e1,e2,←k1,Af (n:=fu+Nw s f) (by omega) (by omega)]
  refine⟨?_,⟨by omega,by simp only[acY];omega⟩,fun j hj=>?_,fun j hj=>?_⟩
  ·rw[a,uX hii,am2]
   omega
  ·rw[c j (by omega),Sm,if_neg (by simp only[aaF];omega)]
  ·cases j with
   |zero=>
    simp only[ai5]
    rw[c i (by omega),Sm,if_pos ⟨rfl,by rw[aaF];omega⟩]
    rfl
   |succ j=>
    have hj':j<F.length:=by simpa using hj
    have:=d j hj'
    rw[show i+1+j=i+(j+1) by omega]at this
    rw[this,Sm,if_neg (by simp only[aaF];omega)]
    have eg:gI (f::F) ((j+1:Nat):Int)=gI F (j:Int):=by
     unfold gI;rw[aaF,aaF,ai6]
    rw[eg]
theorem nP{s:Ac}{hr:Int}{W A:List Int}:∀(F:List Int) (i:Nat) (G:List Int) (fu:Int) (L:List Int),i+F.length≤L.length→
 (∀j:Nat,j<i→gI (lN s hr W A F i (G,fu,L)).2.2 j=gI L j)∧(∀j:Nat,j<F.length→gI (lN s hr W A F i (G,fu,L)).2.2 ((i+j:Nat):Int)=rA (vK s.cons (i+j)) hr (gI F j) (gI W ((i+j:Nat):Int)) (gI A ((i+j:Nat):Int)) (gI L ((i+j:Nat):Int)))
 | [],i,G,fu,L,_=>⟨fun _ _=>rfl,fun j hj=>by simp at hj⟩
 |f::F,i,G,fu,L,hi=>by
  simp only[acY]at hi
  simp only[lN]
  obtain⟨a,b⟩:=nP (s:=s) (hr:=hr) (W:=W) (A:=A) F (i+1) (sI G i (acG s f (gI G i))) (IntKind.i64.wrap (fu+Nw s f)) (sI L i (rA (vK s.cons i) hr f (gI W i) (gI A i) (gI L i))) (by rw[Bi];omega)
  refine⟨fun j hj=>?_,fun j hj=>?_⟩
  ·rw[a j (by omega),Sm,if_neg (by simp only[aaF];omega)]
  ·cases j with
   |zero=>
    simp only[ai5]
    rw[a i (by omega),Sm,if_pos ⟨rfl,by rw[aaF];omega⟩]
    rfl
   |succ j=>
    have hj':j<F.length:=by simpa using hj
    have:=b j hj'
    rw[show i+1+j=i+(j+1) by omega]at this
    rw[this,Sm,if_neg (by simp only[aaF];omega)]
    have eg:gI (f::F) ((j+1:Nat):Int)=gI F (j:Int):=by
     unfold gI;rw[aaF,aaF,ai6]
    rw[eg]
theorem mT(lead:Int)(l:List Gl)(c h:Int):∀(rest:List Gl) (i:Nat),(∀n∈rest,¬(n.con=c∧n.hour=h))→Kz lead l c h rest (i,-1)= -1
 | [],_,_=>rfl
 |n::rest,i,hn=>by
  have h0:=hn n (abT ..)
  have e:kX lead l c h n i (-1)= -1:=by
   unfold kX
   rw[if_neg]
   simp only[abL,decide_eq_true_eq,beq_iff_eq,not_and,Bool.not_eq_true]at h0 ⊢
   simp_all
  rw[Kz,e]
  exact mT lead l c h rest (i+1) (fun n hn'=>hn n (aaV _ hn'))
def adM(d:Aq)(hr:Int)(O:List Ab)(i:Int):Bool:=
 d.noms.any (fun n=>n.con==i&&n.hour==hr)||d.trades.any (fun t=>t.hour==hr&&(t.frm==i||t.to==i))||O.any (fun t=>t.back==hr&&(t.frm==i||t.to==i))
structure xA(s:Ac)(d:Aq)(hr own fuel:Int)(z:Au)(G L:List Int)(O:List Ab):Prop where
 len:(G6 s d hr z G L O fuel).1.length=s.cons.length∧(L7 s d hr z G L O).length=s.cons.length∧(F5 s d hr z G L O).length=s.cons.length∧(W3 s d hr G L O).length=s.cons.length∧(A4 s d hr z G L O).length=s.cons.length
 gas:oZ s.cons (G6 s d hr z G L O fuel).1
 fu:fuel≤(G6 s d hr z G L O fuel).2∧(G6 s d hr z G L O fuel).2≤fuel+800000000
 ow:own-800000000≤aR s d hr z G L O own∧aR s d hr z G L O own≤own+800000000
 sum:aR s d hr z G L O own+(G6 s d hr z G L O fuel).2+(G6 s d hr z G L O fuel).1.sum=own+fuel+z.flowIn-z.flowOut+G.sum
 lsum:(L1 s hr G L O).sum=L.sum
 flow:∀i:Nat,-100000000≤gI (F5 s d hr z G L O) i∧gI (F5 s d hr z G L O) i≤100000000
 cut:∀i:Nat,-100000000≤gI (W3 s d hr G L O) i∧gI (W3 s d hr G L O) i≤100000000∧ -100000000≤gI (A4 s d hr z G L O) i∧gI (A4 s d hr z G L O) i≤100000000
 bill:∀(i:Nat) c,s.cons[i]?=some c→gI (L7 s d hr z G L O) i=iY c hr (gI (F5 s d hr z G L O) i) (gI (W3 s d hr G L O) i) (gI (A4 s d hr z G L O) i) (gI (L1 s hr G L O) i)
 rest:∀(i:Nat) c,s.cons[i]?=some c→adM d hr O i=false→gI (G6 s d hr z G L O fuel).1 i=gI G i∧gI (F5 s d hr z G L O) i=0∧gI (L7 s d hr z G L O) i=gI L i+if Gm hr c.lo c.hi=true then c.fixed else 0
theorem anK{s:Ac}(hf:0≤s.fuel∧s.fuel≤1000){f:Int}(h: -100000000≤f∧f≤100000000):0≤Nw s f∧(f≤0→Nw s f=0)∧(0≤f→Nw s f≤f):=by
 obtain⟨_,k2,k3,_⟩:=oJ hf h
 have e:Gp f=if 0<f then f else 0:=by unfold Gp iK;split<;>omega
 rw[e]at k3
 refine⟨k2,fun h=>?_,fun h=>?_⟩
 ·rw[if_neg (by omega)]at k3;omega
 ·split at k3<;>omega
theorem ajX{s:Ac}(h1:Ft s=true){d:Aq}(h3:Nb s.cons.length d=true){hr own fuel:Int}{z:Au}{G L:List Int}{O:List Ab}{B:Int}(hB:0≤B∧B≤2000000000000000000)(I:StI s own G L O B)(hfu:0≤fuel∧fuel≤1000000000000000000)(hz:d.hours[hr.toNat]?=some z):xA s d hr own fuel z G L O:=by
 have S:=Vx h1
 have hcs:∀c∈s.cons,Gz c=true:=acZ.1 (Oq h1)
 have hl:=S.len
 have E:=aeF (fuel:=fuel) h1 h3 hB I hz
 have h3':=h3
 simp only[Nb,abL,decide_eq_true_eq]at h3'
 obtain⟨⟨⟨⟨⟨d1,d2⟩,d3⟩,d4⟩,d5⟩,d6⟩:=h3'
 have hT:∀t∈d.trades,yG s.cons.length t:=fun t ht=>tok (by omega) (acZ.1 d6 t ht)
 have hzb:=acZ.1 d4 z (aaR hz)
 simp only[Su,Gm,abL,decide_eq_true_eq]at hzb
 obtain⟨⟨⟨z1,z2⟩,z3⟩,z4⟩:=hzb
 have ol:=I.olen
 obtain⟨p1,p2,p3⟩:=eD hcs hr I.owed [] I.g (B:=B) hB.1 (by omega) I.l I.lok
 obtain⟨t1,t2⟩:=Wu hcs hr hT 0 (O1 s hr G L O) [] E.g1
 have p1':(G1 s hr G L O).sum=G.sum:=p1
 have p2':(L1 s hr G L O).sum=L.sum:=p2
 have t1':(T2 s d hr G L O).1.sum=(G1 s hr G L O).sum:=t1
 have tl:=E.g2.len
 have wl:(W3 s d hr G L O).length=s.cons.length:=by rw[←E.rw];unfold RW;rw[Rk]
 have al:(A4 s d hr z G L O).length=s.cons.length:=by
  rw[←E.ra];unfold RA;rw[E.rw];simp[Fj,Zv,wl]
 have wb:∀i:Nat,-100000000≤gI (W3 s d hr G L O) i∧gI (W3 s d hr G L O) i≤100000000:=fun i=>by
  by_cases hi:i<s.cons.length
  ·have hc:s.cons[i]?=some s.cons[i]:=acK hi
   have a:=E.w3 i _ hc
   have b:=E.g2.inn i _ hc
   have c:=(Lm (hcs _ (aaR hc))).space
   omega
  ·rw[vB (by omega)];omega
 have ab:∀i:Nat,-100000000≤gI (A4 s d hr z G L O) i∧gI (A4 s d hr z G L O) i≤100000000:=fun i=>by
  have a:=E.a4 i
  have b:=wb i
  unfold uF at a
  by_cases hp:0≤gI (W3 s d hr G L O) i
  ·have:=a.1 hp;omega
  ·have:=a.2 (by omega);omega
 have am:=dN (P:=fun w=> -100000000≤w∧w≤100000000) (by omega) ab
 have fb:∀i:Nat,-100000000≤gI (F5 s d hr z G L O) i∧gI (F5 s d hr z G L O) i≤100000000:=fun i=>by
  have a:=E.f5 i
  have b:=ab i
  unfold uF at a
  by_cases hp:0≤gI (A4 s d hr z G L O) i
  ·have:=a.1 hp;omega
  ·have:=a.2 (by omega);omega
 have fm:=dN (P:=fun w=> -100000000≤w∧w≤100000000) (by omega) fb
 have fl:(F5 s d hr z G L O).length=s.cons.length:=by
  show(RF z (A4 s d hr z G L O)).length=_
  simp[RF,Bo,Dt,al]
 have fsum:(F5 s d hr z G L O).sum=mn z.flowIn ((A4 s d hr z G L O).map Cc).sum-mn z.flowOut ((A4 s d hr z G L O).map Df).sum:=ah1 am (by omega) z3.1 z4.1
 obtain⟨o1,o2,o3,o4⟩:=adK am (by omega) z3 z4 (own:=own) (by have:=I.own;omega)
 have oe:aR s d hr z G L O own=own+(z.flowIn-mn z.flowIn ((A4 s d hr z G L O).map Cc).sum)-(z.flowOut-mn z.flowOut ((A4 s d hr z G L O).map Df).sum):=o1.trans o2
 obtain⟨g1,g2,_,g4⟩:=zK (s:=s) S.fuel (F5 s d hr z G L O) 0 (T2 s d hr G L O).1 fuel fm (fun j _ hj=>by
  rw[ac4,fl]at hj
  have hc:s.cons[j]?=some s.cons[j]:=acK hj
  have b:=E.g2.inn j _ hc
  have c:=(Lm (hcs _ (aaR hc))).space
  omega) (by omega) hfu.1 (by omega)
 have gl:(G6 s d hr z G L O fuel).1.length=s.cons.length:=by unfold G6;rw[Ys,tl]
 have ge:∀(i:Nat) c,s.cons[i]?=some c→gI (G6 s d hr z G L O fuel).1 i=gI (T2 s d hr G L O).1 i+gI (F5 s d hr z G L O) i-Nw s (gI (F5 s d hr z G L O) i):=fun i c hc=>by
  have hi:=(ac5.1 hc).1
  have:=g4 i (by omega)
  rw[ac4]at this
  exact this
 have gr:∀(i:Nat) c,s.cons[i]?=some c→0≤gI (G6 s d hr z G L O fuel).1 i∧gI (G6 s d hr z G L O fuel).1 i≤c.space:=fun i c hc=>by
  rw[ge i c hc]
  have a:=E.w3 i c hc
  have b:=E.g2.inn i c hc
  have x:=E.a4 i
  have y:=E.f5 i
  obtain⟨u1,u2,u3⟩:=anK S.fuel (fb i)
  unfold uF at x y
  by_cases hp:0≤gI (W3 s d hr G L O) i
  ·have x1:=x.1 hp
   have y1:=y.1 x1.1
   have:=u3 y1.1
   omega
  ·have x1:=x.2 (by omega)
   have y1:=y.2 x1.2
   have:=u2 y1.2
   omega
 have be:∀(i:Nat) c,s.cons[i]?=some c→gI (L7 s d hr z G L O) i=iY c hr (gI (F5 s d hr z G L O) i) (gI (W3 s d hr G L O) i) (gI (A4 s d hr z G L O) i) (gI (L1 s hr G L O) i):=fun i c hc=>by
  have hi:=(ac5.1 hc).1
  have l1:=E.l1
  have:=(nP (s:=s) (hr:=hr) (W:=W3 s d hr G L O) (A:=A4 s d hr z G L O) (F5 s d hr z G L O) 0 (T2 s d hr G L O).1 fuel (L1 s hr G L O) (by omega)).2 i (by omega)
  rw[E.fin,ac4]at this
  rw[this,show vK s.cons i=c by unfold vK;rw[hc];rfl]
  have hb:=l1.2 i
  refine(rJ (hcs c (aaR hc)) (by omega) (fb i) (wb i) (ab i) (by omega) (fun ha=>?_)).2
  have w:=E.w0 i c hc ha
  have a:=E.a4 i
  unfold uF at a
  rw[w]at a
  have:=a.1 (by omega)
  exact⟨w,by omega⟩
 refine⟨⟨gl,?_,fl,wl,al⟩,⟨gl,gr⟩,?_,?_,?_,p2',fb,fun i=>⟨(wb i).1,(wb i).2,ab i⟩,be,fun i c hc ht=>?_⟩
 ·unfold L7;rw[Wb,E.l1.1]
 ·have:fuel≤(G6 s d hr z G L O fuel).2∧(G6 s d hr z G L O fuel).2≤fuel+100000000*(F5 s d hr z G L O).length:=g2
  rw[fl]at this
  omega
 ·rw[oe];omega
 ·have q:(G6 s d hr z G L O fuel).1.sum+(G6 s d hr z G L O fuel).2=(T2 s d hr G L O).1.sum+fuel+(F5 s d hr z G L O).sum:=g1
  rw[oe];omega
 ·simp only[adM,Bool.or_eq_false_iff,List.any_eq_false,abL,ai8,beq_iff_eq,not_and,not_or]at ht
  obtain⟨⟨n1,n2⟩,n3⟩:=ht
  have q1:=p3 i (by omega) n3
  have q2:=t2 i (by omega) n2
  have q1':gI (G1 s hr G L O) i=gI G i:=q1.1
  have q3':gI (L1 s hr G L O) i=gI L i:=q1.2
  have q2':gI (T2 s d hr G L O).1 i=gI (G1 s hr G L O) i:=q2
  have w:gI (W3 s d hr G L O) i=0:=by
   have:=Rz (s:=s) (d:=d) (hr:=hr) (G:=(RT s d hr G L O).1) s.cons 0 i c hc
   rw[←E.rw];unfold RW gI
   rw[aaF,this,ac4]
   unfold Qy
   rw[mT s.lead d.noms i hr d.noms 0 (fun n hn q=>n1 n hn q.1 q.2)]
   rfl
  have a:=E.a4 i
  unfold uF at a
  rw[w]at a
  have a0:=a.1 (by omega)
  have f:=E.f5 i
  unfold uF at f
  have f0:=f.1 (by omega)
  have f0:gI (F5 s d hr z G L O) i=0:=by omega
  refine⟨?_,f0,?_⟩
  ·rw[ge i c hc,f0,(anK S.fuel (f:=0) (by omega)).2.1 (by omega)]
   omega
  ·rw[be i c hc,f0,w,show gI (A4 s d hr z G L O) i=0 by omega,q3']
   unfold iY
   simp[Gp,Jf,aJ,iK,Af]
structure Kv where
 nW:Bool
 wants:List Int
 nA:Bool
 grants:List Int
 nF:Bool
 flows:List Int
 nR:Bool
 refused:List Int
abbrev Kv.cells(x:Kv):List AV:=[Bj 1 true x.nW (x.wants.map iv),Bj 1 true x.nA (x.grants.map iv),Bj 1 true x.nF (x.flows.map iv),Bj 1 true x.nR (x.refused.map iv)]
def nxt(s:Ac)(d:Aq)(z:Au)(y:Gf):Gf:=
 ⟨y.hour+1,false,(G6 s d y.hour z y.gas y.bills y.owed y.fuel).1,aR s d y.hour z y.gas y.bills y.owed y.own,(G6 s d y.hour z y.gas y.bills y.owed y.fuel).2,false,L7 s d y.hour z y.gas y.bills y.owed,false,(T2 s d y.hour y.gas y.bills y.owed).2.1⟩
def flw(s:Ac)(d:Aq)(z:Au)(y:Gf):Kv:=
 ⟨false,W3 s d y.hour y.gas y.bills y.owed,false,A4 s d y.hour z y.gas y.bills y.owed,false,F5 s d y.hour z y.gas y.bills y.owed,false,(T2 s d y.hour y.gas y.bills y.owed).2.2⟩
def Gf.as(y:Gf)(g l o:Bool):Gf:={ y with nG:=g,nL:=l,nO:=o }
def Kv.as(x:Kv)(w a f r:Bool):Kv:={ x with nW:=w,nA:=a,nF:=f,nR:=r }
theorem zF{st:Nat}(rows:List (List AV)):Bj st true true rows=.imm st true rows:=by cases rows<;>rfl
theorem Xf{w:Bool}{l:List Int}:Rnm (gY w l):=fun _=>⟨_,rfl⟩
theorem ahW{w:Bool}{l:List Ab}:Rnm (lv5 w l):=fun _=>⟨_,rfl⟩
theorem Md{h:Aa}{b n d:Nat}{w:Bool}{l:List Int}(hb:h[b]?=some (gY w l))(hn:n=l.length):rd (d+1) (hf h) (.slr 1 b 0 n)=some (Bj 1 true true (l.map iv),[b]):=by
 rw[zF];exact zE (by show(h[b]?).bind Da=_;rw[hb];rfl) (by simpa using hn)
theorem atB{h:Aa}{b n d:Nat}{w:Bool}{l:List Ab}(hb:h[b]?=some (lv5 w l))(hn:n=l.length):rd (d+1) (hf h) (.slr 5 b 0 n)=some (Bj 5 true true (l.map Ab.cells),[b]):=by
 rw[zF];exact zE (by show(h[b]?).bind Da=_;rw[hb];rfl) (by simpa using hn)
theorem iG{h:Aa}{d st:Nat}{α:Type}{l:List α}{f:α→List AV}(hl:l=[]):rd (d+1) (hf h) .nils=some (Bj st true false (l.map f),[]):=by subst hl;rfl
theorem afX{O:Ez}{f:Nat}{vs:List AV}{n:Nat}{hr own fuel:Int}{G L R W A F:List Int}{T:List Ab}(lG:G.length=n)(lL:L.length=n)(lW:W.length=n)(lA:A.length=n)(lF:F.length=n)
 (h:Uu O f vs [] (xO n hr own fuel G L T R W A F)):∃o r,RdT O f vs [.agg (Gf.cells ⟨hr,true,G,own,fuel,true,L,o,T⟩),.agg (Kv.cells ⟨true,W,true,A,true,F,r,R⟩)] 7:=by
 obtain⟨o,h',e,w1,w2,w3,w4,w5,w6,w7,hq⟩:=h
 rcases hq with⟨hT,hR,rfl,rfl⟩|⟨hR,rfl,rfl⟩|⟨hT,hR,rfl,rfl⟩|⟨hR,rfl,rfl⟩
 ·exact⟨false,false,_,_,_,e,Ag (Lr (Ag (Gx ..) (Ag (Md rfl lG.symm) (Ag (Gx ..) (Ag (Gx ..) (Ag (Md rfl lL.symm) (Ag (iG hT) Ig))))))) (Ag (Lr (Ag (Md rfl lW.symm) (Ag (Md rfl lA.symm) (Ag (Md rfl lF.symm) (Ag (iG hR) Ig))))) Ig),by simp,fun c hc=>by
   simp only[ac2,ac3,or_false]at hc
   rcases hc with rfl|rfl|rfl|rfl|rfl<;>exact Xf⟩
 ·exact⟨true,false,_,_,_,e,Ag (Lr (Ag (Gx ..) (Ag (Md rfl lG.symm) (Ag (Gx ..) (Ag (Gx ..) (Ag (Md rfl lL.symm) (Ag (atB rfl rfl) Ig))))))) (Ag (Lr (Ag (Md rfl lW.symm) (Ag (Md rfl lA.symm) (Ag (Md rfl lF.symm) (Ag (iG hR) Ig))))) Ig),by simp,fun c hc=>by
   simp only[ac2,ac3,or_false]at hc
   rcases hc with rfl|rfl|rfl|rfl|rfl|rfl<;>first|exact Xf|exact ahW⟩
 ·exact⟨false,true,_,_,_,e,Ag (Lr (Ag (Gx ..) (Ag (Md rfl lG.symm) (Ag (Gx ..) (Ag (Gx ..) (Ag (Md rfl lL.symm) (Ag (iG hT) Ig))))))) (Ag (Lr (Ag (Md rfl lW.symm) (Ag (Md rfl lA.symm) (Ag (Md rfl lF.symm) (Ag (Md rfl rfl) Ig))))) Ig),by simp,fun c hc=>by
   simp only[ac2,ac3,or_false]at hc
   rcases hc with rfl|rfl|rfl|rfl|rfl|rfl<;>exact Xf⟩
 ·exact⟨true,true,_,_,_,e,Ag (Lr (Ag (Gx ..) (Ag (Md rfl lG.symm) (Ag (Gx ..) (Ag (Gx ..) (Ag (Md rfl lL.symm) (Ag (atB rfl rfl) Ig))))))) (Ag (Lr (Ag (Md rfl lW.symm) (Ag (Md rfl lA.symm) (Ag (Md rfl lF.symm) (Ag (Md rfl rfl) Ig))))) Ig),by simp,fun c hc=>by
   simp only[ac2,ac3,or_false]at hc
   rcases hc with rfl|rfl|rfl|rfl|rfl|rfl|rfl<;>first|exact Xf|exact ahW⟩
theorem au1{O:Ez}{f:Nat}{vs:List AV}{hr own fuel:Int}(h:Uu O f vs [] (ZQ hr own fuel)):∃g l w,RdT O f vs [.agg (Gf.cells ⟨hr,g,[],own,fuel,l,[],false,[]⟩),.agg (Kv.cells ⟨w,[],false,[],false,[],false,[]⟩)] 7:=by
 obtain⟨o,h',e,w1,w2,w3,hq⟩:=h
 rcases hq with⟨rfl,rfl⟩|⟨rfl,rfl⟩|⟨rfl,rfl⟩|⟨rfl,rfl⟩
 ·exact⟨false,false,true,_,_,_,e,Ag (Lr (Ag (Gx ..) (Ag (iG rfl) (Ag (Gx ..) (Ag (Gx ..) (Ag (iG rfl) (Ag (iG rfl) Ig))))))) (Ag (Lr (Ag (Md (w:=w3) (l:=[]) rfl rfl) (Ag (iG rfl) (Ag (iG rfl) (Ag (iG rfl) Ig))))) Ig),by simp,fun c hc=>by
   simp only[ac2,ac3,or_false]at hc
   rcases hc with rfl;exact Xf (l:=[])⟩
 ·exact⟨true,false,true,_,_,_,e,Ag (Lr (Ag (Gx ..) (Ag (Md (w:=w1) (l:=[]) rfl rfl) (Ag (Gx ..) (Ag (Gx ..) (Ag (iG rfl) (Ag (iG rfl) Ig))))))) (Ag (Lr (Ag (Md (w:=w3) (l:=[]) rfl rfl) (Ag (iG rfl) (Ag (iG rfl) (Ag (iG rfl) Ig))))) Ig),by simp,fun c hc=>by
   simp only[ac2,ac3,or_false]at hc
   rcases hc with rfl|rfl<;>exact Xf (l:=[])⟩
 ·exact⟨false,true,true,_,_,_,e,Ag (Lr (Ag (Gx ..) (Ag (iG rfl) (Ag (Gx ..) (Ag (Gx ..) (Ag (Md (w:=w2) (l:=[]) rfl rfl) (Ag (iG rfl) Ig))))))) (Ag (Lr (Ag (Md (w:=w3) (l:=[]) rfl rfl) (Ag (iG rfl) (Ag (iG rfl) (Ag (iG rfl) Ig))))) Ig),by simp,fun c hc=>by
   simp only[ac2,ac3,or_false]at hc
   rcases hc with rfl|rfl<;>exact Xf (l:=[])⟩
 ·exact⟨true,true,true,_,_,_,e,Ag (Lr (Ag (Gx ..) (Ag (Md (w:=w1) (l:=[]) rfl rfl) (Ag (Gx ..) (Ag (Gx ..) (Ag (Md (w:=w2) (l:=[]) rfl rfl) (Ag (iG rfl) Ig))))))) (Ag (Lr (Ag (Md (w:=w3) (l:=[]) rfl rfl) (Ag (iG rfl) (Ag (iG rfl) (Ag (iG rfl) Ig))))) Ig),by simp,fun c hc=>by
   simp only[ac2,ac3,or_false]at hc
   rcases hc with rfl|rfl|rfl<;>exact Xf (l:=[])⟩
theorem Tu(cs:List Ae)(hr:Int):∀(T:List Ab) (i:Nat) (G:List Int) (O:List Ab) (R:List Int),O.length≤50→
 (Bd cs hr T i (G,O,R)).2.1.length≤50∧(∀t∈(Bd cs hr T i (G,O,R)).2.1,t∈O∨t∈T)∧(Bd cs hr T i (G,O,R)).2.2.length≤R.length+T.length
 | [],_,_,O,R,h=>⟨h,fun t ht=>.inl ht,by simp[Bd]⟩
 |t::T,i,G,O,R,h=>by
  simp only[Bd]
  split
  ·split
   ·obtain⟨a,b,c⟩:=Tu cs hr T (i+1) G O (R++[(i:Int)]) h
    refine⟨a,fun x hx=>(b x hx).imp id (aaV _),?_⟩
    simp only[List.length_append,acY,am3]at c ⊢;omega
   ·rename_i hno
    have hO:(if(t.back== -1)=true then O else O++[t]).length≤50:=by
     split
     ·exact h
     ·rename_i hb
      simp[Kx,hb]at hno
      simp;omega
    obtain⟨a,b,c⟩:=Tu cs hr T (i+1) (Kq t G) (if(t.back== -1)=true then O else O++[t]) R hO
    refine⟨a,fun x hx=>?_,by simp only[acY];omega⟩
    rcases b x hx with h1|h1
    ·split at h1
     ·exact .inl h1
     ·rcases List.mem_append.1 h1 with h1|h1
      ·exact .inl h1
      ·simp at h1;subst h1;exact .inr (abT ..)
    ·exact .inr (aaV _ h1)
  ·obtain⟨a,b,c⟩:=Tu cs hr T (i+1) G O R h
   exact⟨a,fun x hx=>(b x hx).imp id (aaV _),by simp only[acY];omega⟩
structure xB(s:Ac)(k:Nat)(y:Gf):Prop where
 hour:y.hour=k
 i:StI s y.own y.gas y.bills y.owed (100000000000000*(k+1))
 fuel:0≤y.fuel∧y.fuel≤800000000*k
theorem xB.of{s:Ac}{k:Nat}{y y':Gf}(I:xB s k y)(h1:y'.hour=y.hour)(h2:y'.gas=y.gas)(h3:y'.own=y.own)(h4:y'.fuel=y.fuel)(h5:y'.bills=y.bills)(h6:y'.owed=y.owed):xB s k y':=by
 obtain⟨a,b,c⟩:=I
 exact⟨by rw[h1];exact a,by rw[h2,h3,h5,h6];exact b,by rw[h4];exact c⟩
theorem Zd{n:Int}{d:Aq}(h3:Nb n d=true){k:Nat}{z:Au}(hz:d.hours[k]?=some z):k<48∧(0≤z.inn∧0≤z.out)∧(0≤z.flowIn∧z.flowIn≤800000000)∧(0≤z.flowOut∧z.flowOut≤800000000):=by
 simp only[Nb,Su,Gm,abL,decide_eq_true_eq,acZ]at h3
 have D:=h3.1.1.2 z (aaR hz)
 have:=(ac5.1 hz).1
 exact⟨by omega,⟨D.1.1.1.1,D.1.1.2.1⟩,D.1.2,D.2⟩
theorem Yd{s:Ac}(h1:Ft s=true){d:Aq}(h3:Nb s.cons.length d=true){k:Nat}{y:Gf}(I:xB s k y){z:Au}(hz:d.hours[k]?=some z):xB s (k+1) (nxt s d z y)∧aeZ s d y.hour y.own y.fuel z y.gas y.bills y.owed (100000000000000*(k+1))∧xA s d y.hour y.own y.fuel z y.gas y.bills y.owed:=by
 have S:=Vx h1
 have hcs:∀c∈s.cons,Gz c=true:=acZ.1 (Oq h1)
 have hD:=Zd h3 hz
 have hz':d.hours[y.hour.toNat]?=some z:=by rw[I.hour];exact hz
 have E:=aeF (fuel:=y.fuel) h1 h3 (B:=100000000000000*(k+1)) (by omega) I.i hz'
 have W:=ajX (fuel:=y.fuel) h1 h3 (B:=100000000000000*(k+1)) (by omega) I.i (by have:=I.fuel;omega) hz'
 have hO1:(O1 s y.hour y.gas y.bills y.owed).length≤50∧∀t∈O1 s y.hour y.gas y.bills y.owed,t∈y.owed:=by
  have h:=List.length_filter_le (fun t:Ab=>decide (t.back≠y.hour)) y.owed
  have:=I.i.olen
  unfold O1
  rw[Ss,ajY]
  exact⟨by omega,fun t ht=>(List.mem_filter.1 ht).1⟩
 obtain⟨t1,t2,_⟩:=Tu s.cons y.hour d.trades 0 (G1 s y.hour y.gas y.bills y.owed) (O1 s y.hour y.gas y.bills y.owed) [] hO1.1
 have hT:∀t∈d.trades,yG s.cons.length t:=fun t ht=>by
  have p:=h3
  simp only[Nb,abL,acZ]at p
  exact tok (by have:=S.len;omega) (p.2 t ht)
 refine⟨⟨by show y.hour+1=_;rw[I.hour];rfl,⟨W.gas,W.len.2.1,fun i=>?_,?_,fun t ht=>?_,t1⟩,?_⟩,E,W⟩
 ·show -(100000000000000*(((k+1:Nat):Int)+1))≤gI (L7 s d y.hour z y.gas y.bills y.owed) i∧gI (L7 s d y.hour z y.gas y.bills y.owed) i≤100000000000000*(((k+1:Nat):Int)+1)
  have hl1:=E.l1.2
  have ei:gI (L7 s d y.hour z y.gas y.bills y.owed) i=gI (L7 s d y.hour z y.gas y.bills y.owed) (i.toNat:Int):=by unfold gI;rw[aaF]
  rw[ei]
  by_cases hi:i.toNat<s.cons.length
  ·obtain⟨c,hc⟩:∃c,s.cons[i.toNat]?=some c:=⟨_,acK hi⟩
   have hl:=hl1 (i.toNat:Int)
   have hb:=W.bill _ c hc
   have hf:=W.flow i.toNat
   have hw:=W.cut i.toNat
   obtain⟨_,_,_,_,m1,m2⟩:=uJ (hcs c (aaR hc)) (b:=gI (L1 s y.hour y.gas y.bills y.owed) i.toNat) hf ⟨hw.1,hw.2.1⟩ hw.2.2 (by omega)
   rw[hb]
   unfold iY
   split<;>split<;>omega
  ·rw[vB (by have:=W.len.2.1;omega)]
   omega
 ·have:=W.ow
  have:=I.i.own
  show -(100000000000000*(((k+1:Nat):Int)+1))≤aR s d y.hour z y.gas y.bills y.owed y.own∧aR s d y.hour z y.gas y.bills y.owed y.own≤_
  omega
 ·rcases t2 t ht with h|h
  ·exact I.i.owed t (hO1.2 t h)
  ·exact hT t h
 ·have:=W.fu
  have:=I.fuel
  show 0≤(G6 s d y.hour z y.gas y.bills y.owed y.fuel).2∧(G6 s d y.hour z y.gas y.bills y.owed y.fuel).2≤_
  omega
theorem akF{s:Ac}{y:Gf}{d:Aq}{z:Au}{k:Nat}(h1:Ft s=true)(h3:Nb s.cons.length d=true)(I:xB s k y)(hne:s.cons≠[])(hz:d.hours[k]?=some z):cZ s d y.hour z y.owed:=by
 have S:=Vx h1
 have hl:=S.len
 have ol:=I.i.olen
 have hz':d.hours[y.hour.toNat]?=some z:=by rw[I.hour];exact hz
 simp only[Nb,abL,decide_eq_true_eq,acZ]at h3
 obtain⟨⟨⟨⟨⟨d1,d2⟩,d3⟩,d4⟩,d5⟩,d6⟩:=h3
 refine⟨hne,by omega,by omega,fun c hc=>?_,by omega,fun t ht=>(I.i.owed t ht).ok,by omega,fun t ht=>?_,by rw[I.hour];omega,hz'⟩
 ·have C:=S.cons c hc
  exact⟨by have:=C.space;omega,C.rates.1,by have:=C.rates.2;unfold maxLen;omega⟩
 ·exact(jE (by omega) (d6 t ht)).1
theorem vP{s:Ac}{y:Gf}{d:Aq}{k:Nat}(h3:Nb s.cons.length d=true)(I:xB s k y)(he:s.cons=[]):y.gas=[]∧y.bills=[]∧y.owed=[]∧d.trades=[]:=by
 have p1:=I.i.g.len
 have p2:=I.i.l
 have p3:=I.i.owed
 rw[he]at p1 p2 p3 h3
 refine⟨adA.1 p1,adA.1 p2,?_,?_⟩
 ·refine anG.2 fun t ht=>?_
  have t1:=(p3 t ht).ok.1.1
  have t2:=(p3 t ht).ok.1.2
  simp only[am3]at t2
  omega
 ·refine anG.2 fun t ht=>?_
  simp only[Nb,abL,acZ]at h3
  have:=h3.2 t ht
  simp only[am3,show((0:Nat):Int)=0 from rfl,aeX]at this
  cases this
theorem axH{s:Ac}{y:Gf}{d:Aq}{z:Au}{k:Nat}(h3:Nb s.cons.length d=true)(I:xB s k y)(he:s.cons=[])(hz:d.hours[k]?=some z):ZOK s d y.hour z:=by
 have D:=Zd h3 hz
 exact⟨he,(vP h3 I he).2.2.2,by rw[I.hour];omega,by rw[I.hour];exact hz,D.2.1.1,D.2.1.2⟩
theorem aw0{s:Ac}{y:Gf}{d:Aq}{z:Au}{k:Nat}(h1:Ft s=true)(hz:d.hours[k]?=some z)(h3:Nb s.cons.length d=true)(I:xB s k y)(he:s.cons=[]):nxt s d z y=⟨y.hour+1,false,[],cP [] z y.own,y.fuel,false,[],false,[]⟩∧flw s d z y=⟨false,[],false,[],false,[],false,[]⟩:=by
 obtain⟨e1,e2,e3,e4⟩:=vP h3 I he
 have t2:T2 s d y.hour y.gas y.bills y.owed=([],[],[]):=by simp[T2,G1,O1,e1,e2,e3,e4,he,Bz,Bd]
 have w3:W3 s d y.hour y.gas y.bills y.owed=[]:=by simp[W3,he,Iy]
 obtain⟨_,_,W⟩:=Yd h1 h3 I hz
 have wl:=W.len
 rw[he]at wl
 have a4:A4 s d y.hour z y.gas y.bills y.owed=[]:=adA.1 wl.2.2.2.2
 have f5:F5 s d y.hour z y.gas y.bills y.owed=[]:=adA.1 wl.2.2.1
 have l7:L7 s d y.hour z y.gas y.bills y.owed=[]:=adA.1 wl.2.1
 have g6:G6 s d y.hour z y.gas y.bills y.owed y.fuel=([],y.fuel):=by simp[G6,f5,t2,Gt]
 exact⟨by unfold nxt aR;rw[g6,t2,l7,a4],by unfold flw;rw[w3,a4,f5,t2]⟩
theorem acE{s:Ac}{y:Gf}{d:Aq}{z:Au}{k:Nat}(h3:Nb s.cons.length d=true)(I:xB s k y)(hz:d.hours[k]?=some z):IntKind.i64.wrap (y.hour+1)=y.hour+1:=by
 have:=Zd h3 hz
 have:=I.hour
 exact Af (by omega) (by omega)
theorem ajH{s:Ac}{d:Aq}{z:Au}{y:Gf}{k:Nat}(h1:Ft s=true)(h3:Nb s.cons.length d=true)(I:xB s k y)(hz:d.hours[k]?=some z):
 ∃g l o w a f r,RdT Bn 64 [.agg s.cells,.agg y.cells,.agg d.cells] [.agg ((nxt s d z y).as g l o).cells,.agg ((flw s d z y).as w a f r).cells] 7:=by
 have hw:=acE h3 I hz
 by_cases he:s.cons=[]
 ·obtain⟨e1,e2,e3,_⟩:=vP h3 I he
  obtain⟨n1,n2⟩:=aw0 h1 hz h3 I he
  have q:=akQ (axH h3 I he hz) e1 e2 e3
  rw[hw]at q
  obtain⟨g,l,w,k⟩:=au1 q
  rw[n1,n2]
  exact⟨g,l,false,w,false,false,false,k⟩
 ·obtain⟨J,E,W⟩:=Yd h1 h3 I hz
  have q:=an6 (akF h1 h3 I he hz) I.i.g.len I.i.l
  rw[hw]at q
  obtain⟨o,r,k⟩:=afX W.len.1 W.len.2.1 W.len.2.2.2.1 W.len.2.2.2.2 W.len.2.2.1 q
  exact⟨true,true,o,true,true,true,r,k⟩
end Go.Proofs.YtdbiogihimdpcaaGreatDoor
