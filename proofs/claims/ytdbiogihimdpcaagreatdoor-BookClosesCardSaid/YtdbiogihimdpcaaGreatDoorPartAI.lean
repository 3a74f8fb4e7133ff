/- The functions of the layer, walked. -/
import Derived.Test.YtdbiogihimdpcaaGreatDoorPartAH
import Derived.Test.YtdbiogihimdpcaaGreatDoorLibE
open Int renaming toNat_natCast→aaE,sub_zero→adN,add_zero→ai4
open List renaming mem_of_getElem?→abH,mem_cons_of_mem→abI,mem_cons_self→acM,getElem?_eq_getElem→acT,length_cons→acZ,all_eq_true→adA,mem_cons→adF,not_mem_nil→adI,getElem?_eq_some_iff→adK,length_eq_zero_iff→adL,getElem?_map→adM,getElem?_cons_succ→aiK,replicate→ajR,getElem?_eq_none→ajS,nil_append→ajU,sum_cons→ajV,length_nil→alB,getElem?_set_self→anN,getElem?_set_ne→anO,getElem_mem→anP,append_assoc→anV,eq_nil_iff_forall_not_mem→anY
open Bool renaming and_eq_true→ab1,false_eq_true→adO,or_eq_true→ajQ
open Nat renaming zero_add→adJ,add_zero→adP,le_refl→ajT
open Option renaming getD_some→anS
set_option linter.unusedSimpArgs false
set_option linter.unusedVariables false
namespace Go.Proofs.YtdbiogihimdpcaaGreatDoor
open Go.Ev Go
set_option maxRecDepth 100000
set_option maxHeartbeats 16000000
theorem Tv(l:List Int)(i v j:Int):gI (sI l i v) j=if i.toNat=j.toNat∧i.toNat<l.length then v else gI l j:=by
 unfold gI sI
 by_cases h:i.toNat=j.toNat
 ·rw[←h]
  by_cases hl:i.toNat<l.length
  ·rw[if_pos ⟨rfl,hl⟩,anN hl];rfl
  ·rw[if_neg (fun q=>hl q.2),List.set_eq_of_length_le (by omega)]
 ·rw[if_neg (fun q=>h q.1),anO h]
structure pX(cs:List Ag)(G:List Int):Prop where
 len:G.length=cs.length
 inn:∀(i:Nat) c,cs[i]?=some c→0≤gI G i∧gI G i≤c.space
def LOK(B:Int)(L:List Int):Prop:=∀i:Int,-B≤gI L i∧gI L i≤B
theorem pX.at{cs:List Ag}{G:List Int}(h:pX cs G){i:Int}(hi:yZ cs.length i):∃c,cs[i.toNat]?=some c∧0≤gI G i∧gI G i≤c.space:=by
 obtain⟨c,hc⟩:∃c,cs[i.toNat]?=some c:=⟨_,acT hi.toNat⟩
 have:=h.inn i.toNat c hc
 have e:((i.toNat:Nat):Int)=i:=by have:=hi.1;omega
 rw[e]at this
 exact⟨c,hc,this⟩
theorem arT(l:List Int)(i:Int):gI l (i.toNat:Int)=gI l i:=by unfold gI;rw[aaE]
theorem pX.move{cs:List Ag}{G:List Int}(h:pX cs G){a b:Int}(ha:yZ cs.length a)(hb:yZ cs.length b)(hab:a≠b){n:Int}(hn:0≤n)(h1:n≤gI G a)(h2:∀c,cs[b.toNat]?=some c→gI G b+n≤c.space):
 pX cs (sI (sI G a (gI G a-n)) b (gI G b+n)):=by
 refine⟨by rw[Bi,Bi];exact h.len,fun i c hc=>?_⟩
 have hi:i<cs.length:=(adK.1 hc).1
 have hh:=h.inn i c hc
 have hla:=ha.toNat
 have hlb:=hb.toNat
 rw[Tv,Tv]
 simp only[aaE,Bi]
 have a0:=ha.1
 have b0:=hb.1
 split
 ·rename_i q
  have q1:=q.1
  subst q1
  have:=h2 c hc
  have h3:=h.at hb
  obtain⟨c',hc',p1,p2⟩:=h3
  exact⟨by omega,this⟩
 ·split
  ·rename_i q
   have q1:=q.1
   subst q1
   rw[arT]at hh
   omega
  ·exact hh
theorem pY{c:Ag}(h:Hj c=true):(0≤c.lack∧c.lack≤10000)∧(0≤c.cut∧c.cut≤10000)∧(0≤c.inn∧c.inn≤10000)∧(0≤c.out∧c.out≤10000)∧(0≤c.fixed∧c.fixed≤10000):=by
 simp only[Hj,ab1,Gg,decide_eq_true_eq,List.all_cons,List.all_nil,and_true]at h
 obtain⟨_,h1,h2,h3,h4,h5⟩:=h
 exact⟨h5,h4,h2,h3,h1⟩
structure xQ(n:Nat)(t:Ab):Prop where
 ok:t.ok n
 ne:t.frm≠t.to
 amt:1≤t.amount∧t.amount≤100000000
 back:t.back= -1∨0≤t.back
theorem tok{n:Nat}(hn:n≤1000){t:Ab}(h:Kv n t=true):xQ n t:=by
 obtain⟨a,b,c,d,e⟩:=lY hn h
 exact⟨a,b,⟨c,d⟩,e⟩
def lnN(cs:List Ag)(t:Ab)(G:List Int):Int:=mn (mn t.amount (gI G t.to)) (Ig cs t.frm-gI G t.frm)
def mH(cs:List Ag)(t:Ab)(G:List Int):Int:=(t.amount-mn t.amount (gI G t.to))*bR cs t.to
theorem pZ{l:List Int}{i:Int}(hi:yZ l.length i):sI l i (gI l i)=l:=by
 unfold sI gI
 have:=hi.toNat
 refine List.ext_getElem? fun j=>?_
 by_cases h:i.toNat=j
 ·subst h;rw[anN this,acT this];rfl
 ·rw[anO h]
theorem yI{cs:List Ag}(hcs:∀c∈cs,Hj c=true){t:Ab}(T:xQ cs.length t){G L:List Int}(hG:pX cs G){B:Int}(hB:0≤B∧B≤4000000000000000000)(hLl:L.length=cs.length)(hL:LOK B L):
 Ss cs t G=sI (sI G t.to (gI G t.to-lnN cs t G)) t.frm (gI G t.frm+lnN cs t G)∧aj9 cs t G=Ss cs t G∧
 Tn cs t G L=sI (sI L t.to (gI L t.to+mH cs t G)) t.frm (gI L t.frm-mH cs t G)∧anF cs t G L=Tn cs t G L∧
 pX cs (Ss cs t G)∧LOK (B+1000000000000) (Tn cs t G L)∧(0≤lnN cs t G)∧(0≤mH cs t G∧mH cs t G≤1000000000000):=by
 obtain⟨ct,hct,gt0,gt1⟩:=hG.at T.ok.2
 obtain⟨cf,hcf,gf0,gf1⟩:=hG.at T.ok.1
 have Ct:=Rj (hcs ct (abH hct))
 have Cf:=Rj (hcs cf (abH hcf))
 have Lt:=(pY (hcs ct (abH hct))).1
 have hA:=T.amt
 have sp1:=Ct.space
 have sp2:=Cf.space
 have eS:Ig cs t.frm=cf.space:=by simp[Ig,hcf]
 have eK:bR cs t.to=ct.lack:=by simp[bR,hct]
 have hne:=T.ne
 have i0:=T.ok.1.1
 have j0:=T.ok.2.1
 have wS:IntKind.i64.wrap (cf.space-gI G t.frm)=cf.space-gI G t.frm:=Ae (by omega) (by omega)
 have wA:IntKind.i64.wrap (t.amount-gI G t.to)=t.amount-gI G t.to:=Ae (by omega) (by omega)
 have n0:0≤lnN cs t G∧lnN cs t G≤gI G t.to∧lnN cs t G≤cf.space-gI G t.frm:=by
  unfold lnN mn;rw[eS];split<;>split<;>omega
 have eN:jE cs t G=lnN cs t G:=by
  unfold jE lnN;rw[eS,wS];rfl
 have eR:pE cs t G=lnN cs t G:=by
  unfold pE lnN;rw[eS,wS]
 have m0:0≤t.amount-mn t.amount (gI G t.to)∧t.amount-mn t.amount (gI G t.to)≤100000000:=by
  unfold mn;split<;>omega
 have p0:0≤mH cs t G∧mH cs t G≤1000000000000:=by
  unfold mH;rw[eK]
  have:=Ux m0.1 m0.2 Lt.1 Lt.2
  omega
 have eP:uB cs t G=mH cs t G:=by
  have w1:IntKind.i64.wrap (t.amount-mn t.amount (gI G t.to))=t.amount-mn t.amount (gI G t.to):=Ae (by omega) (by omega)
  have p1:=p0
  unfold mH at p1
  unfold uB mH
  rw[w1]
  exact Ae (by omega) (by omega)
 have wt:=hL t.to
 have wf:=hL t.frm
 have ne1:∀(l:List Int) v,gI (sI l t.to v) t.frm=gI l t.frm:=fun l v=>rV j0 i0 (Ne.symm hne) v
 have r1:Ss cs t G=sI (sI G t.to (gI G t.to-lnN cs t G)) t.frm (gI G t.frm+lnN cs t G):=by
  unfold Ss
  rw[eN,ne1,Ae (by omega) (by omega),Ae (by omega) (by omega)]
 have r2:aj9 cs t G=Ss cs t G:=by
  rw[r1];unfold aj9
  rw[eR,Ae (by omega) (by omega),Ae (by omega) (by omega)]
 have r4:anF cs t G L=sI (sI L t.to (gI L t.to+mH cs t G)) t.frm (gI L t.frm-mH cs t G):=by
  unfold anF
  rw[eP,Ae (by omega) (by omega),Ae (by omega) (by omega)]
 have r3:Tn cs t G L=sI (sI L t.to (gI L t.to+mH cs t G)) t.frm (gI L t.frm-mH cs t G):=by
  unfold Tn
  rw[wA]
  split
  ·rename_i hlt
   have eW:jR cs t G=mH cs t G:=by
    rw[←eP];unfold jR uB
    rw[show mn t.amount (gI G t.to)=gI G t.to by unfold mn;rw[if_pos (by omega)]]
   rw[eW,ne1,Ae (by omega) (by omega),Ae (by omega) (by omega)]
  ·rename_i hlt
   have z:mH cs t G=0:=by
    unfold mH
    rw[show mn t.amount (gI G t.to)=t.amount by unfold mn;rw[if_neg (by omega)]]
    simp
   have h1:=T.ok.1
   have h2:=T.ok.2
   rw[←hLl]at h1 h2
   rw[z,ai4,adN,pZ h2,pZ h1]
 refine⟨r1,r2,r3,by rw[r4,r3],?_,?_,n0.1,p0⟩
 ·rw[r1]
  exact hG.move T.ok.2 T.ok.1 (Ne.symm hne) n0.1 n0.2.1 (fun c hc=>by rw[hcf]at hc;cases hc;omega)
 ·rw[r3]
  intro i
  have:=hL i
  rw[Tv]
  split
  ·omega
  ·rw[Tv];split<;>omega
theorem jJ{cs:List Ag}(hcs:∀c∈cs,Hj c=true)(hr:Int):∀{O:List Ab},(∀t∈O,xQ cs.length t)→∀{G L:List Int} (p:List Ab) {B:Int},pX cs G→0≤B→B+1000000000000*O.length≤4000000000000000000→L.length=cs.length→LOK B L→
 acC cs hr O (G,L,p)=Cd cs hr O (G,L,p)∧pX cs (Cd cs hr O (G,L,p)).1∧(Cd cs hr O (G,L,p)).2.1.length=cs.length∧LOK (B+1000000000000*O.length) (Cd cs hr O (G,L,p)).2.1
 | [],_,G,L,p,B,hG,h0,hB,hLl,hL=>⟨rfl,hG,hLl,by simpa [Cd]using hL⟩
 |t::O,hO,G,L,p,B,hG,h0,hB,hLl,hL=>by
  have T:=hO t (acM ..)
  have hO':∀t∈O,xQ cs.length t:=fun t ht=>hO t (abI _ ht)
  simp only[acZ]at hB
  by_cases hb:t.back=hr
  ·obtain⟨_,r2,_,r4,g,l,_⟩:=yI hcs T hG (B:=B) ⟨h0,by omega⟩ hLl hL
   have hb':(t.back==hr)=true:=by simpa using hb
   simp only[acC,Cd,hb,hb',if_true]
   rw[r2,r4]
   obtain⟨a,b,c,d⟩:=jJ hcs hr hO' p g (by omega) (by omega) (by rw[Oc];exact hLl) l
   refine⟨by simpa using a,b,c,fun i=>?_⟩
   have:=d i
   simp only[acZ]
   omega
  ·have hb':(t.back==hr)=false:=by simpa using hb
   simp only[acC,Cd,hb,hb',if_false,adO]
   obtain⟨a,b,c,d⟩:=jJ hcs hr hO' (p++[t]) hG h0 (by omega) hLl hL
   refine⟨a,b,c,fun i=>?_⟩
   have:=d i
   simp only[acZ]
   omega
theorem Zx{cs:List Ag}(hcs:∀c∈cs,Hj c=true)(hr:Int):∀{T:List Ab},(∀t∈T,xQ cs.length t)→∀{G:List Int} (i:Nat) (O:List Ab) (R:List Int),pX cs G→pX cs (Bc cs hr T i (G,O,R)).1
 | [],_,G,i,O,R,hG=>hG
 |t::T,hT,G,i,O,R,hG=>by
  have hT':∀t∈T,xQ cs.length t:=fun t ht=>hT t (abI _ ht)
  have K:=hT t (acM ..)
  simp only[Bc]
  split
  ·split
   ·exact Zx hcs hr hT' _ _ _ hG
   ·rename_i hno
    refine Zx hcs hr hT' _ _ _ ?_
    obtain⟨ct,hct,gt0,gt1⟩:=hG.at K.ok.2
    obtain⟨cf,hcf,gf0,gf1⟩:=hG.at K.ok.1
    have sp1:=(Rj (hcs ct (abH hct))).space
    have sp2:=(Rj (hcs cf (abH hcf))).space
    have hA:=K.amt
    have e:Ig cs t.to=ct.space:=by simp[Ig,hct]
    simp only[Lj,ajQ,decide_eq_true_eq,not_or,e]at hno
    obtain⟨⟨n1,n2⟩,_⟩:=hno
    rw[Ae (by omega) (by omega)]at n2
    rw[fS K.ok K.ne,Ae (by omega) (by omega),Ae (by omega) (by omega)]
    exact hG.move K.ok.1 K.ok.2 K.ne (by omega) (by omega) (fun c hc=>by rw[hct]at hc;cases hc;omega)
  ·exact Zx hcs hr hT' _ _ _ hG
theorem nH(q:Int):∀(l:List Bh) (o:Bh),bT q l o=o∨bT q l o∈l
 | [],o=>.inl rfl
 |r::l,o=>by
  simp only[bT]
  rcases nH q l (if r.fill≤q then r else o)with h|h
  ·rw[h];split
   ·exact .inr (acM ..)
   ·exact .inl rfl
  ·exact .inr (abI _ h)
theorem adV{c:Ag}(h:Hj c=true)(g:Int):(0≤(Ua c g).inn∧(Ua c g).inn≤100000000)∧(0≤(Ua c g).out∧(Ua c g).out≤100000000)∧(Ry c).fill=0:=by
 have C:=Rj h
 simp only[Hj,ab1]at h
 have hr:=h.1.1.1.1.1
 have r0:Ry c∈c.rates:=by
  unfold Ry
  rw[acT (List.length_pos_iff.2 C.rates.1)]
  exact anP _
 have m:Ua c g∈c.rates:=by
  unfold Ua
  rcases nH (afR c g) c.rates (Ry c)with e|e
  ·rw[e];exact r0
  ·exact e
 have:=Wu hr m
 refine⟨⟨this.1,this.2.1⟩,⟨this.2.2.1,this.2.2.2⟩,?_⟩
 unfold Ry
 cases hc:c.rates with
 |nil=>exact(C.rates.1 hc).elim
 |cons r l=>
  rw[hc]at hr
  simp only[It,Rm,ab1,decide_eq_true_eq]at hr
  exact hr.1.2
theorem xT{c:Ag}(h:Hj c=true){n g:Int}(hn: -100000000≤n∧n≤100000000)(h0:0≤g)(h1:g≤c.space):
 lQ c n g=rL c n g∧ -g≤rL c n g∧rL c n g≤c.space-g:=by
 have C:=(Rj h).space
 obtain⟨⟨r1,r2⟩,⟨r3,r4⟩,_⟩:=adV h g
 have w1:IntKind.i64.wrap (c.space-g)=c.space-g:=Ae (by omega) (by omega)
 have w2:IntKind.i64.wrap (0-n)=0-n:=Ae (by omega) (by omega)
 have w3:IntKind.i64.wrap (0-(Ua c g).out)=0-(Ua c g).out:=Ae (by omega) (by omega)
 have w4:IntKind.i64.wrap (0-g)=0-g:=Ae (by omega) (by omega)
 unfold lQ rL
 rw[w1,w2,w3,w4]
 generalize(Ua c g).inn=a at *
 generalize(Ua c g).out=b at *
 have e1:0≤zW (mn (mn n a) (c.space-g))∧zW (mn (mn n a) (c.space-g))≤100000000:=by
  unfold zW mn;split<;>split<;>split<;>omega
 have e2:0≤zW (mn (mn (0-n) b) g)∧zW (mn (mn (0-n) b) g)≤100000000:=by
  unfold zW mn;split<;>split<;>split<;>omega
 rw[Ae (by omega) (by omega)]
 by_cases hp:0≤n
 ·have z:zW (mn (mn (0-n) b) g)=0:=by unfold zW mn;split<;>split<;>split<;>omega
  rw[z]
  unfold zW mn Qe
  refine⟨?_,?_,?_⟩<;>(repeat' split)<;>omega
 ·have z:zW (mn (mn n a) (c.space-g))=0:=by unfold zW mn;split<;>split<;>split<;>omega
  rw[z]
  unfold zW mn Qe
  refine⟨?_,?_,?_⟩<;>(repeat' split)<;>omega
theorem oL{l:List Gl}{k:Int}(h:l.all (dF k)=true)(j:Int): -100000000≤Xi l j∧Xi l j≤100000000:=by
 unfold Xi
 cases e:l[j.toNat]? with
 |none=>simp
 |some n=>
  have:=adA.1 h n (abH e)
  simp only[dF,Gg,ab1,decide_eq_true_eq]at this
  simp only[Option.map_some,anS]
  omega
theorem lT{s:Ac}{d:Ao}{hr:Int}{G:List Int}(hn:d.noms.all (dF s.cons.length)=true):∀(l:List Ag) (i:Nat) (p:List Int),p.length=i→(∀c∈l,Hj c=true)→(∀(j:Nat) c,l[j]?=some c→0≤gI G ((i+j:Nat):Int)∧gI G ((i+j:Nat):Int)≤c.space)→
 Jc (Bt s d hr G) l i (p++ajR l.length 0)=p++Qu s d hr G l i
 | [],i,p,hp,_,_=>by simp[Jc,Qu]
 |c::l,i,p,hp,hc,hG=>by
  have h0:=hG 0 c rfl
  rw[adP]at h0
  have ih:=lT (hr:=hr) hn l (i+1) (p++[Wy s d hr G i c]) (by simp[hp]) (fun c hc'=>hc c (abI _ hc')) (fun j c' hj=>by
   have:=hG (j+1) c' (by simpa using hj)
   rwa[show i+(j+1)=i+1+j by omega]at this)
  have e:=xT (hc c (acM ..)) (oL hn (Lm s.lead d.noms i hr d.noms (0,-1))) h0.1 h0.2
  have key:Bt s d hr G i c (p++0::ajR l.length 0)=p++Wy s d hr G i c::ajR l.length 0:=by
   unfold Bt Wy
   cases ha:Gg hr c.lo c.hi with
   |false=>simp
   |true=>
    by_cases hk:Lm s.lead d.noms i hr d.noms (0,-1)<0
    ·have hk':¬0≤Lm s.lead d.noms i hr d.noms (0,-1):=by omega
     simp[hk,hk']
    ·have hk':0≤Lm s.lead d.noms i hr d.noms (0,-1):=by omega
     simp only[hk,hk',if_true,if_false,decide_true,Bool.and_self]
     rw[e.1]
     unfold sI
     rw[aaE,List.set_append_right _ _ (by omega),hp,Nat.sub_self]
     rfl
  simp only[Jc,Qu,acZ,List.replicate_succ]
  rw[key]
  rw[anV]at ih
  rw[anV]at ih
  exact ih
theorem jC{l:List Int}(ha:Oo l)(h8:l.length≤8){m:Int}(h0:0≤m)(h1:m≤l.sum){i:Nat}{x w:Int}(hx:(Bq m l)[i]?=some x)(hw:l[i]?=some w):0≤x∧x≤w:=by
 unfold Bq at hx
 rw[Si ha (by omega)]at hx
 have hs:=ha.sum
 by_cases hp:0<l.sum
 ·rw[dM h0 (by omega) hp ha h8]at hx
  have:=Xo h0 h1 hp ha hx hw
  exact⟨this.1,this.2.1⟩
 ·rw[Yi hp]at hx
  have:x=0:=by
   rw[List.getElem?_replicate]at hx
   split at hx
   ·cases hx;rfl
   ·cases hx
  have:=ha w (abH hw)
  omega
theorem zI{w:Int}:Cm w=if 0<w then w else 0:=by unfold Cm;rfl
theorem yG{w:Int}(h: -100000000≤w∧w≤100000000):Dt w=if w<0 then -w else 0:=by
 unfold Dt Cm
 rw[Ae (by omega) (by omega)]
 split<;>split<;>omega
def vD(w f:Int):Prop:=(0≤w→0≤f∧f≤w)∧(w≤0→w≤f∧f≤0)
theorem af6{l P N:List Int}(hP:P.length=l.length)(hN:N.length=l.length)(hl:∀w∈l,-100000000≤w∧w≤100000000)
 (h1:∀{i:Nat} {x w:Int},P[i]?=some x→l[i]?=some w→0≤x∧x≤Cm w) (h2:∀{i:Nat} {x w:Int},N[i]?=some x→l[i]?=some w→0≤x∧x≤Dt w) (i:Nat):
 vD (gI l i) (gI (List.zipWith Xv P N) i):=by
 unfold gI
 rw[aaE,List.getElem?_zipWith]
 by_cases hi:i<l.length
 ·obtain⟨w,hw⟩:∃w,l[i]?=some w:=⟨_,acT hi⟩
  obtain⟨x,hx⟩:∃x,P[i]?=some x:=⟨_,acT (by omega)⟩
  obtain⟨y,hy⟩:∃y,N[i]?=some y:=⟨_,acT (by omega)⟩
  have a:=h1 hx hw
  have b:=h2 hy hw
  have c:=hl w (abH hw)
  rw[zI]at a
  rw[yG c]at b
  simp only[hw,hx,hy,anS]
  unfold Xv vD
  rw[Ae (by split at a<;>split at b<;>omega) (by split at a<;>split at b<;>omega)]
  split at a<;>split at b<;>omega
 ·rw[ajS (by omega),ajS (by omega)]
  simp[vD]
theorem iU{l:List Int}(hl:∀w∈l,-100000000≤w∧w≤100000000):Oo (l.map Cm):=fun w hw=>by
 obtain⟨x,hx,rfl⟩:=List.mem_map.1 hw
 have:=hl x hx
 rw[zI];split<;>omega
theorem iM{l:List Int}(hl:∀w∈l,-100000000≤w∧w≤100000000):Oo (l.map Dt):=fun w hw=>by
 obtain⟨x,hx,rfl⟩:=List.mem_map.1 hw
 have:=hl x hx
 rw[yG this];split<;>omega
theorem iG{f:Int→Int}{l:List Int}{i:Nat}{y w:Int}(h:(l.map f)[i]?=some y)(hw:l[i]?=some w):y=f w:=by
 rw[adM,hw]at h;simpa using h.symm
theorem ahV{cs:List Ag}{l:List Int}(hl:∀w∈l,-100000000≤w∧w≤100000000)(hc:l.length=cs.length)(h8:l.length≤8){a b:Int}(ha:0≤a∧a≤800000000)(hb:0≤b∧b≤800000000)(i:Nat):
 vD (gI l i) (gI (Gk Xe cs l a b) i):=by
 have c1:=avF (cs:=cs) (l:=l.map Cm) (m:=a) (by simpa using hc) (by simpa using h8) (iU hl) ha.1 ha.2
 have c2:=avF (cs:=cs) (l:=l.map Dt) (m:=b) (by simpa using hc) (by simpa using h8) (iM hl) hb.1 hb.2
 refine af6 (by rw[c1.len];simp) (by rw[c2.len];simp) hl (fun hx hw=>?_) (fun hx hw=>?_) i
 ·obtain⟨y,hy⟩:∃y,(l.map Cm)[_]?=some y:=⟨_,by rw[adM,hw];rfl⟩
  have:=c1.ins hx hy
  rwa[iG hy hw]at this
 ·obtain⟨y,hy⟩:∃y,(l.map Dt)[_]?=some y:=⟨_,by rw[adM,hw];rfl⟩
  have:=c2.ins hx hy
  rwa[iG hy hw]at this
theorem ak4{A:List Int}(hl:∀w∈A,-100000000≤w∧w≤100000000)(h8:A.length≤8){z:Aw}(h1:0≤z.flowIn)(h2:0≤z.flowOut)(i:Nat):vD (gI A i) (gI (RF z A) i):=by
 have p:=iU hl
 have q:=iM hl
 have sp:=Si p (by simp;omega)
 have sq:=Si q (by simp;omega)
 have bp:=p.sum
 have bq:=q.sum
 refine af6 (by unfold Bq;rw[Dy];simp) (by unfold Bq;rw[Dy];simp) hl (fun hx hw=>?_) (fun hx hw=>?_) i
 ·obtain⟨y,hy⟩:∃y,(A.map Cm)[_]?=some y:=⟨_,by rw[adM,hw];rfl⟩
  have:=jC p (by simpa using h8) (by unfold mn;split<;>omega) (by unfold mn;split<;>omega) hx hy
  rwa[iG hy hw]at this
 ·obtain⟨y,hy⟩:∃y,(A.map Dt)[_]?=some y:=⟨_,by rw[adM,hw];rfl⟩
  have:=jC q (by simpa using h8) (by unfold mn;split<;>omega) (by unfold mn;split<;>omega) hx hy
  rwa[iG hy hw]at this
theorem ae0{A:List Int}(hl:∀w∈A,-100000000≤w∧w≤100000000)(h8:A.length≤8){z:Aw}(h1:0≤z.flowIn∧z.flowIn≤800000000)(h2:0≤z.flowOut∧z.flowOut≤800000000){own:Int}(ho: -4000000000000000000≤own∧own≤4000000000000000000):
 cD A z own=afA z A own∧afA z A own=own+(z.flowIn-mn z.flowIn (A.map Cm).sum)-(z.flowOut-mn z.flowOut (A.map Dt).sum)∧(0≤mn z.flowIn (A.map Cm).sum∧mn z.flowIn (A.map Cm).sum≤z.flowIn)∧(0≤mn z.flowOut (A.map Dt).sum∧mn z.flowOut (A.map Dt).sum≤z.flowOut):=by
 have p:=iU hl
 have q:=iM hl
 have sp:=Si p (by simp;omega)
 have sq:=Si q (by simp;omega)
 have bp:=p.sum
 have bq:=q.sum
 have m1:0≤mn z.flowIn (A.map Cm).sum∧mn z.flowIn (A.map Cm).sum≤z.flowIn:=by unfold mn;split<;>omega
 have m2:0≤mn z.flowOut (A.map Dt).sum∧mn z.flowOut (A.map Dt).sum≤z.flowOut:=by unfold mn;split<;>omega
 have e:afA z A own=own+(z.flowIn-mn z.flowIn (A.map Cm).sum)-(z.flowOut-mn z.flowOut (A.map Dt).sum):=by
  unfold afA
  rw[sp,sq]
  rw[Ae (n:=own+z.flowIn) (by omega) (by omega),Ae (n:=own+z.flowIn-_) (by omega) (by omega),Ae (n:=own+z.flowIn-_-z.flowOut) (by omega) (by omega),Ae (by omega) (by omega)]
  omega
 refine⟨?_,e,m1,m2⟩
 rw[e]
 unfold cD Ih Jo
 rw[show min2=mn from rfl,sp,sq]
 rw[Ae (n:=z.flowIn-_) (by omega) (by omega),Ae (n:=z.flowOut-_) (by omega) (by omega),Ae (n:=z.flowIn-_-_) (by omega) (by omega),Ae (by omega) (by omega)]
 omega
theorem qD{s:Ac}(hf:0≤s.fuel∧s.fuel≤1000){f:Int}(h: -100000000≤f∧f≤100000000):Oa s f=Kt s.fuel f∧0≤Oa s f∧Oa s f≤Gh f∧(0≤Gh f∧Gh f≤100000000∧0≤Im f∧Im f≤100000000∧Gh f-Im f=f):=by
 have g:Im f=Qe 0 (0-f):=by unfold Im;rw[Ae (by omega) (by omega)]
 have c0:0≤Gh f∧Gh f≤100000000∧0≤Im f∧Im f≤100000000∧Gh f-Im f=f:=by
  rw[g];unfold Gh Qe;split<;>split<;>omega
 have m:=Ux c0.1 c0.2.1 hf.1 hf.2
 have e:Oa s f=Gh f*s.fuel / 1000:=by
  unfold Oa
  rw[Ae (n:=Gh f*s.fuel) (by omega) (by omega),Int.tdiv_eq_ediv_of_nonneg m.1,Ae (by omega) (by omega)]
 refine⟨rfl,by rw[e];omega,?_,c0⟩
 rw[e]
 have:Gh f*s.fuel≤Gh f*1000:=Int.mul_le_mul_of_nonneg_left hf.2 c0.1
 omega
theorem yW{s:Ac}(hf:0≤s.fuel∧s.fuel≤1000){f g:Int}(h: -100000000≤f∧f≤100000000)(hg:0≤g∧g≤100000000):IntKind.i64.wrap (g+IntKind.i64.wrap (f-Kt s.fuel f))=adH s f g∧adH s f g=g+f-Oa s f:=by
 obtain⟨e,a,b,c⟩:=qD hf h
 rw[←e]
 have r:adH s f g=g+f-Oa s f:=by
  unfold adH
  rw[Ae (n:=g+Gh f) (by omega) (by omega),Ae (n:=g+Gh f-_) (by omega) (by omega),Ae (by omega) (by omega)]
  omega
 rw[r,Ae (n:=f-Oa s f) (by omega) (by omega),Ae (by omega) (by omega)]
 exact⟨by omega,rfl⟩
theorem aiV{s:Ac}(hf:0≤s.fuel∧s.fuel≤1000)(hr:Int)(W A:List Int):∀(F:List Int) (i:Nat) (G:List Int) (fu:Int) (L:List Int),(∀x∈F,-100000000≤x∧x≤100000000)→(∀j:Nat,i≤j→j<i+F.length→0≤gI G j∧gI G j≤100000000)→
 (mN s hr W A F i (G,fu,L)).1=(Gs s.fuel F i (G,fu)).1∧(mN s hr W A F i (G,fu,L)).2.1=(Gs s.fuel F i (G,fu)).2
 | [],_,_,_,_,_,_=>⟨rfl,rfl⟩
 |f::F,i,G,fu,L,hF,hG=>by
  have e:=(yW hf (hF f (acM ..)) (hG i (ajT _) (by simp))).1
  simp only[mN,Gs]
  rw[e]
  refine aiV hf hr W A F (i+1) _ _ _ (fun x hx=>hF x (abI _ hx)) (fun j h1 h2=>?_)
  rw[Tv]
  rw[if_neg (by simp only[aaE];omega)]
  exact hG j (by omega) (by simp only[acZ];omega)
def Xx(k:Int):Int:=Qe k (0-k)
theorem tM{c:Ag}(h:Hj c=true){f w a b:Int}(hf: -100000000≤f∧f≤100000000)(hw: -100000000≤w∧w≤100000000)(ha: -100000000≤a∧a≤100000000)(hb: -4000000000000000000≤b∧b≤4000000000000000000):
 IntKind.i64.wrap (b+Xt c f)=abM c f b∧abM c f b=b+(c.fixed+c.inn*Gh f+c.out*Im f)∧wP c (IntKind.i64.wrap (w-a))=c.cut*Xx (w-a)∧(∀v,-4000000000000000000≤v→v≤4000000000010000000+4000000000000→aqI c w a v=v-c.cut*Xx (w-a))∧(0≤c.cut*Xx (w-a)∧c.cut*Xx (w-a)≤2000000000000)∧(0≤c.fixed+c.inn*Gh f+c.out*Im f∧c.fixed+c.inn*Gh f+c.out*Im f≤2000000010000):=by
 obtain⟨_,h1,h2,h3,h4⟩:=pY h
 have g:Im f=Qe 0 (0-f):=by unfold Im;rw[Ae (by omega) (by omega)]
 have c0:0≤Gh f∧Gh f≤100000000∧0≤Im f∧Im f≤100000000:=by
  rw[g];unfold Gh Qe;split<;>split<;>omega
 have m1:=Ux h2.1 h2.2 c0.1 c0.2.1
 have m2:=Ux h3.1 h3.2 c0.2.2.1 c0.2.2.2
 have k0:0≤Xx (w-a)∧Xx (w-a)≤200000000:=by unfold Xx Qe;split<;>omega
 have m3:=Ux h1.1 h1.2 k0.1 k0.2
 have e1:abM c f b=b+(c.fixed+c.inn*Gh f+c.out*Im f):=by
  unfold abM
  rw[Ae (n:=c.inn*Gh f) (by omega) (by omega),Ae (n:=c.out*Im f) (by omega) (by omega),Ae (n:=b+c.fixed) (by omega) (by omega),Ae (n:=b+c.fixed+_) (by omega) (by omega),Ae (by omega) (by omega)]
  omega
 have e2:Xt c f=c.fixed+c.inn*Gh f+c.out*Im f:=by
  unfold Xt
  rw[show Qe 0 f=Gh f from rfl,show Qe 0 (IntKind.i64.wrap (0-f))=Im f from rfl]
  rw[Ae (n:=c.inn*Gh f) (by omega) (by omega),Ae (n:=c.out*Im f) (by omega) (by omega),Ae (n:=c.fixed+_) (by omega) (by omega),Ae (by omega) (by omega)]
 have wa:IntKind.i64.wrap (w-a)=w-a:=Ae (by omega) (by omega)
 have aw:IntKind.i64.wrap (a-w)=a-w:=Ae (by omega) (by omega)
 refine⟨by rw[e2,e1,Ae (by omega) (by omega)],e1,?_,?_,by omega,by omega⟩
 ·unfold wP
  rw[wa,Ae (n:=0-(w-a)) (by omega) (by omega),show Qe (w-a) (0-(w-a))=Xx (w-a)from rfl,Ae (by omega) (by omega)]
 ·intro v v1 v2
  unfold aqI
  rw[wa,aw,show Qe (w-a) (a-w)=Xx (w-a) by unfold Xx;rw[show 0-(w-a)=a-w by omega],Ae (n:=c.cut*Xx (w-a)) (by omega) (by omega),Ae (by omega) (by omega)]
theorem auT(l:List Int)(i:Int)(v w:Int):sI (sI l i v) i w=sI l i w:=by unfold sI;rw[List.set_set]
def dC(c:Ag)(hr f w a b:Int):Int:=b+(if Gg hr c.lo c.hi=true then c.fixed+c.inn*Gh f+c.out*Im f else 0)-(if c.firm=true then c.cut*Xx (w-a)else 0)
theorem uK{c:Ag}(h:Hj c=true){hr:Int}{F W A L:List Int}{i:Nat}(hi:i<L.length)(hf: -100000000≤gI F i∧gI F i≤100000000)(hw: -100000000≤gI W i∧gI W i≤100000000)(ha: -100000000≤gI A i∧gI A i≤100000000)(hb: -3000000000000000000≤gI L i∧gI L i≤3000000000000000000)
 (h0:Gg hr c.lo c.hi=false→gI W i=0∧gI A i=0):Br hr F W A i c L=sI L i (dC c hr (gI F i) (gI W i) (gI A i) (gI L i))∧rY c hr (gI F i) (gI W i) (gI A i) (gI L i)=dC c hr (gI F i) (gI W i) (gI A i) (gI L i):=by
 obtain⟨e1,e2,e3,e4,m1,m2⟩:=tM h hf hw ha (b:=gI L i) ⟨by omega,by omega⟩
 unfold Br rY dC
 have gi:∀v,gI (sI L i v) i=v:=fun v=>by rw[Tv,if_pos ⟨rfl,by simpa using hi⟩]
 cases hact:Gg hr c.lo c.hi with
 |true=>
  cases hfirm:c.firm with
  |true=>
   simp only[if_true]
   rw[gi,e1,e2,auT,e3,e4 _ (by omega) (by omega),Ae (by omega) (by omega)]
   exact⟨rfl,rfl⟩
  |false=>
   simp only[if_true,adO,if_false]
   rw[e1,e2,adN]
   exact⟨rfl,rfl⟩
 |false=>
  obtain⟨z1,z2⟩:=h0 hact
  have z3:c.cut*Xx (gI W i-gI A i)=0:=by rw[z1,z2];simp[Xx,Qe]
  have s0:sI L i (gI L i)=L:=pZ ⟨by omega,by omega⟩
  cases hfirm:c.firm with
  |true=>
   simp only[if_true,adO,if_false]
   rw[z3,e4 _ (by omega) (by omega),z3,ai4,adN,s0]
   exact⟨rfl,rfl⟩
  |false=>
   simp only[adO,if_false]
   rw[ai4,adN,s0]
   exact⟨rfl,rfl⟩
theorem oD{α:Type}{l rest:List α}{x:α}{i:Nat}(h:l.drop i=x::rest):l[i]?=some x∧l.drop (i+1)=rest:=by
 have h1:=congrArg (·[0]?) h
 have h2:=congrArg List.tail h
 simp only[List.getElem?_drop,adP,List.getElem?_cons_zero,List.tail_drop,List.tail_cons]at h1 h2
 exact⟨h1,h2⟩
theorem tK{s:Ac}(hcs:∀c∈s.cons,Hj c=true){hr:Int}{F W A:List Int}(hF:F.length=s.cons.length)(hf:∀i:Nat,-100000000≤gI F i∧gI F i≤100000000)(hw:∀i:Nat,-100000000≤gI W i∧gI W i≤100000000)(ha:∀i:Nat,-100000000≤gI A i∧gI A i≤100000000)
 (h0:∀(i:Nat) c,s.cons[i]?=some c→Gg hr c.lo c.hi=false→gI W i=0∧gI A i=0):∀(rest:List Int) (l:List Ag) (i:Nat) (G:List Int) (fu:Int) (L:List Int),F.drop i=rest→s.cons.drop i=l→L.length=s.cons.length→(∀j:Nat,i≤j→ -3000000000000000000≤gI L j∧gI L j≤3000000000000000000)→
 (mN s hr W A rest i (G,fu,L)).2.2=Jc (Br hr F W A) l i L
 | [],l,i,G,fu,L,h1,h2,_,_=>by
   have:l=[]:=by
    have:=congrArg List.length h1
    have:=congrArg List.length h2
    simp at *
    exact adL.1 (by omega)
   subst this
   rfl
 |f::rest,l,i,G,fu,L,h1,h2,hL,hb=>by
  obtain⟨a1,a2⟩:=oD h1
  have hi:i<s.cons.length:=by have:=(adK.1 a1).1;omega
  cases l with
  |nil=>simp at h2;omega
  |cons c l=>
   obtain⟨b1,b2⟩:=oD h2
   have ef:gI F i=f:=by unfold gI;rw[aaE,a1];rfl
   have ec:Ql s.cons i=c:=by unfold Ql;rw[b1];rfl
   obtain⟨q1,q2⟩:=uK (hcs c (abH b1)) (hr:=hr) (F:=F) (W:=W) (A:=A) (L:=L) (i:=i) (by omega) (hf i) (hw i) (ha i) (hb i (ajT _)) (h0 i c b1)
   simp only[mN,Jc]
   rw[ec,←ef,q2,q1]
   refine tK hcs hF hf hw ha h0 rest l (i+1) _ _ _ a2 b2 (by rw[Bi];exact hL) (fun j hj=>?_)
   rw[Tv,if_neg (by simp only[aaE];omega)]
   exact hb j (by omega)
structure StI(s:Ac)(own:Int)(G L:List Int)(O:List Ab)(B:Int):Prop where
 g:pX s.cons G
 l:L.length=s.cons.length
 lok:LOK B L
 own: -B≤own∧own≤B
 owed:∀t∈O,xQ s.cons.length t
 olen:O.length≤50
structure agL(s:Ac)(d:Ao)(hr own fuel:Int)(z:Aw)(G L:List Int)(O:List Ab)(B:Int):Prop where
 rg:RG s hr G L O=(G1 s hr G L O,L1 s hr G L O,O1 s hr G L O)
 g1:pX s.cons (G1 s hr G L O)
 l1:(L1 s hr G L O).length=s.cons.length∧LOK (B+50000000000000) (L1 s hr G L O)
 rt:RT s d hr G L O=T2 s d hr G L O
 g2:pX s.cons (T2 s d hr G L O).1
 rw:RW s d hr G L O=W3 s d hr G L O
 w3:∀(i:Nat) c,s.cons[i]?=some c→ -(gI (T2 s d hr G L O).1 i)≤gI (W3 s d hr G L O) i∧gI (W3 s d hr G L O) i≤c.space-gI (T2 s d hr G L O).1 i
 w0:∀(i:Nat) c,s.cons[i]?=some c→Gg hr c.lo c.hi=false→gI (W3 s d hr G L O) i=0
 ra:RA s d hr z G L O=A4 s d hr z G L O
 a4:∀i:Nat,vD (gI (W3 s d hr G L O) i) (gI (A4 s d hr z G L O) i)
 f5:∀i:Nat,vD (gI (A4 s d hr z G L O) i) (gI (F5 s d hr z G L O) i)
 own:afA z (A4 s d hr z G L O) own=aH s d hr z G L O own
 fin:mN s hr (W3 s d hr G L O) (A4 s d hr z G L O) (F5 s d hr z G L O) 0 ((T2 s d hr G L O).1,fuel,L1 s hr G L O)=((G6 s d hr z G L O fuel).1,(G6 s d hr z G L O fuel).2,L7 s d hr z G L O)
theorem kM{l:List Int}{P:Int→Prop}(h0:P 0)(h:∀i:Nat,P (gI l i)):∀w∈l,P w:=fun w hw=>by
 obtain⟨i,hi,rfl⟩:=List.getElem_of_mem hw
 have:=h i
 unfold gI at this
 rw[aaE,acT hi]at this
 exact this
theorem wY{l:List Int}{i:Nat}(h:l.length≤i):gI l i=0:=by unfold gI;rw[aaE,ajS h];rfl
theorem Yu{s:Ac}{d:Ao}{hr:Int}{G:List Int}:∀(l:List Ag) (i j:Nat) c,l[j]?=some c→(Qu s d hr G l i)[j]?=some (Wy s d hr G (i+j) c)
 | [],_,j,c,h=>by simp at h
 |x::l,i,0,c,h=>by simp at h;subst h;rfl
 |x::l,i,j+1,c,h=>by
  have:=Yu (s:=s) (d:=d) (hr:=hr) (G:=G) l (i+1) j c (by simpa using h)
  simp only[Qu,aiK]
  rw[this,show i+1+j=i+(j+1) by omega]
theorem ag7{s:Ac}(h1:Ek s=true){d:Ao}(h3:Jx s.cons.length d=true){hr own fuel:Int}{z:Aw}{G L:List Int}{O:List Ab}{B:Int}(hB:0≤B∧B≤2000000000000000000)(I:StI s own G L O B)(hz:d.hours[hr.toNat]?=some z):agL s d hr own fuel z G L O B:=by
 have S:=Wm h1
 have hcs:∀c∈s.cons,Hj c=true:=adA.1 (Lq h1)
 have hl:=S.len
 simp only[Jx,ab1,decide_eq_true_eq]at h3
 obtain⟨⟨⟨⟨⟨d1,d2⟩,d3⟩,d4⟩,d5⟩,d6⟩:=h3
 have hT:∀t∈d.trades,xQ s.cons.length t:=fun t ht=>tok (by omega) (adA.1 d6 t ht)
 have hzb:=adA.1 d4 z (abH hz)
 simp only[Vq,Gg,ab1,decide_eq_true_eq]at hzb
 obtain⟨⟨⟨z1,z2⟩,z3⟩,z4⟩:=hzb
 have ol:=I.olen
 obtain⟨q1,q2,q3,q4⟩:=jJ hcs hr I.owed [] I.g (B:=B) hB.1 (by omega) I.l I.lok
 have rg:RG s hr G L O=(G1 s hr G L O,L1 s hr G L O,O1 s hr G L O):=q1
 have rt:RT s d hr G L O=T2 s d hr G L O:=by
  unfold RT T2;rw[rg]
 have g2:pX s.cons (T2 s d hr G L O).1:=Zx hcs hr hT 0 _ _ q2
 have hW:=lT (s:=s) (hr:=hr) d5 s.cons 0 [] rfl hcs (fun j c hj=>by rw[adJ];exact g2.inn j c hj)
 rw[ajU,ajU]at hW
 have rw_:RW s d hr G L O=W3 s d hr G L O:=by
  unfold RW W3;rw[rt];exact hW.symm
 have wl:(W3 s d hr G L O).length=s.cons.length:=by rw[←rw_];unfold RW;rw[Rn]
 have wget:∀(i:Nat) c,s.cons[i]?=some c→gI (W3 s d hr G L O) i=Wy s d hr (T2 s d hr G L O).1 i c:=fun i c hc=>by
  have:=Yu (s:=s) (d:=d) (hr:=hr) (G:=(T2 s d hr G L O).1) s.cons 0 i c hc
  rw[←rw_];unfold RW gI
  rw[rt,aaE,this,adJ];rfl
 have w3:∀(i:Nat) c,s.cons[i]?=some c→ -(gI (T2 s d hr G L O).1 i)≤gI (W3 s d hr G L O) i∧gI (W3 s d hr G L O) i≤c.space-gI (T2 s d hr G L O).1 i:=fun i c hc=>by
  have gi:=g2.inn i c hc
  rw[wget i c hc]
  unfold Wy
  split
  ·exact(xT (hcs c (abH hc)) (oL d5 _) gi.1 gi.2).2
  ·omega
 have w0:∀(i:Nat) c,s.cons[i]?=some c→Gg hr c.lo c.hi=false→gI (W3 s d hr G L O) i=0:=fun i c hc ha=>by
  rw[wget i c hc];unfold Wy;rw[ha];simp
 have wb:∀i:Nat,-100000000≤gI (W3 s d hr G L O) i∧gI (W3 s d hr G L O) i≤100000000:=fun i=>by
  by_cases hi:i<s.cons.length
  ·have hc:s.cons[i]?=some s.cons[i]:=acT hi
   have a:=w3 i _ hc
   have b:=g2.inn i _ hc
   have c:=(Rj (hcs _ (abH hc))).space
   omega
  ·rw[wY (by omega)];omega
 have wm:∀w∈W3 s d hr G L O,-100000000≤w∧w≤100000000:=kM (P:=fun w=> -100000000≤w∧w≤100000000) (by omega) wb
 have ra:RA s d hr z G L O=A4 s d hr z G L O:=by
  unfold RA A4
  rw[rw_]
  refine(qS ?_ _ _).symm
  simp only[xE,adA,Gg,ab1,decide_eq_true_eq]
  exact wm
 have a4:∀i:Nat,vD (gI (W3 s d hr G L O) i) (gI (A4 s d hr z G L O) i):=fun i=>by
  rw[←ra];unfold RA;rw[rw_]
  exact ahV wm wl (by omega) z1 z2 i
 have al:(A4 s d hr z G L O).length=s.cons.length:=by
  rw[←ra];unfold RA;rw[rw_];simp[Gk,aT,wl]
 have ab:∀i:Nat,-100000000≤gI (A4 s d hr z G L O) i∧gI (A4 s d hr z G L O) i≤100000000:=fun i=>by
  have a:=a4 i
  have b:=wb i
  unfold vD at a
  by_cases hp:0≤gI (W3 s d hr G L O) i
  ·have:=a.1 hp;omega
  ·have:=a.2 (by omega);omega
 have am:=kM (P:=fun w=> -100000000≤w∧w≤100000000) (by omega) ab
 have f5:∀i:Nat,vD (gI (A4 s d hr z G L O) i) (gI (F5 s d hr z G L O) i):=fun i=>ak4 am (by omega) z3.1 z4.1 i
 have fb:∀i:Nat,-100000000≤gI (F5 s d hr z G L O) i∧gI (F5 s d hr z G L O) i≤100000000:=fun i=>by
  have a:=f5 i
  have b:=ab i
  unfold vD at a
  by_cases hp:0≤gI (A4 s d hr z G L O) i
  ·have:=a.1 hp;omega
  ·have:=a.2 (by omega);omega
 have fm:=kM (P:=fun w=> -100000000≤w∧w≤100000000) (by omega) fb
 have fl:(F5 s d hr z G L O).length=s.cons.length:=by
  show(RF z (A4 s d hr z G L O)).length=_
  simp[RF,Bq,Dy,al]
 have a0:∀(i:Nat) c,s.cons[i]?=some c→Gg hr c.lo c.hi=false→gI (W3 s d hr G L O) i=0∧gI (A4 s d hr z G L O) i=0:=fun i c hc ha=>by
  have w:=w0 i c hc ha
  have a:=a4 i
  rw[w]at a
  have:=a.1 (by omega)
  exact⟨w,by omega⟩
 have own:=(ae0 am (by omega) z3 z4 (own:=own) (by have:=I.own;omega)).1
 have l1:LOK (B+50000000000000) (L1 s hr G L O):=fun i=>by
  have:=q4 i
  have e:(L1 s hr G L O)=(Cd s.cons hr O (G,L,[])).2.1:=rfl
  rw[←e]at this
  omega
 have fin1:=aiV (s:=s) S.fuel hr (W3 s d hr G L O) (A4 s d hr z G L O) (F5 s d hr z G L O) 0 (T2 s d hr G L O).1 fuel (L1 s hr G L O) fm (fun j _ hj=>by
  rw[adJ,fl]at hj
  have hc:s.cons[j]?=some s.cons[j]:=acT hj
  have b:=g2.inn j _ hc
  have c:=(Rj (hcs _ (abH hc))).space
  omega)
 have fin2:=tK (s:=s) hcs (hr:=hr) fl fb wb ab a0 (F5 s d hr z G L O) s.cons 0 (T2 s d hr G L O).1 fuel (L1 s hr G L O) rfl rfl q3 (fun j _=>by have:=l1 j;omega)
 refine⟨rg,q2,⟨q3,l1⟩,rt,g2,rw_,w3,w0,ra,a4,f5,own.symm,?_⟩
 exact Prod.ext fin1.1 (Prod.ext fin1.2 fin2)
theorem zS:∀(l:List Int) (k:Nat) (v:Int),k<l.length→(l.set k v).sum=l.sum-(l[k]?).getD 0+v
 | [],k,_,h=>by simp at h
 |x::l,0,v,_=>by simp;omega
 |x::l,k+1,v,h=>by
  have:=zS l k v (by simpa using h)
  simp only[List.set_cons_succ,ajV,aiK]
  omega
theorem wX{l:List Int}{i:Int}(hi:yZ l.length i)(v:Int):(sI l i v).sum=l.sum-gI l i+v:=zS l _ v hi.toNat
theorem lS{l:List Int}{a b:Int}(ha:yZ l.length a)(hb:yZ l.length b)(hab:a≠b)(n m:Int)(hn:n=m):(sI (sI l a (gI l a-n)) b (gI l b+m)).sum=l.sum:=by
 rw[wX (by rw[Bi];exact hb),wX ha,rV ha.1 hb.1 hab]
 omega
theorem pH{l:List Int}{a b i:Int}(ha:0≤a)(hb:0≤b)(hi:0≤i)(h1:a≠i)(h2:b≠i)(v w:Int):gI (sI (sI l a v) b w) i=gI l i:=by
 rw[rV hb hi h2,rV ha hi h1]
theorem eC{cs:List Ag}(hcs:∀c∈cs,Hj c=true)(hr:Int):∀{O:List Ab},(∀t∈O,xQ cs.length t)→∀{G L:List Int} (p:List Ab) {B:Int},pX cs G→0≤B→B+1000000000000*O.length≤4000000000000000000→L.length=cs.length→LOK B L→
 (Cd cs hr O (G,L,p)).1.sum=G.sum∧(Cd cs hr O (G,L,p)).2.1.sum=L.sum∧∀i:Int,0≤i→(∀t∈O,t.back=hr→t.frm≠i∧t.to≠i)→gI (Cd cs hr O (G,L,p)).1 i=gI G i∧gI (Cd cs hr O (G,L,p)).2.1 i=gI L i
 | [],_,G,L,p,B,hG,h0,hB,hLl,hL=>⟨rfl,rfl,fun _ _ _=>⟨rfl,rfl⟩⟩
 |t::O,hO,G,L,p,B,hG,h0,hB,hLl,hL=>by
  have T:=hO t (acM ..)
  have hO':∀t∈O,xQ cs.length t:=fun t ht=>hO t (abI _ ht)
  simp only[acZ]at hB
  by_cases hb:t.back=hr
  ·obtain⟨r1,_,r3,_,g,l,_⟩:=yI hcs T hG (B:=B) ⟨h0,by omega⟩ hLl hL
   simp only[Cd,hb,if_true]
   obtain⟨a,b,c⟩:=eC hcs hr hO' p g (by omega) (by omega) (by rw[Oc];exact hLl) l
   have i1:=T.ok.1
   have i2:=T.ok.2
   refine⟨?_,?_,fun i hi h=>?_⟩
   ·rw[a,r1]
    exact lS (by rw[hG.len];exact i2) (by rw[hG.len];exact i1) (Ne.symm T.ne) _ _ rfl
   ·rw[b,r3]
    have e:gI L t.frm-mH cs t G=gI L t.frm+ -(mH cs t G):=by omega
    have e2:gI L t.to+mH cs t G=gI L t.to - -(mH cs t G):=by omega
    rw[e,e2]
    exact lS (by rw[hLl];exact i2) (by rw[hLl];exact i1) (Ne.symm T.ne) _ _ rfl
   ·have k:=h t (acM ..) hb
    have c':=c i hi (fun t ht=>h t (abI _ ht))
    rw[c'.1,c'.2,r1,r3,pH i2.1 i1.1 hi k.2 k.1,pH i2.1 i1.1 hi k.2 k.1]
    exact⟨rfl,rfl⟩
  ·simp only[Cd,hb,if_false]
   obtain⟨a,b,c⟩:=eC hcs hr hO' (p++[t]) hG h0 (by omega) hLl hL
   exact⟨a,b,fun i hi h=>c i hi (fun t ht=>h t (abI _ ht))⟩
theorem Wz{cs:List Ag}(hcs:∀c∈cs,Hj c=true)(hr:Int):∀{T:List Ab},(∀t∈T,xQ cs.length t)→∀{G:List Int} (i:Nat) (O:List Ab) (R:List Int),pX cs G→
 (Bc cs hr T i (G,O,R)).1.sum=G.sum∧∀j:Int,0≤j→(∀t∈T,t.hour=hr→t.frm≠j∧t.to≠j)→gI (Bc cs hr T i (G,O,R)).1 j=gI G j
 | [],_,G,i,O,R,hG=>⟨rfl,fun _ _ _=>rfl⟩
 |t::T,hT,G,i,O,R,hG=>by
  have hT':∀t∈T,xQ cs.length t:=fun t ht=>hT t (abI _ ht)
  have K:=hT t (acM ..)
  simp only[Bc]
  split
  ·rename_i hh
   have hh':t.hour=hr:=by simpa using hh
   split
   ·obtain⟨a,b⟩:=Wz hcs hr hT' (i+1) O (R++[(i:Int)]) hG
    exact⟨a,fun j hj h=>b j hj (fun t ht=>h t (abI _ ht))⟩
   ·rename_i hno
    obtain⟨ct,hct,gt0,gt1⟩:=hG.at K.ok.2
    obtain⟨cf,hcf,gf0,gf1⟩:=hG.at K.ok.1
    have sp1:=(Rj (hcs ct (abH hct))).space
    have sp2:=(Rj (hcs cf (abH hcf))).space
    have hA:=K.amt
    have e:Ig cs t.to=ct.space:=by simp[Ig,hct]
    simp only[Lj,ajQ,decide_eq_true_eq,not_or,e]at hno
    obtain⟨⟨n1,n2⟩,_⟩:=hno
    rw[Ae (by omega) (by omega)]at n2
    have eG:Ku t G=sI (sI G t.frm (gI G t.frm-t.amount)) t.to (gI G t.to+t.amount):=by
     rw[fS K.ok K.ne,Ae (by omega) (by omega),Ae (by omega) (by omega)]
    have hG':pX cs (Ku t G):=by
     rw[eG]
     exact hG.move K.ok.1 K.ok.2 K.ne (by omega) (by omega) (fun c hc=>by rw[hct]at hc;cases hc;omega)
    obtain⟨a,b⟩:=Wz hcs hr hT' (i+1) (if(t.back== -1)=true then O else O++[t]) R hG'
    refine⟨?_,fun j hj h=>?_⟩
    ·rw[a,eG]
     exact lS (by rw[hG.len];exact K.ok.1) (by rw[hG.len];exact K.ok.2) K.ne _ _ rfl
    ·have k:=h t (acM ..) hh'
     rw[b j hj (fun t ht=>h t (abI _ ht)),eG,pH K.ok.1.1 K.ok.2.1 hj k.1 k.2]
  ·obtain⟨a,b⟩:=Wz hcs hr hT' (i+1) O R hG
   exact⟨a,fun j hj h=>b j hj (fun t ht=>h t (abI _ ht))⟩
theorem oQ{l:List Int}(ha:Oo l)(h8:l.length≤8){m:Int}(h0:0≤m)(h1:m≤l.sum):(Bq m l).sum=m:=by
 unfold Bq
 rw[Si ha (by omega)]
 have hs:=ha.sum
 by_cases hp:0<l.sum
 ·rw[dM h0 (by omega) hp ha h8]
  exact bO hp
 ·rw[Yi hp]
  simp
  omega
theorem yD:∀(P N:List Int),P.length=N.length→(∀x∈P,0≤x∧x≤1000000000)→(∀x∈N,0≤x∧x≤1000000000)→(List.zipWith Xv P N).sum=P.sum-N.sum
 | [],[],_,_,_=>rfl
 | [],_::_,h,_,_=>by simp at h
 |_::_,[],h,_,_=>by simp at h
 |x::P,y::N,h,h1,h2=>by
  have a:=h1 x (acM ..)
  have b:=h2 y (acM ..)
  have:=yD P N (by simpa using h) (fun x hx=>h1 x (abI _ hx)) (fun x hx=>h2 x (abI _ hx))
  simp only[List.zipWith_cons_cons,ajV,this]
  unfold Xv
  rw[Ae (by omega) (by omega)]
  omega
theorem yY{l:List Int}(ha:Oo l)(h8:l.length≤8){m:Int}(h0:0≤m)(h1:m≤l.sum):∀x∈Bq m l,0≤x∧x≤1000000000:=fun x hx=>by
 obtain⟨i,hi⟩:=List.getElem?_of_mem hx
 have hl:i<l.length:=by
  have:=(adK.1 hi).1
  unfold Bq at this
  rwa[Dy]at this
 have hw:l[i]?=some l[i]:=acT hl
 have:=jC ha h8 h0 h1 hi hw
 have:=ha l[i] (anP hl)
 omega
theorem af5{A:List Int}(hl:∀w∈A,-100000000≤w∧w≤100000000)(h8:A.length≤8){z:Aw}(h1:0≤z.flowIn)(h2:0≤z.flowOut):
 (RF z A).sum=mn z.flowIn (A.map Cm).sum-mn z.flowOut (A.map Dt).sum:=by
 have p:=iU hl
 have q:=iM hl
 have bp:=p.sum
 have bq:=q.sum
 have m1:0≤mn z.flowIn (A.map Cm).sum∧mn z.flowIn (A.map Cm).sum≤(A.map Cm).sum:=by unfold mn;split<;>omega
 have m2:0≤mn z.flowOut (A.map Dt).sum∧mn z.flowOut (A.map Dt).sum≤(A.map Dt).sum:=by unfold mn;split<;>omega
 unfold RF
 rw[Si p (by simp;omega),Si q (by simp;omega)]
 rw[yD _ _ (by unfold Bq;simp[Dy]) (yY p (by simpa using h8) m1.1 m1.2) (yY q (by simpa using h8) m2.1 m2.2)]
 rw[oQ p (by simpa using h8) m1.1 m1.2,oQ q (by simpa using h8) m2.1 m2.2]
theorem zA{s:Ac}(hf:0≤s.fuel∧s.fuel≤1000):∀(F:List Int) (i:Nat) (G:List Int) (fu:Int),(∀x∈F,-100000000≤x∧x≤100000000)→(∀j:Nat,i≤j→j<i+F.length→0≤gI G j∧gI G j≤100000000)→i+F.length≤G.length→0≤fu→fu+100000000*F.length≤4000000000000000000→
 (Gs s.fuel F i (G,fu)).1.sum+(Gs s.fuel F i (G,fu)).2=G.sum+fu+F.sum∧(fu≤(Gs s.fuel F i (G,fu)).2∧(Gs s.fuel F i (G,fu)).2≤fu+100000000*F.length)∧
 (∀j:Nat,j<i→gI (Gs s.fuel F i (G,fu)).1 j=gI G j)∧(∀j:Nat,j<F.length→gI (Gs s.fuel F i (G,fu)).1 ((i+j:Nat):Int)=gI G ((i+j:Nat):Int)+gI F j-Oa s (gI F j))
 | [],i,G,fu,_,_,_,h0,_=>⟨by simp[Gs],by simp[Gs],fun _ _=>rfl,fun j hj=>by simp at hj⟩
 |f::F,i,G,fu,hF,hG,hi,h0,hB=>by
  have hf1:=hF f (acM ..)
  have hg1:=hG i (ajT _) (by simp)
  obtain⟨e1,e2⟩:=yW hf hf1 hg1
  obtain⟨k1,k2,k3,k4⟩:=qD hf hf1
  simp only[acZ]at hB hi
  have hii:yZ G.length (i:Int):=⟨by omega,by omega⟩
  obtain⟨a,b,c,d⟩:=zA hf F (i+1) (sI G i (gI G i+f-Oa s f)) (fu+Oa s f) (fun x hx=>hF x (abI _ hx)) (fun j h1 h2=>by
   rw[Tv,if_neg (by simp only[aaE];omega)]
   exact hG j (by omega) (by simp only[acZ];omega)) (by rw[Bi];omega) (by omega) (by omega)
  simp only[Gs]
  rw[e1,e2,←k1,Ae (n:=fu+Oa s f) (by omega) (by omega)]
  refine⟨?_,⟨by omega,by simp only[acZ];omega⟩,fun j hj=>?_,fun j hj=>?_⟩
  ·rw[a,wX hii,ajV]
   omega
  ·rw[c j (by omega),Tv,if_neg (by simp only[aaE];omega)]
  ·cases j with
   |zero=>
    simp only[adP]
    rw[c i (by omega),Tv,if_pos ⟨rfl,by rw[aaE];omega⟩]
    rfl
   |succ j=>
    have hj':j<F.length:=by simpa using hj
    have:=d j hj'
    rw[show i+1+j=i+(j+1) by omega]at this
    rw[this,Tv,if_neg (by simp only[aaE];omega)]
    have eg:gI (f::F) ((j+1:Nat):Int)=gI F (j:Int):=by
     unfold gI;rw[aaE,aaE,aiK]
    rw[eg]
theorem oG{s:Ac}{hr:Int}{W A:List Int}:∀(F:List Int) (i:Nat) (G:List Int) (fu:Int) (L:List Int),i+F.length≤L.length→
 (∀j:Nat,j<i→gI (mN s hr W A F i (G,fu,L)).2.2 j=gI L j)∧(∀j:Nat,j<F.length→gI (mN s hr W A F i (G,fu,L)).2.2 ((i+j:Nat):Int)=rY (Ql s.cons (i+j)) hr (gI F j) (gI W ((i+j:Nat):Int)) (gI A ((i+j:Nat):Int)) (gI L ((i+j:Nat):Int)))
 | [],i,G,fu,L,_=>⟨fun _ _=>rfl,fun j hj=>by simp at hj⟩
 |f::F,i,G,fu,L,hi=>by
  simp only[acZ]at hi
  simp only[mN]
  obtain⟨a,b⟩:=oG (s:=s) (hr:=hr) (W:=W) (A:=A) F (i+1) (sI G i (adH s f (gI G i))) (IntKind.i64.wrap (fu+Oa s f)) (sI L i (rY (Ql s.cons i) hr f (gI W i) (gI A i) (gI L i))) (by rw[Bi];omega)
  refine⟨fun j hj=>?_,fun j hj=>?_⟩
  ·rw[a j (by omega),Tv,if_neg (by simp only[aaE];omega)]
  ·cases j with
   |zero=>
    simp only[adP]
    rw[a i (by omega),Tv,if_pos ⟨rfl,by rw[aaE];omega⟩]
    rfl
   |succ j=>
    have hj':j<F.length:=by simpa using hj
    have:=b j hj'
    rw[show i+1+j=i+(j+1) by omega]at this
    rw[this,Tv,if_neg (by simp only[aaE];omega)]
    have eg:gI (f::F) ((j+1:Nat):Int)=gI F (j:Int):=by
     unfold gI;rw[aaE,aaE,aiK]
    rw[eg]
theorem nZ(lead:Int)(l:List Gl)(c h:Int):∀(rest:List Gl) (i:Nat),(∀n∈rest,¬(n.con=c∧n.hour=h))→Lm lead l c h rest (i,-1)= -1
 | [],_,_=>rfl
 |n::rest,i,hn=>by
  have h0:=hn n (acM ..)
  have e:kK lead l c h n i (-1)= -1:=by
   unfold kK
   rw[if_neg]
   simp only[ab1,decide_eq_true_eq,beq_iff_eq,not_and,Bool.not_eq_true]at h0 ⊢
   simp_all
  rw[Lm,e]
  exact nZ lead l c h rest (i+1) (fun n hn'=>hn n (abI _ hn'))
def afX(d:Ao)(hr:Int)(O:List Ab)(i:Int):Bool:=
 d.noms.any (fun n=>n.con==i&&n.hour==hr)||d.trades.any (fun t=>t.hour==hr&&(t.frm==i||t.to==i))||O.any (fun t=>t.back==hr&&(t.frm==i||t.to==i))
structure yJ(s:Ac)(d:Ao)(hr own fuel:Int)(z:Aw)(G L:List Int)(O:List Ab):Prop where
 len:(G6 s d hr z G L O fuel).1.length=s.cons.length∧(L7 s d hr z G L O).length=s.cons.length∧(F5 s d hr z G L O).length=s.cons.length∧(W3 s d hr G L O).length=s.cons.length∧(A4 s d hr z G L O).length=s.cons.length
 gas:pX s.cons (G6 s d hr z G L O fuel).1
 fu:fuel≤(G6 s d hr z G L O fuel).2∧(G6 s d hr z G L O fuel).2≤fuel+800000000
 ow:own-800000000≤aH s d hr z G L O own∧aH s d hr z G L O own≤own+800000000
 sum:aH s d hr z G L O own+(G6 s d hr z G L O fuel).2+(G6 s d hr z G L O fuel).1.sum=own+fuel+z.flowIn-z.flowOut+G.sum
 lsum:(L1 s hr G L O).sum=L.sum
 flow:∀i:Nat,-100000000≤gI (F5 s d hr z G L O) i∧gI (F5 s d hr z G L O) i≤100000000
 cut:∀i:Nat,-100000000≤gI (W3 s d hr G L O) i∧gI (W3 s d hr G L O) i≤100000000∧ -100000000≤gI (A4 s d hr z G L O) i∧gI (A4 s d hr z G L O) i≤100000000
 bill:∀(i:Nat) c,s.cons[i]?=some c→gI (L7 s d hr z G L O) i=dC c hr (gI (F5 s d hr z G L O) i) (gI (W3 s d hr G L O) i) (gI (A4 s d hr z G L O) i) (gI (L1 s hr G L O) i)
 rest:∀(i:Nat) c,s.cons[i]?=some c→afX d hr O i=false→gI (G6 s d hr z G L O fuel).1 i=gI G i∧gI (F5 s d hr z G L O) i=0∧gI (L7 s d hr z G L O) i=gI L i+if Gg hr c.lo c.hi=true then c.fixed else 0
theorem an6{s:Ac}(hf:0≤s.fuel∧s.fuel≤1000){f:Int}(h: -100000000≤f∧f≤100000000):0≤Oa s f∧(f≤0→Oa s f=0)∧(0≤f→Oa s f≤f):=by
 obtain⟨_,k2,k3,_⟩:=qD hf h
 have e:Gh f=if 0<f then f else 0:=by unfold Gh Qe;split<;>omega
 rw[e]at k3
 refine⟨k2,fun h=>?_,fun h=>?_⟩
 ·rw[if_neg (by omega)]at k3;omega
 ·split at k3<;>omega
theorem akT{s:Ac}(h1:Ek s=true){d:Ao}(h3:Jx s.cons.length d=true){hr own fuel:Int}{z:Aw}{G L:List Int}{O:List Ab}{B:Int}(hB:0≤B∧B≤2000000000000000000)(I:StI s own G L O B)(hfu:0≤fuel∧fuel≤1000000000000000000)(hz:d.hours[hr.toNat]?=some z):yJ s d hr own fuel z G L O:=by
 have S:=Wm h1
 have hcs:∀c∈s.cons,Hj c=true:=adA.1 (Lq h1)
 have hl:=S.len
 have E:=ag7 (fuel:=fuel) h1 h3 hB I hz
 have h3':=h3
 simp only[Jx,ab1,decide_eq_true_eq]at h3'
 obtain⟨⟨⟨⟨⟨d1,d2⟩,d3⟩,d4⟩,d5⟩,d6⟩:=h3'
 have hT:∀t∈d.trades,xQ s.cons.length t:=fun t ht=>tok (by omega) (adA.1 d6 t ht)
 have hzb:=adA.1 d4 z (abH hz)
 simp only[Vq,Gg,ab1,decide_eq_true_eq]at hzb
 obtain⟨⟨⟨z1,z2⟩,z3⟩,z4⟩:=hzb
 have ol:=I.olen
 obtain⟨p1,p2,p3⟩:=eC hcs hr I.owed [] I.g (B:=B) hB.1 (by omega) I.l I.lok
 obtain⟨t1,t2⟩:=Wz hcs hr hT 0 (O1 s hr G L O) [] E.g1
 have p1':(G1 s hr G L O).sum=G.sum:=p1
 have p2':(L1 s hr G L O).sum=L.sum:=p2
 have t1':(T2 s d hr G L O).1.sum=(G1 s hr G L O).sum:=t1
 have tl:=E.g2.len
 have wl:(W3 s d hr G L O).length=s.cons.length:=by rw[←E.rw];unfold RW;rw[Rn]
 have al:(A4 s d hr z G L O).length=s.cons.length:=by
  rw[←E.ra];unfold RA;rw[E.rw];simp[Gk,aT,wl]
 have wb:∀i:Nat,-100000000≤gI (W3 s d hr G L O) i∧gI (W3 s d hr G L O) i≤100000000:=fun i=>by
  by_cases hi:i<s.cons.length
  ·have hc:s.cons[i]?=some s.cons[i]:=acT hi
   have a:=E.w3 i _ hc
   have b:=E.g2.inn i _ hc
   have c:=(Rj (hcs _ (abH hc))).space
   omega
  ·rw[wY (by omega)];omega
 have ab:∀i:Nat,-100000000≤gI (A4 s d hr z G L O) i∧gI (A4 s d hr z G L O) i≤100000000:=fun i=>by
  have a:=E.a4 i
  have b:=wb i
  unfold vD at a
  by_cases hp:0≤gI (W3 s d hr G L O) i
  ·have:=a.1 hp;omega
  ·have:=a.2 (by omega);omega
 have am:=kM (P:=fun w=> -100000000≤w∧w≤100000000) (by omega) ab
 have fb:∀i:Nat,-100000000≤gI (F5 s d hr z G L O) i∧gI (F5 s d hr z G L O) i≤100000000:=fun i=>by
  have a:=E.f5 i
  have b:=ab i
  unfold vD at a
  by_cases hp:0≤gI (A4 s d hr z G L O) i
  ·have:=a.1 hp;omega
  ·have:=a.2 (by omega);omega
 have fm:=kM (P:=fun w=> -100000000≤w∧w≤100000000) (by omega) fb
 have fl:(F5 s d hr z G L O).length=s.cons.length:=by
  show(RF z (A4 s d hr z G L O)).length=_
  simp[RF,Bq,Dy,al]
 have fsum:(F5 s d hr z G L O).sum=mn z.flowIn ((A4 s d hr z G L O).map Cm).sum-mn z.flowOut ((A4 s d hr z G L O).map Dt).sum:=af5 am (by omega) z3.1 z4.1
 obtain⟨o1,o2,o3,o4⟩:=ae0 am (by omega) z3 z4 (own:=own) (by have:=I.own;omega)
 have oe:aH s d hr z G L O own=own+(z.flowIn-mn z.flowIn ((A4 s d hr z G L O).map Cm).sum)-(z.flowOut-mn z.flowOut ((A4 s d hr z G L O).map Dt).sum):=o1.trans o2
 obtain⟨g1,g2,_,g4⟩:=zA (s:=s) S.fuel (F5 s d hr z G L O) 0 (T2 s d hr G L O).1 fuel fm (fun j _ hj=>by
  rw[adJ,fl]at hj
  have hc:s.cons[j]?=some s.cons[j]:=acT hj
  have b:=E.g2.inn j _ hc
  have c:=(Rj (hcs _ (abH hc))).space
  omega) (by omega) hfu.1 (by omega)
 have gl:(G6 s d hr z G L O fuel).1.length=s.cons.length:=by unfold G6;rw[Zg,tl]
 have ge:∀(i:Nat) c,s.cons[i]?=some c→gI (G6 s d hr z G L O fuel).1 i=gI (T2 s d hr G L O).1 i+gI (F5 s d hr z G L O) i-Oa s (gI (F5 s d hr z G L O) i):=fun i c hc=>by
  have hi:=(adK.1 hc).1
  have:=g4 i (by omega)
  rw[adJ]at this
  exact this
 have gr:∀(i:Nat) c,s.cons[i]?=some c→0≤gI (G6 s d hr z G L O fuel).1 i∧gI (G6 s d hr z G L O fuel).1 i≤c.space:=fun i c hc=>by
  rw[ge i c hc]
  have a:=E.w3 i c hc
  have b:=E.g2.inn i c hc
  have x:=E.a4 i
  have y:=E.f5 i
  obtain⟨u1,u2,u3⟩:=an6 S.fuel (fb i)
  unfold vD at x y
  by_cases hp:0≤gI (W3 s d hr G L O) i
  ·have x1:=x.1 hp
   have y1:=y.1 x1.1
   have:=u3 y1.1
   omega
  ·have x1:=x.2 (by omega)
   have y1:=y.2 x1.2
   have:=u2 y1.2
   omega
 have be:∀(i:Nat) c,s.cons[i]?=some c→gI (L7 s d hr z G L O) i=dC c hr (gI (F5 s d hr z G L O) i) (gI (W3 s d hr G L O) i) (gI (A4 s d hr z G L O) i) (gI (L1 s hr G L O) i):=fun i c hc=>by
  have hi:=(adK.1 hc).1
  have l1:=E.l1
  have:=(oG (s:=s) (hr:=hr) (W:=W3 s d hr G L O) (A:=A4 s d hr z G L O) (F5 s d hr z G L O) 0 (T2 s d hr G L O).1 fuel (L1 s hr G L O) (by omega)).2 i (by omega)
  rw[E.fin,adJ]at this
  rw[this,show Ql s.cons i=c by unfold Ql;rw[hc];rfl]
  have hb:=l1.2 i
  refine(uK (hcs c (abH hc)) (by omega) (fb i) (wb i) (ab i) (by omega) (fun ha=>?_)).2
  have w:=E.w0 i c hc ha
  have a:=E.a4 i
  unfold vD at a
  rw[w]at a
  have:=a.1 (by omega)
  exact⟨w,by omega⟩
 refine⟨⟨gl,?_,fl,wl,al⟩,⟨gl,gr⟩,?_,?_,?_,p2',fb,fun i=>⟨(wb i).1,(wb i).2,ab i⟩,be,fun i c hc ht=>?_⟩
 ·unfold L7;rw[Wj,E.l1.1]
 ·have:fuel≤(G6 s d hr z G L O fuel).2∧(G6 s d hr z G L O fuel).2≤fuel+100000000*(F5 s d hr z G L O).length:=g2
  rw[fl]at this
  omega
 ·rw[oe];omega
 ·have q:(G6 s d hr z G L O fuel).1.sum+(G6 s d hr z G L O fuel).2=(T2 s d hr G L O).1.sum+fuel+(F5 s d hr z G L O).sum:=g1
  rw[oe];omega
 ·simp only[afX,Bool.or_eq_false_iff,List.any_eq_false,ab1,ajQ,beq_iff_eq,not_and,not_or]at ht
  obtain⟨⟨n1,n2⟩,n3⟩:=ht
  have q1:=p3 i (by omega) n3
  have q2:=t2 i (by omega) n2
  have q1':gI (G1 s hr G L O) i=gI G i:=q1.1
  have q3':gI (L1 s hr G L O) i=gI L i:=q1.2
  have q2':gI (T2 s d hr G L O).1 i=gI (G1 s hr G L O) i:=q2
  have w:gI (W3 s d hr G L O) i=0:=by
   have:=Yu (s:=s) (d:=d) (hr:=hr) (G:=(RT s d hr G L O).1) s.cons 0 i c hc
   rw[←E.rw];unfold RW gI
   rw[aaE,this,adJ]
   unfold Wy
   rw[nZ s.lead d.noms i hr d.noms 0 (fun n hn q=>n1 n hn q.1 q.2)]
   rfl
  have a:=E.a4 i
  unfold vD at a
  rw[w]at a
  have a0:=a.1 (by omega)
  have f:=E.f5 i
  unfold vD at f
  have f0:=f.1 (by omega)
  have f0:gI (F5 s d hr z G L O) i=0:=by omega
  refine⟨?_,f0,?_⟩
  ·rw[ge i c hc,f0,(an6 S.fuel (f:=0) (by omega)).2.1 (by omega)]
   omega
  ·rw[be i c hc,f0,w,show gI (A4 s d hr z G L O) i=0 by omega,q3']
   unfold dC
   simp[Gh,Im,Xx,Qe,Ae]
structure Nc where
 nW:Bool
 wants:List Int
 nA:Bool
 grants:List Int
 nF:Bool
 flows:List Int
 nR:Bool
 refused:List Int
abbrev Nc.cells(x:Nc):List AV:=[Bj 1 true x.nW (x.wants.map iv),Bj 1 true x.nA (x.grants.map iv),Bj 1 true x.nF (x.flows.map iv),Bj 1 true x.nR (x.refused.map iv)]
def nxt(s:Ac)(d:Ao)(z:Aw)(y:Ge):Ge:=
 ⟨y.hour+1,false,(G6 s d y.hour z y.gas y.bills y.owed y.fuel).1,aH s d y.hour z y.gas y.bills y.owed y.own,(G6 s d y.hour z y.gas y.bills y.owed y.fuel).2,false,L7 s d y.hour z y.gas y.bills y.owed,false,(T2 s d y.hour y.gas y.bills y.owed).2.1⟩
def flw(s:Ac)(d:Ao)(z:Aw)(y:Ge):Nc:=
 ⟨false,W3 s d y.hour y.gas y.bills y.owed,false,A4 s d y.hour z y.gas y.bills y.owed,false,F5 s d y.hour z y.gas y.bills y.owed,false,(T2 s d y.hour y.gas y.bills y.owed).2.2⟩
def Ge.as(y:Ge)(g l o:Bool):Ge:={ y with nG:=g,nL:=l,nO:=o }
def Nc.as(x:Nc)(w a f r:Bool):Nc:={ x with nW:=w,nA:=a,nF:=f,nR:=r }
theorem zH{st:Nat}(rows:List (List AV)):Bj st true true rows=.imm st true rows:=by cases rows<;>rfl
theorem Zj{w:Bool}{l:List Int}:Rnm (iF w l):=fun _=>⟨_,rfl⟩
theorem ai0{w:Bool}{l:List Ab}:Rnm (lv5 w l):=fun _=>⟨_,rfl⟩
theorem Nl{h:Aa}{b n d:Nat}{w:Bool}{l:List Int}(hb:h[b]?=some (iF w l))(hn:n=l.length):rd (d+1) (hf h) (.slr 1 b 0 n)=some (Bj 1 true true (l.map iv),[b]):=by
 rw[zH];exact yP (by show(h[b]?).bind Da=_;rw[hb];rfl) (by simpa using hn)
theorem avQ{h:Aa}{b n d:Nat}{w:Bool}{l:List Ab}(hb:h[b]?=some (lv5 w l))(hn:n=l.length):rd (d+1) (hf h) (.slr 5 b 0 n)=some (Bj 5 true true (l.map Ab.cells),[b]):=by
 rw[zH];exact yP (by show(h[b]?).bind Da=_;rw[hb];rfl) (by simpa using hn)
theorem iI{h:Aa}{d st:Nat}{α:Type}{l:List α}{f:α→List AV}(hl:l=[]):rd (d+1) (hf h) .nils=some (Bj st true false (l.map f),[]):=by subst hl;rfl
theorem aeJ{O:Fe}{f:Nat}{vs:List AV}{n:Nat}{hr own fuel:Int}{G L R W A F:List Int}{T:List Ab}(lG:G.length=n)(lL:L.length=n)(lW:W.length=n)(lA:A.length=n)(lF:F.length=n)
 (h:Vo O f vs [] (xR n hr own fuel G L T R W A F)):∃o r,RdT O f vs [.agg (Ge.cells ⟨hr,true,G,own,fuel,true,L,o,T⟩),.agg (Nc.cells ⟨true,W,true,A,true,F,r,R⟩)] 7:=by
 obtain⟨o,h',e,w1,w2,w3,w4,w5,w6,w7,hq⟩:=h
 rcases hq with⟨hT,hR,rfl,rfl⟩|⟨hR,rfl,rfl⟩|⟨hT,hR,rfl,rfl⟩|⟨hR,rfl,rfl⟩
 ·exact⟨false,false,_,_,_,e,Af (Ls (Af (Hf ..) (Af (Nl rfl lG.symm) (Af (Hf ..) (Af (Hf ..) (Af (Nl rfl lL.symm) (Af (iI hT) Ij))))))) (Af (Ls (Af (Nl rfl lW.symm) (Af (Nl rfl lA.symm) (Af (Nl rfl lF.symm) (Af (iI hR) Ij))))) Ij),by simp,fun c hc=>by
   simp only[adF,adI,or_false]at hc
   rcases hc with rfl|rfl|rfl|rfl|rfl<;>exact Zj⟩
 ·exact⟨true,false,_,_,_,e,Af (Ls (Af (Hf ..) (Af (Nl rfl lG.symm) (Af (Hf ..) (Af (Hf ..) (Af (Nl rfl lL.symm) (Af (avQ rfl rfl) Ij))))))) (Af (Ls (Af (Nl rfl lW.symm) (Af (Nl rfl lA.symm) (Af (Nl rfl lF.symm) (Af (iI hR) Ij))))) Ij),by simp,fun c hc=>by
   simp only[adF,adI,or_false]at hc
   rcases hc with rfl|rfl|rfl|rfl|rfl|rfl<;>first|exact Zj|exact ai0⟩
 ·exact⟨false,true,_,_,_,e,Af (Ls (Af (Hf ..) (Af (Nl rfl lG.symm) (Af (Hf ..) (Af (Hf ..) (Af (Nl rfl lL.symm) (Af (iI hT) Ij))))))) (Af (Ls (Af (Nl rfl lW.symm) (Af (Nl rfl lA.symm) (Af (Nl rfl lF.symm) (Af (Nl rfl rfl) Ij))))) Ij),by simp,fun c hc=>by
   simp only[adF,adI,or_false]at hc
   rcases hc with rfl|rfl|rfl|rfl|rfl|rfl<;>exact Zj⟩
 ·exact⟨true,true,_,_,_,e,Af (Ls (Af (Hf ..) (Af (Nl rfl lG.symm) (Af (Hf ..) (Af (Hf ..) (Af (Nl rfl lL.symm) (Af (avQ rfl rfl) Ij))))))) (Af (Ls (Af (Nl rfl lW.symm) (Af (Nl rfl lA.symm) (Af (Nl rfl lF.symm) (Af (Nl rfl rfl) Ij))))) Ij),by simp,fun c hc=>by
   simp only[adF,adI,or_false]at hc
   rcases hc with rfl|rfl|rfl|rfl|rfl|rfl|rfl<;>first|exact Zj|exact ai0⟩
theorem av9{O:Fe}{f:Nat}{vs:List AV}{hr own fuel:Int}(h:Vo O f vs [] (ZQ hr own fuel)):∃g l w,RdT O f vs [.agg (Ge.cells ⟨hr,g,[],own,fuel,l,[],false,[]⟩),.agg (Nc.cells ⟨w,[],false,[],false,[],false,[]⟩)] 7:=by
 obtain⟨o,h',e,w1,w2,w3,hq⟩:=h
 rcases hq with⟨rfl,rfl⟩|⟨rfl,rfl⟩|⟨rfl,rfl⟩|⟨rfl,rfl⟩
 ·exact⟨false,false,true,_,_,_,e,Af (Ls (Af (Hf ..) (Af (iI rfl) (Af (Hf ..) (Af (Hf ..) (Af (iI rfl) (Af (iI rfl) Ij))))))) (Af (Ls (Af (Nl (w:=w3) (l:=[]) rfl rfl) (Af (iI rfl) (Af (iI rfl) (Af (iI rfl) Ij))))) Ij),by simp,fun c hc=>by
   simp only[adF,adI,or_false]at hc
   rcases hc with rfl;exact Zj (l:=[])⟩
 ·exact⟨true,false,true,_,_,_,e,Af (Ls (Af (Hf ..) (Af (Nl (w:=w1) (l:=[]) rfl rfl) (Af (Hf ..) (Af (Hf ..) (Af (iI rfl) (Af (iI rfl) Ij))))))) (Af (Ls (Af (Nl (w:=w3) (l:=[]) rfl rfl) (Af (iI rfl) (Af (iI rfl) (Af (iI rfl) Ij))))) Ij),by simp,fun c hc=>by
   simp only[adF,adI,or_false]at hc
   rcases hc with rfl|rfl<;>exact Zj (l:=[])⟩
 ·exact⟨false,true,true,_,_,_,e,Af (Ls (Af (Hf ..) (Af (iI rfl) (Af (Hf ..) (Af (Hf ..) (Af (Nl (w:=w2) (l:=[]) rfl rfl) (Af (iI rfl) Ij))))))) (Af (Ls (Af (Nl (w:=w3) (l:=[]) rfl rfl) (Af (iI rfl) (Af (iI rfl) (Af (iI rfl) Ij))))) Ij),by simp,fun c hc=>by
   simp only[adF,adI,or_false]at hc
   rcases hc with rfl|rfl<;>exact Zj (l:=[])⟩
 ·exact⟨true,true,true,_,_,_,e,Af (Ls (Af (Hf ..) (Af (Nl (w:=w1) (l:=[]) rfl rfl) (Af (Hf ..) (Af (Hf ..) (Af (Nl (w:=w2) (l:=[]) rfl rfl) (Af (iI rfl) Ij))))))) (Af (Ls (Af (Nl (w:=w3) (l:=[]) rfl rfl) (Af (iI rfl) (Af (iI rfl) (Af (iI rfl) Ij))))) Ij),by simp,fun c hc=>by
   simp only[adF,adI,or_false]at hc
   rcases hc with rfl|rfl|rfl<;>exact Zj (l:=[])⟩
theorem Tc(cs:List Ag)(hr:Int):∀(T:List Ab) (i:Nat) (G:List Int) (O:List Ab) (R:List Int),O.length≤50→
 (Bc cs hr T i (G,O,R)).2.1.length≤50∧(∀t∈(Bc cs hr T i (G,O,R)).2.1,t∈O∨t∈T)∧(Bc cs hr T i (G,O,R)).2.2.length≤R.length+T.length
 | [],_,_,O,R,h=>⟨h,fun t ht=>.inl ht,by simp[Bc]⟩
 |t::T,i,G,O,R,h=>by
  simp only[Bc]
  split
  ·split
   ·obtain⟨a,b,c⟩:=Tc cs hr T (i+1) G O (R++[(i:Int)]) h
    refine⟨a,fun x hx=>(b x hx).imp id (abI _),?_⟩
    simp only[List.length_append,acZ,alB]at c ⊢;omega
   ·rename_i hno
    have hO:(if(t.back== -1)=true then O else O++[t]).length≤50:=by
     split
     ·exact h
     ·rename_i hb
      simp[Lj,hb]at hno
      simp;omega
    obtain⟨a,b,c⟩:=Tc cs hr T (i+1) (Ku t G) (if(t.back== -1)=true then O else O++[t]) R hO
    refine⟨a,fun x hx=>?_,by simp only[acZ];omega⟩
    rcases b x hx with h1|h1
    ·split at h1
     ·exact .inl h1
     ·rcases List.mem_append.1 h1 with h1|h1
      ·exact .inl h1
      ·simp at h1;subst h1;exact .inr (acM ..)
    ·exact .inr (abI _ h1)
  ·obtain⟨a,b,c⟩:=Tc cs hr T (i+1) G O R h
   exact⟨a,fun x hx=>(b x hx).imp id (abI _),by simp only[acZ];omega⟩
structure StJ(s:Ac)(k:Nat)(y:Ge):Prop where
 hour:y.hour=k
 i:StI s y.own y.gas y.bills y.owed (100000000000000*(k+1))
 fuel:0≤y.fuel∧y.fuel≤800000000*k
theorem StJ.of{s:Ac}{k:Nat}{y y':Ge}(I:StJ s k y)(h1:y'.hour=y.hour)(h2:y'.gas=y.gas)(h3:y'.own=y.own)(h4:y'.fuel=y.fuel)(h5:y'.bills=y.bills)(h6:y'.owed=y.owed):StJ s k y':=by
 obtain⟨a,b,c⟩:=I
 exact⟨by rw[h1];exact a,by rw[h2,h3,h5,h6];exact b,by rw[h4];exact c⟩
theorem Zs{n:Int}{d:Ao}(h3:Jx n d=true){k:Nat}{z:Aw}(hz:d.hours[k]?=some z):k<48∧(0≤z.inn∧0≤z.out)∧(0≤z.flowIn∧z.flowIn≤800000000)∧(0≤z.flowOut∧z.flowOut≤800000000):=by
 simp only[Jx,Vq,Gg,ab1,decide_eq_true_eq,adA]at h3
 have D:=h3.1.1.2 z (abH hz)
 have:=(adK.1 hz).1
 exact⟨by omega,⟨D.1.1.1.1,D.1.1.2.1⟩,D.1.2,D.2⟩
theorem Vs{s:Ac}(h1:Ek s=true){d:Ao}(h3:Jx s.cons.length d=true){k:Nat}{y:Ge}(I:StJ s k y){z:Aw}(hz:d.hours[k]?=some z):StJ s (k+1) (nxt s d z y)∧agL s d y.hour y.own y.fuel z y.gas y.bills y.owed (100000000000000*(k+1))∧yJ s d y.hour y.own y.fuel z y.gas y.bills y.owed:=by
 have S:=Wm h1
 have hcs:∀c∈s.cons,Hj c=true:=adA.1 (Lq h1)
 have hD:=Zs h3 hz
 have hz':d.hours[y.hour.toNat]?=some z:=by rw[I.hour];exact hz
 have E:=ag7 (fuel:=y.fuel) h1 h3 (B:=100000000000000*(k+1)) (by omega) I.i hz'
 have W:=akT (fuel:=y.fuel) h1 h3 (B:=100000000000000*(k+1)) (by omega) I.i (by have:=I.fuel;omega) hz'
 have hO1:(O1 s y.hour y.gas y.bills y.owed).length≤50∧∀t∈O1 s y.hour y.gas y.bills y.owed,t∈y.owed:=by
  have h:=List.length_filter_le (fun t:Ab=>decide (t.back≠y.hour)) y.owed
  have:=I.i.olen
  unfold O1
  rw[Ur,ajU]
  exact⟨by omega,fun t ht=>(List.mem_filter.1 ht).1⟩
 obtain⟨t1,t2,_⟩:=Tc s.cons y.hour d.trades 0 (G1 s y.hour y.gas y.bills y.owed) (O1 s y.hour y.gas y.bills y.owed) [] hO1.1
 have hT:∀t∈d.trades,xQ s.cons.length t:=fun t ht=>by
  have p:=h3
  simp only[Jx,ab1,adA]at p
  exact tok (by have:=S.len;omega) (p.2 t ht)
 refine⟨⟨by show y.hour+1=_;rw[I.hour];rfl,⟨W.gas,W.len.2.1,fun i=>?_,?_,fun t ht=>?_,t1⟩,?_⟩,E,W⟩
 ·show -(100000000000000*(((k+1:Nat):Int)+1))≤gI (L7 s d y.hour z y.gas y.bills y.owed) i∧gI (L7 s d y.hour z y.gas y.bills y.owed) i≤100000000000000*(((k+1:Nat):Int)+1)
  have hl1:=E.l1.2
  have ei:gI (L7 s d y.hour z y.gas y.bills y.owed) i=gI (L7 s d y.hour z y.gas y.bills y.owed) (i.toNat:Int):=by unfold gI;rw[aaE]
  rw[ei]
  by_cases hi:i.toNat<s.cons.length
  ·obtain⟨c,hc⟩:∃c,s.cons[i.toNat]?=some c:=⟨_,acT hi⟩
   have hl:=hl1 (i.toNat:Int)
   have hb:=W.bill _ c hc
   have hf:=W.flow i.toNat
   have hw:=W.cut i.toNat
   obtain⟨_,_,_,_,m1,m2⟩:=tM (hcs c (abH hc)) (b:=gI (L1 s y.hour y.gas y.bills y.owed) i.toNat) hf ⟨hw.1,hw.2.1⟩ hw.2.2 (by omega)
   rw[hb]
   unfold dC
   split<;>split<;>omega
  ·rw[wY (by have:=W.len.2.1;omega)]
   omega
 ·have:=W.ow
  have:=I.i.own
  show -(100000000000000*(((k+1:Nat):Int)+1))≤aH s d y.hour z y.gas y.bills y.owed y.own∧aH s d y.hour z y.gas y.bills y.owed y.own≤_
  omega
 ·rcases t2 t ht with h|h
  ·exact I.i.owed t (hO1.2 t h)
  ·exact hT t h
 ·have:=W.fu
  have:=I.fuel
  show 0≤(G6 s d y.hour z y.gas y.bills y.owed y.fuel).2∧(G6 s d y.hour z y.gas y.bills y.owed y.fuel).2≤_
  omega
theorem akD{s:Ac}{y:Ge}{d:Ao}{z:Aw}{k:Nat}(h1:Ek s=true)(h3:Jx s.cons.length d=true)(I:StJ s k y)(hne:s.cons≠[])(hz:d.hours[k]?=some z):dW s d y.hour z y.owed:=by
 have S:=Wm h1
 have hl:=S.len
 have ol:=I.i.olen
 have hz':d.hours[y.hour.toNat]?=some z:=by rw[I.hour];exact hz
 simp only[Jx,ab1,decide_eq_true_eq,adA]at h3
 obtain⟨⟨⟨⟨⟨d1,d2⟩,d3⟩,d4⟩,d5⟩,d6⟩:=h3
 refine⟨hne,by omega,by omega,fun c hc=>?_,by omega,fun t ht=>(I.i.owed t ht).ok,by omega,fun t ht=>?_,by rw[I.hour];omega,hz'⟩
 ·have C:=S.cons c hc
  exact⟨by have:=C.space;omega,C.rates.1,by have:=C.rates.2;unfold maxLen;omega⟩
 ·exact(lY (by omega) (d6 t ht)).1
theorem xM{s:Ac}{y:Ge}{d:Ao}{k:Nat}(h3:Jx s.cons.length d=true)(I:StJ s k y)(he:s.cons=[]):y.gas=[]∧y.bills=[]∧y.owed=[]∧d.trades=[]:=by
 have p1:=I.i.g.len
 have p2:=I.i.l
 have p3:=I.i.owed
 rw[he]at p1 p2 p3 h3
 refine⟨adL.1 p1,adL.1 p2,?_,?_⟩
 ·refine anY.2 fun t ht=>?_
  have t1:=(p3 t ht).ok.1.1
  have t2:=(p3 t ht).ok.1.2
  simp only[alB]at t2
  omega
 ·refine anY.2 fun t ht=>?_
  simp only[Jx,ab1,adA]at h3
  have:=h3.2 t ht
  simp only[alB,show((0:Nat):Int)=0 from rfl,ad5]at this
  cases this
theorem aw6{s:Ac}{y:Ge}{d:Ao}{z:Aw}{k:Nat}(h3:Jx s.cons.length d=true)(I:StJ s k y)(he:s.cons=[])(hz:d.hours[k]?=some z):ZOK s d y.hour z:=by
 have D:=Zs h3 hz
 exact⟨he,(xM h3 I he).2.2.2,by rw[I.hour];omega,by rw[I.hour];exact hz,D.2.1.1,D.2.1.2⟩
theorem axN{s:Ac}{y:Ge}{d:Ao}{z:Aw}{k:Nat}(h1:Ek s=true)(hz:d.hours[k]?=some z)(h3:Jx s.cons.length d=true)(I:StJ s k y)(he:s.cons=[]):nxt s d z y=⟨y.hour+1,false,[],cD [] z y.own,y.fuel,false,[],false,[]⟩∧flw s d z y=⟨false,[],false,[],false,[],false,[]⟩:=by
 obtain⟨e1,e2,e3,e4⟩:=xM h3 I he
 have t2:T2 s d y.hour y.gas y.bills y.owed=([],[],[]):=by simp[T2,G1,O1,e1,e2,e3,e4,he,Cd,Bc]
 have w3:W3 s d y.hour y.gas y.bills y.owed=[]:=by simp[W3,he,Jc]
 obtain⟨_,_,W⟩:=Vs h1 h3 I hz
 have wl:=W.len
 rw[he]at wl
 have a4:A4 s d y.hour z y.gas y.bills y.owed=[]:=adL.1 wl.2.2.2.2
 have f5:F5 s d y.hour z y.gas y.bills y.owed=[]:=adL.1 wl.2.2.1
 have l7:L7 s d y.hour z y.gas y.bills y.owed=[]:=adL.1 wl.2.1
 have g6:G6 s d y.hour z y.gas y.bills y.owed y.fuel=([],y.fuel):=by simp[G6,f5,t2,Gs]
 exact⟨by unfold nxt aH;rw[g6,t2,l7,a4],by unfold flw;rw[w3,a4,f5,t2]⟩
theorem aaX{s:Ac}{y:Ge}{d:Ao}{z:Aw}{k:Nat}(h3:Jx s.cons.length d=true)(I:StJ s k y)(hz:d.hours[k]?=some z):IntKind.i64.wrap (y.hour+1)=y.hour+1:=by
 have:=Zs h3 hz
 have:=I.hour
 exact Ae (by omega) (by omega)
theorem ajW{s:Ac}{d:Ao}{z:Aw}{y:Ge}{k:Nat}(h1:Ek s=true)(h3:Jx s.cons.length d=true)(I:StJ s k y)(hz:d.hours[k]?=some z):
 ∃g l o w a f r,RdT Bo 64 [.agg s.cells,.agg y.cells,.agg d.cells] [.agg ((nxt s d z y).as g l o).cells,.agg ((flw s d z y).as w a f r).cells] 7:=by
 have hw:=aaX h3 I hz
 by_cases he:s.cons=[]
 ·obtain⟨e1,e2,e3,_⟩:=xM h3 I he
  obtain⟨n1,n2⟩:=axN h1 hz h3 I he
  have q:=al3 (aw6 h3 I he hz) e1 e2 e3
  rw[hw]at q
  obtain⟨g,l,w,k⟩:=av9 q
  rw[n1,n2]
  exact⟨g,l,false,w,false,false,false,k⟩
 ·obtain⟨J,E,W⟩:=Vs h1 h3 I hz
  have q:=aqO (akD h1 h3 I he hz) I.i.g.len I.i.l
  rw[hw]at q
  obtain⟨o,r,k⟩:=aeJ W.len.1 W.len.2.1 W.len.2.2.2.1 W.len.2.2.2.2 W.len.2.2.1 q
  exact⟨true,true,o,true,true,true,r,k⟩
end Go.Proofs.YtdbiogihimdpcaaGreatDoor
