/- The functions of the layer, walked. -/
import Derived.Test.YtdbiogihimdpcaaGreatDoorPartAI
import Derived.Test.YtdbiogihimdpcaaGreatDoorPartAH
import Derived.Test.YtdbiogihimdpcaaGreatDoorLibE
open Int renaming toNat_natCast→aaS,sub_zero→aeH,add_zero→aeZ,tdiv_eq_ediv_of_nonneg→alE
open List renaming mem_of_getElem?→aaW,mem_cons_of_mem→aa0,mem_cons_self→aa6,getElem?_eq_getElem→abB,length_cons→abT,all_eq_true→abY,mem_cons→ab9,not_mem_nil→acF,getElem?_eq_some_iff→acZ,getElem?_map→adV,getElem?_cons_succ→aeW,replicate→ae7,getElem?_eq_none→ae8,nil_append→af4,sum_cons→ai5,getElem?_set_self→akJ,getElem?_set_ne→alC,getElem_mem→alD,append_assoc→alG
open Bool renaming and_eq_true→abO,false_eq_true→aeM,or_eq_true→ae6
open Nat renaming zero_add→acK,add_zero→aeP,le_refl→afM
open Option renaming getD_some→alF
set_option linter.unusedSimpArgs false
set_option linter.unusedVariables false
namespace Go.Proofs.YtdbiogihimdpcaaGreatDoor
open Go.Ev Go
set_option maxRecDepth 100000
set_option maxHeartbeats 16000000
theorem Vn(l:List Int)(i v j:Int):gI (sI l i v) j=if i.toNat=j.toNat∧i.toNat<l.length then v else gI l j:=by
 unfold gI sI
 by_cases h:i.toNat=j.toNat
 ·rw[←h]
  by_cases hl:i.toNat<l.length
  ·rw[if_pos ⟨rfl,hl⟩,akJ hl];rfl
  ·rw[if_neg (fun q=>hl q.2),List.set_eq_of_length_le (by omega)]
 ·rw[if_neg (fun q=>h q.1),alC h]
structure qZ(cs:List Ag)(G:List Int):Prop where
 len:G.length=cs.length
 inn:∀(i:Nat) c,cs[i]?=some c→0≤gI G i∧gI G i≤c.space
def LOK(B:Int)(L:List Int):Prop:=∀i:Int,-B≤gI L i∧gI L i≤B
theorem qZ.at{cs:List Ag}{G:List Int}(h:qZ cs G){i:Int}(hi:inL cs.length i):∃c,cs[i.toNat]?=some c∧0≤gI G i∧gI G i≤c.space:=by
 obtain⟨c,hc⟩:∃c,cs[i.toNat]?=some c:=⟨_,abB hi.toNat⟩
 have:=h.inn i.toNat c hc
 have e:((i.toNat:Nat):Int)=i:=by have:=hi.1;omega
 rw[e]at this
 exact⟨c,hc,this⟩
theorem auM(l:List Int)(i:Int):gI l (i.toNat:Int)=gI l i:=by unfold gI;rw[aaS]
theorem qZ.move{cs:List Ag}{G:List Int}(h:qZ cs G){a b:Int}(ha:inL cs.length a)(hb:inL cs.length b)(hab:a≠b){n:Int}(hn:0≤n)(h1:n≤gI G a)(h2:∀c,cs[b.toNat]?=some c→gI G b+n≤c.space):
 qZ cs (sI (sI G a (gI G a-n)) b (gI G b+n)):=by
 refine⟨by rw[Bg,Bg];exact h.len,fun i c hc=>?_⟩
 have hi:i<cs.length:=(acZ.1 hc).1
 have hh:=h.inn i c hc
 have hla:=ha.toNat
 have hlb:=hb.toNat
 rw[Vn,Vn]
 simp only[aaS,Bg]
 have a0:=ha.1
 have b0:=hb.1
 split
 ·rename_i q
  have q1:=q.1
  subst q1
  have:=h2 c hc
  have h3:=h.at hb
  obtain⟨c',hc',p1,p2⟩:=h3
  exact⟨by omega,this⟩
 ·split
  ·rename_i q
   have q1:=q.1
   subst q1
   rw[auM]at hh
   omega
  ·exact hh
theorem zX{c:Ag}(h:Jb c=true):(0≤c.lack∧c.lack≤10000)∧(0≤c.cut∧c.cut≤10000)∧(0≤c.inn∧c.inn≤10000)∧(0≤c.out∧c.out≤10000)∧(0≤c.fixed∧c.fixed≤10000):=by
 simp only[Jb,abO,Hw,decide_eq_true_eq,List.all_cons,List.all_nil,and_true]at h
 obtain⟨_,h1,h2,h3,h4,h5⟩:=h
 exact⟨h5,h4,h2,h3,h1⟩
structure TOK(n:Nat)(t:Aa):Prop where
 ok:t.ok n
 ne:t.frm≠t.to
 amt:1≤t.amount∧t.amount≤100000000
 back:t.back= -1∨0≤t.back
theorem tok{n:Nat}(hn:n≤1000){t:Aa}(h:Nn n t=true):TOK n t:=by
 obtain⟨a,b,c,d,e⟩:=mP hn h
 exact⟨a,b,⟨c,d⟩,e⟩
def lnN(cs:List Ag)(t:Aa)(G:List Int):Int:=mn (mn t.amount (gI G t.to)) (Gw cs t.frm-gI G t.frm)
def oU(cs:List Ag)(t:Aa)(G:List Int):Int:=(t.amount-mn t.amount (gI G t.to))*aX cs t.to
theorem sA{l:List Int}{i:Int}(hi:inL l.length i):sI l i (gI l i)=l:=by
 unfold sI gI
 have:=hi.toNat
 refine List.ext_getElem? fun j=>?_
 by_cases h:i.toNat=j
 ·subst h;rw[akJ this,abB this];rfl
 ·rw[alC h]
theorem aaG{cs:List Ag}(hcs:∀c∈cs,Jb c=true){t:Aa}(T:TOK cs.length t){G L:List Int}(hG:qZ cs G){B:Int}(hB:0≤B∧B≤4000000000000000000)(hLl:L.length=cs.length)(hL:LOK B L):
 Vm cs t G=sI (sI G t.to (gI G t.to-lnN cs t G)) t.frm (gI G t.frm+lnN cs t G)∧vE cs t G=Vm cs t G∧
 Wp cs t G L=sI (sI L t.to (gI L t.to+oU cs t G)) t.frm (gI L t.frm-oU cs t G)∧uG cs t G L=Wp cs t G L∧
 qZ cs (Vm cs t G)∧LOK (B+1000000000000) (Wp cs t G L)∧(0≤lnN cs t G)∧(0≤oU cs t G∧oU cs t G≤1000000000000):=by
 obtain⟨ct,hct,gt0,gt1⟩:=hG.at T.ok.2
 obtain⟨cf,hcf,gf0,gf1⟩:=hG.at T.ok.1
 have Ct:=Vz (hcs ct (aaW hct))
 have Cf:=Vz (hcs cf (aaW hcf))
 have Lt:=(zX (hcs ct (aaW hct))).1
 have hA:=T.amt
 have sp1:=Ct.space
 have sp2:=Cf.space
 have eS:Gw cs t.frm=cf.space:=by simp[Gw,hcf]
 have eK:aX cs t.to=ct.lack:=by simp[aX,hct]
 have hne:=T.ne
 have i0:=T.ok.1.1
 have j0:=T.ok.2.1
 have wS:IntKind.i64.wrap (cf.space-gI G t.frm)=cf.space-gI G t.frm:=Aj (by omega) (by omega)
 have wA:IntKind.i64.wrap (t.amount-gI G t.to)=t.amount-gI G t.to:=Aj (by omega) (by omega)
 have n0:0≤lnN cs t G∧lnN cs t G≤gI G t.to∧lnN cs t G≤cf.space-gI G t.frm:=by
  unfold lnN mn;rw[eS];split<;>split<;>omega
 have eN:nB cs t G=lnN cs t G:=by
  unfold nB lnN;rw[eS,wS];rfl
 have eR:kW cs t G=lnN cs t G:=by
  unfold kW lnN;rw[eS,wS]
 have m0:0≤t.amount-mn t.amount (gI G t.to)∧t.amount-mn t.amount (gI G t.to)≤100000000:=by
  unfold mn;split<;>omega
 have p0:0≤oU cs t G∧oU cs t G≤1000000000000:=by
  unfold oU;rw[eK]
  have:=cP m0.1 m0.2 Lt.1 Lt.2
  omega
 have eP:qI cs t G=oU cs t G:=by
  have w1:IntKind.i64.wrap (t.amount-mn t.amount (gI G t.to))=t.amount-mn t.amount (gI G t.to):=Aj (by omega) (by omega)
  have p1:=p0
  unfold oU at p1
  unfold qI oU
  rw[w1]
  exact Aj (by omega) (by omega)
 have wt:=hL t.to
 have wf:=hL t.frm
 have ne1:∀(l:List Int) v,gI (sI l t.to v) t.frm=gI l t.frm:=fun l v=>vW j0 i0 (Ne.symm hne) v
 have r1:Vm cs t G=sI (sI G t.to (gI G t.to-lnN cs t G)) t.frm (gI G t.frm+lnN cs t G):=by
  unfold Vm
  rw[eN,ne1,Aj (by omega) (by omega),Aj (by omega) (by omega)]
 have r2:vE cs t G=Vm cs t G:=by
  rw[r1];unfold vE
  rw[eR,Aj (by omega) (by omega),Aj (by omega) (by omega)]
 have r4:uG cs t G L=sI (sI L t.to (gI L t.to+oU cs t G)) t.frm (gI L t.frm-oU cs t G):=by
  unfold uG
  rw[eP,Aj (by omega) (by omega),Aj (by omega) (by omega)]
 have r3:Wp cs t G L=sI (sI L t.to (gI L t.to+oU cs t G)) t.frm (gI L t.frm-oU cs t G):=by
  unfold Wp
  rw[wA]
  split
  ·rename_i hlt
   have eW:lC cs t G=oU cs t G:=by
    rw[←eP];unfold lC qI
    rw[show mn t.amount (gI G t.to)=gI G t.to by unfold mn;rw[if_pos (by omega)]]
   rw[eW,ne1,Aj (by omega) (by omega),Aj (by omega) (by omega)]
  ·rename_i hlt
   have z:oU cs t G=0:=by
    unfold oU
    rw[show mn t.amount (gI G t.to)=t.amount by unfold mn;rw[if_neg (by omega)]]
    simp
   have h1:=T.ok.1
   have h2:=T.ok.2
   rw[←hLl]at h1 h2
   rw[z,aeZ,aeH,sA h2,sA h1]
 refine⟨r1,r2,r3,by rw[r4,r3],?_,?_,n0.1,p0⟩
 ·rw[r1]
  exact hG.move T.ok.2 T.ok.1 (Ne.symm hne) n0.1 n0.2.1 (fun c hc=>by rw[hcf]at hc;cases hc;omega)
 ·rw[r3]
  intro i
  have:=hL i
  rw[Vn]
  split
  ·omega
  ·rw[Vn];split<;>omega
theorem nS{cs:List Ag}(hcs:∀c∈cs,Jb c=true)(hr:Int):∀{O:List Aa},(∀t∈O,TOK cs.length t)→∀{G L:List Int} (p:List Aa) {B:Int},qZ cs G→0≤B→B+1000000000000*O.length≤4000000000000000000→L.length=cs.length→LOK B L→
 Uh cs hr O (G,L,p)=Dv cs hr O (G,L,p)∧qZ cs (Dv cs hr O (G,L,p)).1∧(Dv cs hr O (G,L,p)).2.1.length=cs.length∧LOK (B+1000000000000*O.length) (Dv cs hr O (G,L,p)).2.1
 | [],_,G,L,p,B,hG,h0,hB,hLl,hL=>⟨rfl,hG,hLl,by simpa [Dv]using hL⟩
 |t::O,hO,G,L,p,B,hG,h0,hB,hLl,hL=>by
  have T:=hO t (aa6 ..)
  have hO':∀t∈O,TOK cs.length t:=fun t ht=>hO t (aa0 _ ht)
  simp only[abT]at hB
  by_cases hb:t.back=hr
  ·obtain⟨_,r2,_,r4,g,l,_⟩:=aaG hcs T hG (B:=B) ⟨h0,by omega⟩ hLl hL
   have hb':(t.back==hr)=true:=by simpa using hb
   simp only[Uh,Dv,hb,hb',if_true]
   rw[r2,r4]
   obtain⟨a,b,c,d⟩:=nS hcs hr hO' p g (by omega) (by omega) (by rw[Qa];exact hLl) l
   refine⟨by simpa using a,b,c,fun i=>?_⟩
   have:=d i
   simp only[abT]
   omega
  ·have hb':(t.back==hr)=false:=by simpa using hb
   simp only[Uh,Dv,hb,hb',if_false,aeM]
   obtain⟨a,b,c,d⟩:=nS hcs hr hO' (p++[t]) hG h0 (by omega) hLl hL
   refine⟨a,b,c,fun i=>?_⟩
   have:=d i
   simp only[abT]
   omega
theorem bV{cs:List Ag}(hcs:∀c∈cs,Jb c=true)(hr:Int):∀{T:List Aa},(∀t∈T,TOK cs.length t)→∀{G:List Int} (i:Nat) (O:List Aa) (R:List Int),qZ cs G→qZ cs (Am cs hr T i (G,O,R)).1
 | [],_,G,i,O,R,hG=>hG
 |t::T,hT,G,i,O,R,hG=>by
  have hT':∀t∈T,TOK cs.length t:=fun t ht=>hT t (aa0 _ ht)
  have K:=hT t (aa6 ..)
  simp only[Am]
  split
  ·split
   ·exact bV hcs hr hT' _ _ _ hG
   ·rename_i hno
    refine bV hcs hr hT' _ _ _ ?_
    obtain⟨ct,hct,gt0,gt1⟩:=hG.at K.ok.2
    obtain⟨cf,hcf,gf0,gf1⟩:=hG.at K.ok.1
    have sp1:=(Vz (hcs ct (aaW hct))).space
    have sp2:=(Vz (hcs cf (aaW hcf))).space
    have hA:=K.amt
    have e:Gw cs t.to=ct.space:=by simp[Gw,hct]
    simp only[Hq,ae6,decide_eq_true_eq,not_or,e]at hno
    obtain⟨⟨n1,n2⟩,_⟩:=hno
    rw[Aj (by omega) (by omega)]at n2
    rw[Vs K.ok K.ne,Aj (by omega) (by omega),Aj (by omega) (by omega)]
    exact hG.move K.ok.1 K.ok.2 K.ne (by omega) (by omega) (fun c hc=>by rw[hct]at hc;cases hc;omega)
  ·exact bV hcs hr hT' _ _ _ hG
theorem pN(q:Int):∀(l:List Bh) (o:Bh),Ul q l o=o∨Ul q l o∈l
 | [],o=>.inl rfl
 |r::l,o=>by
  simp only[Ul]
  rcases pN q l (if r.fill≤q then r else o)with h|h
  ·rw[h];split
   ·exact .inr (aa6 ..)
   ·exact .inl rfl
  ·exact .inr (aa0 _ h)
theorem sK{c:Ag}(h:Jb c=true)(g:Int):(0≤(Wg c g).inn∧(Wg c g).inn≤100000000)∧(0≤(Wg c g).out∧(Wg c g).out≤100000000)∧(Ox c).fill=0:=by
 have C:=Vz h
 simp only[Jb,abO]at h
 have hr:=h.1.1.1.1.1
 have r0:Ox c∈c.rates:=by
  unfold Ox
  rw[abB (List.length_pos_iff.2 C.rates.1)]
  exact alD _
 have m:Wg c g∈c.rates:=by
  unfold Wg
  rcases pN (cY c g) c.rates (Ox c)with e|e
  ·rw[e];exact r0
  ·exact e
 have:=Yv hr m
 refine⟨⟨this.1,this.2.1⟩,⟨this.2.2.1,this.2.2.2⟩,?_⟩
 unfold Ox
 cases hc:c.rates with
 |nil=>exact(C.rates.1 hc).elim
 |cons r l=>
  rw[hc]at hr
  simp only[Jt,Uk,abO,decide_eq_true_eq]at hr
  exact hr.1.2
theorem asV{c:Ag}(h:Jb c=true){g:Int}(h0:0≤g)(h1:g≤c.space):0≤cY c g:=by
 have C:=(Vz h).space
 unfold cY
 rw[Aj (n:=1000*g) (by omega) (by omega)]
 have a:0≤(1000*g).tdiv c.space:=Int.tdiv_nonneg (by omega) (by omega)
 have b:(1000*g).tdiv c.space≤1000*g:=by
  rw[alE (by omega)];exact Int.ediv_le_self _ (by omega)
 rw[Aj (by omega) (by omega)];exact a
theorem abA{c:Ag}(h:Jb c=true){n g:Int}(hn: -100000000≤n∧n≤100000000)(h0:0≤g)(h1:g≤c.space):
 mE c n g=qV c n g∧ -g≤qV c n g∧qV c n g≤c.space-g:=by
 have C:=(Vz h).space
 obtain⟨⟨r1,r2⟩,⟨r3,r4⟩,_⟩:=sK h g
 have w1:IntKind.i64.wrap (c.space-g)=c.space-g:=Aj (by omega) (by omega)
 have w2:IntKind.i64.wrap (0-n)=0-n:=Aj (by omega) (by omega)
 have w3:IntKind.i64.wrap (0-(Wg c g).out)=0-(Wg c g).out:=Aj (by omega) (by omega)
 have w4:IntKind.i64.wrap (0-g)=0-g:=Aj (by omega) (by omega)
 unfold mE qV
 rw[w1,w2,w3,w4]
 generalize(Wg c g).inn=a at *
 generalize(Wg c g).out=b at *
 have e1:0≤mx0 (mn (mn n a) (c.space-g))∧mx0 (mn (mn n a) (c.space-g))≤100000000:=by
  unfold mx0 mn;split<;>split<;>split<;>omega
 have e2:0≤mx0 (mn (mn (0-n) b) g)∧mx0 (mn (mn (0-n) b) g)≤100000000:=by
  unfold mx0 mn;split<;>split<;>split<;>omega
 rw[Aj (by omega) (by omega)]
 by_cases hp:0≤n
 ·have z:mx0 (mn (mn (0-n) b) g)=0:=by unfold mx0 mn;split<;>split<;>split<;>omega
  rw[z]
  unfold mx0 mn mX
  refine⟨?_,?_,?_⟩<;>(repeat' split)<;>omega
 ·have z:mx0 (mn (mn n a) (c.space-g))=0:=by unfold mx0 mn;split<;>split<;>split<;>omega
  rw[z]
  unfold mx0 mn mX
  refine⟨?_,?_,?_⟩<;>(repeat' split)<;>omega
theorem qL{l:List Gj}{k:Int}(h:l.all (dP k)=true)(j:Int): -100000000≤Xb l j∧Xb l j≤100000000:=by
 unfold Xb
 cases e:l[j.toNat]? with
 |none=>simp
 |some n=>
  have:=abY.1 h n (aaW e)
  simp only[dP,Hw,abO,decide_eq_true_eq]at this
  simp only[Option.map_some,alF]
  omega
theorem nD{s:Ac}{d:Ap}{hr:Int}{G:List Int}(hn:d.noms.all (dP s.cons.length)=true):∀(l:List Ag) (i:Nat) (p:List Int),p.length=i→(∀c∈l,Jb c=true)→(∀(j:Nat) c,l[j]?=some c→0≤gI G ((i+j:Nat):Int)∧gI G ((i+j:Nat):Int)≤c.space)→
 Kr (Dk s d hr G) l i (p++ae7 l.length 0)=p++Hn s d hr G l i
 | [],i,p,hp,_,_=>by simp[Kr,Hn]
 |c::l,i,p,hp,hc,hG=>by
  have h0:=hG 0 c rfl
  rw[aeP]at h0
  have ih:=nD (hr:=hr) hn l (i+1) (p++[Ja s d hr G i c]) (by simp[hp]) (fun c hc'=>hc c (aa0 _ hc')) (fun j c' hj=>by
   have:=hG (j+1) c' (by simpa using hj)
   rwa[show i+(j+1)=i+1+j by omega]at this)
  have e:=abA (hc c (aa6 ..)) (qL hn (Kz s.lead d.noms i hr d.noms (0,-1))) h0.1 h0.2
  have key:Dk s d hr G i c (p++0::ae7 l.length 0)=p++Ja s d hr G i c::ae7 l.length 0:=by
   unfold Dk Ja
   cases ha:Hw hr c.lo c.hi with
   |false=>simp
   |true=>
    by_cases hk:Kz s.lead d.noms i hr d.noms (0,-1)<0
    ·have hk':¬0≤Kz s.lead d.noms i hr d.noms (0,-1):=by omega
     simp[hk,hk']
    ·have hk':0≤Kz s.lead d.noms i hr d.noms (0,-1):=by omega
     simp only[hk,hk',if_true,if_false,decide_true,Bool.and_self]
     rw[e.1]
     unfold sI
     rw[aaS,List.set_append_right _ _ (by omega),hp,Nat.sub_self]
     rfl
  simp only[Kr,Hn,abT,List.replicate_succ]
  rw[key]
  rw[alG]at ih
  rw[alG]at ih
  exact ih
theorem lD{l:List Int}(ha:Qy l)(h8:l.length≤8){m:Int}(h0:0≤m)(h1:m≤l.sum){i:Nat}{x w:Int}(hx:(Bl m l)[i]?=some x)(hw:l[i]?=some w):0≤x∧x≤w:=by
 unfold Bl at hx
 rw[Ub ha (by omega)]at hx
 have hs:=ha.sum
 by_cases hp:0<l.sum
 ·rw[dL h0 (by omega) hp ha h8]at hx
  have:=Yd h0 h1 hp ha hx hw
  exact⟨this.1,this.2.1⟩
 ·rw[aZ hp]at hx
  have:x=0:=by
   rw[List.getElem?_replicate]at hx
   split at hx
   ·cases hx;rfl
   ·cases hx
  have:=ha w (aaW hw)
  omega
theorem aaD{w:Int}:Bm w=if 0<w then w else 0:=by unfold Bm;rfl
theorem aaV{w:Int}(h: -100000000≤w∧w≤100000000):Bz w=if w<0 then -w else 0:=by
 unfold Bz Bm
 rw[Aj (by omega) (by omega)]
 split<;>split<;>omega
def sZ(w f:Int):Prop:=(0≤w→0≤f∧f≤w)∧(w≤0→w≤f∧f≤0)
theorem akM{l P N:List Int}(hP:P.length=l.length)(hN:N.length=l.length)(hl:∀w∈l,-100000000≤w∧w≤100000000)
 (h1:∀{i:Nat} {x w:Int},P[i]?=some x→l[i]?=some w→0≤x∧x≤Bm w) (h2:∀{i:Nat} {x w:Int},N[i]?=some x→l[i]?=some w→0≤x∧x≤Bz w) (i:Nat):
 sZ (gI l i) (gI (List.zipWith Ti P N) i):=by
 unfold gI
 rw[aaS,List.getElem?_zipWith]
 by_cases hi:i<l.length
 ·obtain⟨w,hw⟩:∃w,l[i]?=some w:=⟨_,abB hi⟩
  obtain⟨x,hx⟩:∃x,P[i]?=some x:=⟨_,abB (by omega)⟩
  obtain⟨y,hy⟩:∃y,N[i]?=some y:=⟨_,abB (by omega)⟩
  have a:=h1 hx hw
  have b:=h2 hy hw
  have c:=hl w (aaW hw)
  rw[aaD]at a
  rw[aaV c]at b
  simp only[hw,hx,hy,alF]
  unfold Ti sZ
  rw[Aj (by split at a<;>split at b<;>omega) (by split at a<;>split at b<;>omega)]
  split at a<;>split at b<;>omega
 ·rw[ae8 (by omega),ae8 (by omega)]
  simp[sZ]
theorem jX{l:List Int}(hl:∀w∈l,-100000000≤w∧w≤100000000):Qy (l.map Bm):=fun w hw=>by
 obtain⟨x,hx,rfl⟩:=List.mem_map.1 hw
 have:=hl x hx
 rw[aaD];split<;>omega
theorem kC{l:List Int}(hl:∀w∈l,-100000000≤w∧w≤100000000):Qy (l.map Bz):=fun w hw=>by
 obtain⟨x,hx,rfl⟩:=List.mem_map.1 hw
 have:=hl x hx
 rw[aaV this];split<;>omega
theorem kG{f:Int→Int}{l:List Int}{i:Nat}{y w:Int}(h:(l.map f)[i]?=some y)(hw:l[i]?=some w):y=f w:=by
 rw[adV,hw]at h;simpa using h.symm
theorem ajZ{cs:List Ag}{l:List Int}(hl:∀w∈l,-100000000≤w∧w≤100000000)(hc:l.length=cs.length)(h8:l.length≤8){a b:Int}(ha:0≤a∧a≤800000000)(hb:0≤b∧b≤800000000)(i:Nat):
 sZ (gI l i) (gI (Eu Gk cs l a b) i):=by
 have c1:=aw9 (cs:=cs) (l:=l.map Bm) (m:=a) (by simpa using hc) (by simpa using h8) (jX hl) ha.1 ha.2
 have c2:=aw9 (cs:=cs) (l:=l.map Bz) (m:=b) (by simpa using hc) (by simpa using h8) (kC hl) hb.1 hb.2
 refine akM (by rw[c1.len];simp) (by rw[c2.len];simp) hl (fun hx hw=>?_) (fun hx hw=>?_) i
 ·obtain⟨y,hy⟩:∃y,(l.map Bm)[_]?=some y:=⟨_,by rw[adV,hw];rfl⟩
  have:=c1.ins hx hy
  rwa[kG hy hw]at this
 ·obtain⟨y,hy⟩:∃y,(l.map Bz)[_]?=some y:=⟨_,by rw[adV,hw];rfl⟩
  have:=c2.ins hx hy
  rwa[kG hy hw]at this
theorem am5{A:List Int}(hl:∀w∈A,-100000000≤w∧w≤100000000)(h8:A.length≤8){z:Bc}(h1:0≤z.flowIn)(h2:0≤z.flowOut)(i:Nat):sZ (gI A i) (gI (RF z A) i):=by
 have p:=jX hl
 have q:=kC hl
 have sp:=Ub p (by simp;omega)
 have sq:=Ub q (by simp;omega)
 have bp:=p.sum
 have bq:=q.sum
 refine akM (by unfold Bl;rw[Eg];simp) (by unfold Bl;rw[Eg];simp) hl (fun hx hw=>?_) (fun hx hw=>?_) i
 ·obtain⟨y,hy⟩:∃y,(A.map Bm)[_]?=some y:=⟨_,by rw[adV,hw];rfl⟩
  have:=lD p (by simpa using h8) (by unfold mn;split<;>omega) (by unfold mn;split<;>omega) hx hy
  rwa[kG hy hw]at this
 ·obtain⟨y,hy⟩:∃y,(A.map Bz)[_]?=some y:=⟨_,by rw[adV,hw];rfl⟩
  have:=lD q (by simpa using h8) (by unfold mn;split<;>omega) (by unfold mn;split<;>omega) hx hy
  rwa[kG hy hw]at this
theorem yB{A:List Int}(hl:∀w∈A,-100000000≤w∧w≤100000000)(h8:A.length≤8){z:Bc}(h1:0≤z.flowIn∧z.flowIn≤800000000)(h2:0≤z.flowOut∧z.flowOut≤800000000){own:Int}(ho: -4000000000000000000≤own∧own≤4000000000000000000):
 eJ A z own=jQ z A own∧jQ z A own=own+(z.flowIn-mn z.flowIn (A.map Bm).sum)-(z.flowOut-mn z.flowOut (A.map Bz).sum)∧(0≤mn z.flowIn (A.map Bm).sum∧mn z.flowIn (A.map Bm).sum≤z.flowIn)∧(0≤mn z.flowOut (A.map Bz).sum∧mn z.flowOut (A.map Bz).sum≤z.flowOut):=by
 have p:=jX hl
 have q:=kC hl
 have sp:=Ub p (by simp;omega)
 have sq:=Ub q (by simp;omega)
 have bp:=p.sum
 have bq:=q.sum
 have m1:0≤mn z.flowIn (A.map Bm).sum∧mn z.flowIn (A.map Bm).sum≤z.flowIn:=by unfold mn;split<;>omega
 have m2:0≤mn z.flowOut (A.map Bz).sum∧mn z.flowOut (A.map Bz).sum≤z.flowOut:=by unfold mn;split<;>omega
 have e:jQ z A own=own+(z.flowIn-mn z.flowIn (A.map Bm).sum)-(z.flowOut-mn z.flowOut (A.map Bz).sum):=by
  unfold jQ
  rw[sp,sq]
  rw[Aj (n:=own+z.flowIn) (by omega) (by omega),Aj (n:=own+z.flowIn-_) (by omega) (by omega),Aj (n:=own+z.flowIn-_-z.flowOut) (by omega) (by omega),Aj (by omega) (by omega)]
  omega
 refine⟨?_,e,m1,m2⟩
 rw[e]
 unfold eJ Ji Le
 rw[show min2=mn from rfl,sp,sq]
 rw[Aj (n:=z.flowIn-_) (by omega) (by omega),Aj (n:=z.flowOut-_) (by omega) (by omega),Aj (n:=z.flowIn-_-_) (by omega) (by omega),Aj (by omega) (by omega)]
 omega
theorem rX{s:Ac}(hf:0≤s.fuel∧s.fuel≤1000){f:Int}(h: -100000000≤f∧f≤100000000):Oq s f=Nk s.fuel f∧0≤Oq s f∧Oq s f≤Hu f∧(0≤Hu f∧Hu f≤100000000∧0≤Kx f∧Kx f≤100000000∧Hu f-Kx f=f):=by
 have g:Kx f=mX 0 (0-f):=by unfold Kx;rw[Aj (by omega) (by omega)]
 have c0:0≤Hu f∧Hu f≤100000000∧0≤Kx f∧Kx f≤100000000∧Hu f-Kx f=f:=by
  rw[g];unfold Hu mX;split<;>split<;>omega
 have m:=cP c0.1 c0.2.1 hf.1 hf.2
 have e:Oq s f=Hu f*s.fuel / 1000:=by
  unfold Oq
  rw[Aj (n:=Hu f*s.fuel) (by omega) (by omega),alE m.1,Aj (by omega) (by omega)]
 refine⟨rfl,by rw[e];omega,?_,c0⟩
 rw[e]
 have:Hu f*s.fuel≤Hu f*1000:=Int.mul_le_mul_of_nonneg_left hf.2 c0.1
 omega
theorem aaT{s:Ac}(hf:0≤s.fuel∧s.fuel≤1000){f g:Int}(h: -100000000≤f∧f≤100000000)(hg:0≤g∧g≤100000000):IntKind.i64.wrap (g+IntKind.i64.wrap (f-Nk s.fuel f))=yT s f g∧yT s f g=g+f-Oq s f:=by
 obtain⟨e,a,b,c⟩:=rX hf h
 rw[←e]
 have r:yT s f g=g+f-Oq s f:=by
  unfold yT
  rw[Aj (n:=g+Hu f) (by omega) (by omega),Aj (n:=g+Hu f-_) (by omega) (by omega),Aj (by omega) (by omega)]
  omega
 rw[r,Aj (n:=f-Oq s f) (by omega) (by omega),Aj (by omega) (by omega)]
 exact⟨by omega,rfl⟩
theorem agM{s:Ac}(hf:0≤s.fuel∧s.fuel≤1000)(hr:Int)(W A:List Int):∀(F:List Int) (i:Nat) (G:List Int) (fu:Int) (L:List Int),(∀x∈F,-100000000≤x∧x≤100000000)→(∀j:Nat,i≤j→j<i+F.length→0≤gI G j∧gI G j≤100000000)→
 (Xs s hr W A F i (G,fu,L)).1=(Hy s.fuel F i (G,fu)).1∧(Xs s hr W A F i (G,fu,L)).2.1=(Hy s.fuel F i (G,fu)).2
 | [],_,_,_,_,_,_=>⟨rfl,rfl⟩
 |f::F,i,G,fu,L,hF,hG=>by
  have e:=(aaT hf (hF f (aa6 ..)) (hG i (afM _) (by simp))).1
  simp only[Xs,Hy]
  rw[e]
  refine agM hf hr W A F (i+1) _ _ _ (fun x hx=>hF x (aa0 _ hx)) (fun j h1 h2=>?_)
  rw[Vn]
  rw[if_neg (by simp only[aaS];omega)]
  exact hG j (by omega) (by simp only[abT];omega)
def dE(k:Int):Int:=mX k (0-k)
theorem xB{c:Ag}(h:Jb c=true){f w a b:Int}(hf: -100000000≤f∧f≤100000000)(hw: -100000000≤w∧w≤100000000)(ha: -100000000≤a∧a≤100000000)(hb: -4000000000000000000≤b∧b≤4000000000000000000):
 IntKind.i64.wrap (b+Zl c f)=aeX c f b∧aeX c f b=b+(c.fixed+c.inn*Hu f+c.out*Kx f)∧zV c (IntKind.i64.wrap (w-a))=c.cut*dE (w-a)∧(∀v,-4000000000000000000≤v→v≤4000000000010000000+4000000000000→auL c w a v=v-c.cut*dE (w-a))∧(0≤c.cut*dE (w-a)∧c.cut*dE (w-a)≤2000000000000)∧(0≤c.fixed+c.inn*Hu f+c.out*Kx f∧c.fixed+c.inn*Hu f+c.out*Kx f≤2000000010000):=by
 obtain⟨_,h1,h2,h3,h4⟩:=zX h
 have g:Kx f=mX 0 (0-f):=by unfold Kx;rw[Aj (by omega) (by omega)]
 have c0:0≤Hu f∧Hu f≤100000000∧0≤Kx f∧Kx f≤100000000:=by
  rw[g];unfold Hu mX;split<;>split<;>omega
 have m1:=cP h2.1 h2.2 c0.1 c0.2.1
 have m2:=cP h3.1 h3.2 c0.2.2.1 c0.2.2.2
 have k0:0≤dE (w-a)∧dE (w-a)≤200000000:=by unfold dE mX;split<;>omega
 have m3:=cP h1.1 h1.2 k0.1 k0.2
 have e1:aeX c f b=b+(c.fixed+c.inn*Hu f+c.out*Kx f):=by
  unfold aeX
  rw[Aj (n:=c.inn*Hu f) (by omega) (by omega),Aj (n:=c.out*Kx f) (by omega) (by omega),Aj (n:=b+c.fixed) (by omega) (by omega),Aj (n:=b+c.fixed+_) (by omega) (by omega),Aj (by omega) (by omega)]
  omega
 have e2:Zl c f=c.fixed+c.inn*Hu f+c.out*Kx f:=by
  unfold Zl
  rw[show mX 0 f=Hu f from rfl,show mX 0 (IntKind.i64.wrap (0-f))=Kx f from rfl]
  rw[Aj (n:=c.inn*Hu f) (by omega) (by omega),Aj (n:=c.out*Kx f) (by omega) (by omega),Aj (n:=c.fixed+_) (by omega) (by omega),Aj (by omega) (by omega)]
 have wa:IntKind.i64.wrap (w-a)=w-a:=Aj (by omega) (by omega)
 have aw:IntKind.i64.wrap (a-w)=a-w:=Aj (by omega) (by omega)
 refine⟨by rw[e2,e1,Aj (by omega) (by omega)],e1,?_,?_,by omega,by omega⟩
 ·unfold zV
  rw[wa,Aj (n:=0-(w-a)) (by omega) (by omega),show mX (w-a) (0-(w-a))=dE (w-a)from rfl,Aj (by omega) (by omega)]
 ·intro v v1 v2
  unfold auL
  rw[wa,aw,show mX (w-a) (a-w)=dE (w-a) by unfold dE;rw[show 0-(w-a)=a-w by omega],Aj (n:=c.cut*dE (w-a)) (by omega) (by omega),Aj (by omega) (by omega)]
theorem avX(l:List Int)(i:Int)(v w:Int):sI (sI l i v) i w=sI l i w:=by unfold sI;rw[List.set_set]
def nQ(c:Ag)(hr f w a b:Int):Int:=b+(if Hw hr c.lo c.hi=true then c.fixed+c.inn*Hu f+c.out*Kx f else 0)-(if c.firm=true then c.cut*dE (w-a)else 0)
theorem xC{c:Ag}(h:Jb c=true){hr:Int}{F W A L:List Int}{i:Nat}(hi:i<L.length)(hf: -100000000≤gI F i∧gI F i≤100000000)(hw: -100000000≤gI W i∧gI W i≤100000000)(ha: -100000000≤gI A i∧gI A i≤100000000)(hb: -3000000000000000000≤gI L i∧gI L i≤3000000000000000000)
 (h0:Hw hr c.lo c.hi=false→gI W i=0∧gI A i=0):Da hr F W A i c L=sI L i (nQ c hr (gI F i) (gI W i) (gI A i) (gI L i))∧mJ c hr (gI F i) (gI W i) (gI A i) (gI L i)=nQ c hr (gI F i) (gI W i) (gI A i) (gI L i):=by
 obtain⟨e1,e2,e3,e4,m1,m2⟩:=xB h hf hw ha (b:=gI L i) ⟨by omega,by omega⟩
 unfold Da mJ nQ
 have gi:∀v,gI (sI L i v) i=v:=fun v=>by rw[Vn,if_pos ⟨rfl,by simpa using hi⟩]
 cases hact:Hw hr c.lo c.hi with
 |true=>
  cases hfirm:c.firm with
  |true=>
   simp only[if_true]
   rw[gi,e1,e2,avX,e3,e4 _ (by omega) (by omega),Aj (by omega) (by omega)]
   exact⟨rfl,rfl⟩
  |false=>
   simp only[if_true,aeM,if_false]
   rw[e1,e2,aeH]
   exact⟨rfl,rfl⟩
 |false=>
  obtain⟨z1,z2⟩:=h0 hact
  have z3:c.cut*dE (gI W i-gI A i)=0:=by rw[z1,z2];simp[dE,mX]
  have s0:sI L i (gI L i)=L:=sA ⟨by omega,by omega⟩
  cases hfirm:c.firm with
  |true=>
   simp only[if_true,aeM,if_false]
   rw[z3,e4 _ (by omega) (by omega),z3,aeZ,aeH,s0]
   exact⟨rfl,rfl⟩
  |false=>
   simp only[aeM,if_false]
   rw[aeZ,aeH,s0]
   exact⟨rfl,rfl⟩
theorem oV{α:Type}{l rest:List α}{x:α}{i:Nat}(h:l.drop i=x::rest):l[i]?=some x∧l.drop (i+1)=rest:=by
 have h1:=congrArg (·[0]?) h
 have h2:=congrArg List.tail h
 simp only[List.getElem?_drop,aeP,List.getElem?_cons_zero,List.tail_drop,List.tail_cons]at h1 h2
 exact⟨h1,h2⟩
theorem tV{s:Ac}(hcs:∀c∈s.cons,Jb c=true){hr:Int}{F W A:List Int}(hF:F.length=s.cons.length)(hf:∀i:Nat,-100000000≤gI F i∧gI F i≤100000000)(hw:∀i:Nat,-100000000≤gI W i∧gI W i≤100000000)(ha:∀i:Nat,-100000000≤gI A i∧gI A i≤100000000)
 (h0:∀(i:Nat) c,s.cons[i]?=some c→Hw hr c.lo c.hi=false→gI W i=0∧gI A i=0):∀(rest:List Int) (l:List Ag) (i:Nat) (G:List Int) (fu:Int) (L:List Int),F.drop i=rest→s.cons.drop i=l→L.length=s.cons.length→(∀j:Nat,i≤j→ -3000000000000000000≤gI L j∧gI L j≤3000000000000000000)→
 (Xs s hr W A rest i (G,fu,L)).2.2=Kr (Da hr F W A) l i L
 | [],l,i,G,fu,L,h1,h2,_,_=>by
   have:l=[]:=by
    have:=congrArg List.length h1
    have:=congrArg List.length h2
    simp at *
    exact List.length_eq_zero_iff.1 (by omega)
   subst this
   rfl
 |f::rest,l,i,G,fu,L,h1,h2,hL,hb=>by
  obtain⟨a1,a2⟩:=oV h1
  have hi:i<s.cons.length:=by have:=(acZ.1 a1).1;omega
  cases l with
  |nil=>simp at h2;omega
  |cons c l=>
   obtain⟨b1,b2⟩:=oV h2
   have ef:gI F i=f:=by unfold gI;rw[aaS,a1];rfl
   have ec:oL s.cons i=c:=by unfold oL;rw[b1];rfl
   obtain⟨q1,q2⟩:=xC (hcs c (aaW b1)) (hr:=hr) (F:=F) (W:=W) (A:=A) (L:=L) (i:=i) (by omega) (hf i) (hw i) (ha i) (hb i (afM _)) (h0 i c b1)
   simp only[Xs,Kr]
   rw[ec,←ef,q2,q1]
   refine tV hcs hF hf hw ha h0 rest l (i+1) _ _ _ a2 b2 (by rw[Bg];exact hL) (fun j hj=>?_)
   rw[Vn,if_neg (by simp only[aaS];omega)]
   exact hb j (by omega)
structure StI(s:Ac)(own:Int)(G L:List Int)(O:List Aa)(B:Int):Prop where
 g:qZ s.cons G
 l:L.length=s.cons.length
 lok:LOK B L
 own: -B≤own∧own≤B
 owed:∀t∈O,TOK s.cons.length t
 olen:O.length≤50
structure ag5(s:Ac)(d:Ap)(hr own fuel:Int)(z:Bc)(G L:List Int)(O:List Aa)(B:Int):Prop where
 rg:RG s hr G L O=(G1 s hr G L O,L1 s hr G L O,O1 s hr G L O)
 g1:qZ s.cons (G1 s hr G L O)
 l1:(L1 s hr G L O).length=s.cons.length∧LOK (B+50000000000000) (L1 s hr G L O)
 rt:RT s d hr G L O=T2 s d hr G L O
 g2:qZ s.cons (T2 s d hr G L O).1
 rw:RW s d hr G L O=W3 s d hr G L O
 w3:∀(i:Nat) c,s.cons[i]?=some c→ -(gI (T2 s d hr G L O).1 i)≤gI (W3 s d hr G L O) i∧gI (W3 s d hr G L O) i≤c.space-gI (T2 s d hr G L O).1 i
 w0:∀(i:Nat) c,s.cons[i]?=some c→Hw hr c.lo c.hi=false→gI (W3 s d hr G L O) i=0
 ra:RA s d hr z G L O=A4 s d hr z G L O
 a4:∀i:Nat,sZ (gI (W3 s d hr G L O) i) (gI (A4 s d hr z G L O) i)
 f5:∀i:Nat,sZ (gI (A4 s d hr z G L O) i) (gI (F5 s d hr z G L O) i)
 own:jQ z (A4 s d hr z G L O) own=bY s d hr z G L O own
 fin:Xs s hr (W3 s d hr G L O) (A4 s d hr z G L O) (F5 s d hr z G L O) 0 ((T2 s d hr G L O).1,fuel,L1 s hr G L O)=((G6 s d hr z G L O fuel).1,(G6 s d hr z G L O fuel).2,L7 s d hr z G L O)
theorem nZ{l:List Int}{P:Int→Prop}(h0:P 0)(h:∀i:Nat,P (gI l i)):∀w∈l,P w:=fun w hw=>by
 obtain⟨i,hi,rfl⟩:=List.getElem_of_mem hw
 have:=h i
 unfold gI at this
 rw[aaS,abB hi]at this
 exact this
theorem yS{l:List Int}{i:Nat}(h:l.length≤i):gI l i=0:=by unfold gI;rw[aaS,ae8 h];rfl
theorem bD{s:Ac}{d:Ap}{hr:Int}{G:List Int}:∀(l:List Ag) (i j:Nat) c,l[j]?=some c→(Hn s d hr G l i)[j]?=some (Ja s d hr G (i+j) c)
 | [],_,j,c,h=>by simp at h
 |x::l,i,0,c,h=>by simp at h;subst h;rfl
 |x::l,i,j+1,c,h=>by
  have:=bD (s:=s) (d:=d) (hr:=hr) (G:=G) l (i+1) j c (by simpa using h)
  simp only[Hn,aeW]
  rw[this,show i+1+j=i+(j+1) by omega]
theorem zB{s:Ac}(h1:Es s=true){d:Ap}(h3:Jz s.cons.length d=true){hr own fuel:Int}{z:Bc}{G L:List Int}{O:List Aa}{B:Int}(hB:0≤B∧B≤2000000000000000000)(I:StI s own G L O B)(hz:d.hours[hr.toNat]?=some z):ag5 s d hr own fuel z G L O B:=by
 have S:=Px h1
 have hcs:∀c∈s.cons,Jb c=true:=abY.1 (Qz h1)
 have hl:=S.len
 simp only[Jz,abO,decide_eq_true_eq]at h3
 obtain⟨⟨⟨⟨⟨d1,d2⟩,d3⟩,d4⟩,d5⟩,d6⟩:=h3
 have hT:∀t∈d.trades,TOK s.cons.length t:=fun t ht=>tok (by omega) (abY.1 d6 t ht)
 have hzb:=abY.1 d4 z (aaW hz)
 simp only[Xt,Hw,abO,decide_eq_true_eq]at hzb
 obtain⟨⟨⟨z1,z2⟩,z3⟩,z4⟩:=hzb
 have ol:=I.olen
 obtain⟨q1,q2,q3,q4⟩:=nS hcs hr I.owed [] I.g (B:=B) hB.1 (by omega) I.l I.lok
 have rg:RG s hr G L O=(G1 s hr G L O,L1 s hr G L O,O1 s hr G L O):=q1
 have rt:RT s d hr G L O=T2 s d hr G L O:=by
  unfold RT T2;rw[rg]
 have g2:qZ s.cons (T2 s d hr G L O).1:=bV hcs hr hT 0 _ _ q2
 have hW:=nD (s:=s) (hr:=hr) d5 s.cons 0 [] rfl hcs (fun j c hj=>by rw[acK];exact g2.inn j c hj)
 rw[af4,af4]at hW
 have rw_:RW s d hr G L O=W3 s d hr G L O:=by
  unfold RW W3;rw[rt];exact hW.symm
 have wl:(W3 s d hr G L O).length=s.cons.length:=by rw[←rw_];unfold RW;rw[Qb]
 have wget:∀(i:Nat) c,s.cons[i]?=some c→gI (W3 s d hr G L O) i=Ja s d hr (T2 s d hr G L O).1 i c:=fun i c hc=>by
  have:=bD (s:=s) (d:=d) (hr:=hr) (G:=(T2 s d hr G L O).1) s.cons 0 i c hc
  rw[←rw_];unfold RW gI
  rw[rt,aaS,this,acK];rfl
 have w3:∀(i:Nat) c,s.cons[i]?=some c→ -(gI (T2 s d hr G L O).1 i)≤gI (W3 s d hr G L O) i∧gI (W3 s d hr G L O) i≤c.space-gI (T2 s d hr G L O).1 i:=fun i c hc=>by
  have gi:=g2.inn i c hc
  rw[wget i c hc]
  unfold Ja
  split
  ·exact(abA (hcs c (aaW hc)) (qL d5 _) gi.1 gi.2).2
  ·omega
 have w0:∀(i:Nat) c,s.cons[i]?=some c→Hw hr c.lo c.hi=false→gI (W3 s d hr G L O) i=0:=fun i c hc ha=>by
  rw[wget i c hc];unfold Ja;rw[ha];simp
 have wb:∀i:Nat,-100000000≤gI (W3 s d hr G L O) i∧gI (W3 s d hr G L O) i≤100000000:=fun i=>by
  by_cases hi:i<s.cons.length
  ·have hc:s.cons[i]?=some s.cons[i]:=abB hi
   have a:=w3 i _ hc
   have b:=g2.inn i _ hc
   have c:=(Vz (hcs _ (aaW hc))).space
   omega
  ·rw[yS (by omega)];omega
 have wm:∀w∈W3 s d hr G L O,-100000000≤w∧w≤100000000:=nZ (P:=fun w=> -100000000≤w∧w≤100000000) (by omega) wb
 have ra:RA s d hr z G L O=A4 s d hr z G L O:=by
  unfold RA A4
  rw[rw_]
  refine(vQ ?_ _ _).symm
  simp only[yC,abY,Hw,abO,decide_eq_true_eq]
  exact wm
 have a4:∀i:Nat,sZ (gI (W3 s d hr G L O) i) (gI (A4 s d hr z G L O) i):=fun i=>by
  rw[←ra];unfold RA;rw[rw_]
  exact ajZ wm wl (by omega) z1 z2 i
 have al:(A4 s d hr z G L O).length=s.cons.length:=by
  rw[←ra];unfold RA;rw[rw_];simp[Eu,Nu,wl]
 have ab:∀i:Nat,-100000000≤gI (A4 s d hr z G L O) i∧gI (A4 s d hr z G L O) i≤100000000:=fun i=>by
  have a:=a4 i
  have b:=wb i
  unfold sZ at a
  by_cases hp:0≤gI (W3 s d hr G L O) i
  ·have:=a.1 hp;omega
  ·have:=a.2 (by omega);omega
 have am:=nZ (P:=fun w=> -100000000≤w∧w≤100000000) (by omega) ab
 have f5:∀i:Nat,sZ (gI (A4 s d hr z G L O) i) (gI (F5 s d hr z G L O) i):=fun i=>am5 am (by omega) z3.1 z4.1 i
 have fb:∀i:Nat,-100000000≤gI (F5 s d hr z G L O) i∧gI (F5 s d hr z G L O) i≤100000000:=fun i=>by
  have a:=f5 i
  have b:=ab i
  unfold sZ at a
  by_cases hp:0≤gI (A4 s d hr z G L O) i
  ·have:=a.1 hp;omega
  ·have:=a.2 (by omega);omega
 have fm:=nZ (P:=fun w=> -100000000≤w∧w≤100000000) (by omega) fb
 have fl:(F5 s d hr z G L O).length=s.cons.length:=by
  show(RF z (A4 s d hr z G L O)).length=_
  simp[RF,Bl,Eg,al]
 have a0:∀(i:Nat) c,s.cons[i]?=some c→Hw hr c.lo c.hi=false→gI (W3 s d hr G L O) i=0∧gI (A4 s d hr z G L O) i=0:=fun i c hc ha=>by
  have w:=w0 i c hc ha
  have a:=a4 i
  rw[w]at a
  have:=a.1 (by omega)
  exact⟨w,by omega⟩
 have own:=(yB am (by omega) z3 z4 (own:=own) (by have:=I.own;omega)).1
 have l1:LOK (B+50000000000000) (L1 s hr G L O):=fun i=>by
  have:=q4 i
  have e:(L1 s hr G L O)=(Dv s.cons hr O (G,L,[])).2.1:=rfl
  rw[←e]at this
  omega
 have fin1:=agM (s:=s) S.fuel hr (W3 s d hr G L O) (A4 s d hr z G L O) (F5 s d hr z G L O) 0 (T2 s d hr G L O).1 fuel (L1 s hr G L O) fm (fun j _ hj=>by
  rw[acK,fl]at hj
  have hc:s.cons[j]?=some s.cons[j]:=abB hj
  have b:=g2.inn j _ hc
  have c:=(Vz (hcs _ (aaW hc))).space
  omega)
 have fin2:=tV (s:=s) hcs (hr:=hr) fl fb wb ab a0 (F5 s d hr z G L O) s.cons 0 (T2 s d hr G L O).1 fuel (L1 s hr G L O) rfl rfl q3 (fun j _=>by have:=l1 j;omega)
 refine⟨rg,q2,⟨q3,l1⟩,rt,g2,rw_,w3,w0,ra,a4,f5,own.symm,?_⟩
 exact Prod.ext fin1.1 (Prod.ext fin1.2 fin2)
theorem abR:∀(l:List Int) (k:Nat) (v:Int),k<l.length→(l.set k v).sum=l.sum-(l[k]?).getD 0+v
 | [],k,_,h=>by simp at h
 |x::l,0,v,_=>by simp;omega
 |x::l,k+1,v,h=>by
  have:=abR l k v (by simpa using h)
  simp only[List.set_cons_succ,ai5,aeW]
  omega
theorem xP{l:List Int}{i:Int}(hi:inL l.length i)(v:Int):(sI l i v).sum=l.sum-gI l i+v:=abR l _ v hi.toNat
theorem nC{l:List Int}{a b:Int}(ha:inL l.length a)(hb:inL l.length b)(hab:a≠b)(n m:Int)(hn:n=m):(sI (sI l a (gI l a-n)) b (gI l b+m)).sum=l.sum:=by
 rw[xP (by rw[Bg];exact hb),xP ha,vW ha.1 hb.1 hab]
 omega
theorem rN{l:List Int}{a b i:Int}(ha:0≤a)(hb:0≤b)(hi:0≤i)(h1:a≠i)(h2:b≠i)(v w:Int):gI (sI (sI l a v) b w) i=gI l i:=by
 rw[vW hb hi h2,vW ha hi h1]
theorem fM{cs:List Ag}(hcs:∀c∈cs,Jb c=true)(hr:Int):∀{O:List Aa},(∀t∈O,TOK cs.length t)→∀{G L:List Int} (p:List Aa) {B:Int},qZ cs G→0≤B→B+1000000000000*O.length≤4000000000000000000→L.length=cs.length→LOK B L→
 (Dv cs hr O (G,L,p)).1.sum=G.sum∧(Dv cs hr O (G,L,p)).2.1.sum=L.sum∧∀i:Int,0≤i→(∀t∈O,t.back=hr→t.frm≠i∧t.to≠i)→gI (Dv cs hr O (G,L,p)).1 i=gI G i∧gI (Dv cs hr O (G,L,p)).2.1 i=gI L i
 | [],_,G,L,p,B,hG,h0,hB,hLl,hL=>⟨rfl,rfl,fun _ _ _=>⟨rfl,rfl⟩⟩
 |t::O,hO,G,L,p,B,hG,h0,hB,hLl,hL=>by
  have T:=hO t (aa6 ..)
  have hO':∀t∈O,TOK cs.length t:=fun t ht=>hO t (aa0 _ ht)
  simp only[abT]at hB
  by_cases hb:t.back=hr
  ·obtain⟨r1,_,r3,_,g,l,_⟩:=aaG hcs T hG (B:=B) ⟨h0,by omega⟩ hLl hL
   simp only[Dv,hb,if_true]
   obtain⟨a,b,c⟩:=fM hcs hr hO' p g (by omega) (by omega) (by rw[Qa];exact hLl) l
   have i1:=T.ok.1
   have i2:=T.ok.2
   refine⟨?_,?_,fun i hi h=>?_⟩
   ·rw[a,r1]
    exact nC (by rw[hG.len];exact i2) (by rw[hG.len];exact i1) (Ne.symm T.ne) _ _ rfl
   ·rw[b,r3]
    have e:gI L t.frm-oU cs t G=gI L t.frm+ -(oU cs t G):=by omega
    have e2:gI L t.to+oU cs t G=gI L t.to - -(oU cs t G):=by omega
    rw[e,e2]
    exact nC (by rw[hLl];exact i2) (by rw[hLl];exact i1) (Ne.symm T.ne) _ _ rfl
   ·have k:=h t (aa6 ..) hb
    have c':=c i hi (fun t ht=>h t (aa0 _ ht))
    rw[c'.1,c'.2,r1,r3,rN i2.1 i1.1 hi k.2 k.1,rN i2.1 i1.1 hi k.2 k.1]
    exact⟨rfl,rfl⟩
  ·simp only[Dv,hb,if_false]
   obtain⟨a,b,c⟩:=fM hcs hr hO' (p++[t]) hG h0 (by omega) hLl hL
   exact⟨a,b,fun i hi h=>c i hi (fun t ht=>h t (aa0 _ ht))⟩
theorem Yq{cs:List Ag}(hcs:∀c∈cs,Jb c=true)(hr:Int):∀{T:List Aa},(∀t∈T,TOK cs.length t)→∀{G:List Int} (i:Nat) (O:List Aa) (R:List Int),qZ cs G→
 (Am cs hr T i (G,O,R)).1.sum=G.sum∧∀j:Int,0≤j→(∀t∈T,t.hour=hr→t.frm≠j∧t.to≠j)→gI (Am cs hr T i (G,O,R)).1 j=gI G j
 | [],_,G,i,O,R,hG=>⟨rfl,fun _ _ _=>rfl⟩
 |t::T,hT,G,i,O,R,hG=>by
  have hT':∀t∈T,TOK cs.length t:=fun t ht=>hT t (aa0 _ ht)
  have K:=hT t (aa6 ..)
  simp only[Am]
  split
  ·rename_i hh
   have hh':t.hour=hr:=by simpa using hh
   split
   ·obtain⟨a,b⟩:=Yq hcs hr hT' (i+1) O (R++[(i:Int)]) hG
    exact⟨a,fun j hj h=>b j hj (fun t ht=>h t (aa0 _ ht))⟩
   ·rename_i hno
    obtain⟨ct,hct,gt0,gt1⟩:=hG.at K.ok.2
    obtain⟨cf,hcf,gf0,gf1⟩:=hG.at K.ok.1
    have sp1:=(Vz (hcs ct (aaW hct))).space
    have sp2:=(Vz (hcs cf (aaW hcf))).space
    have hA:=K.amt
    have e:Gw cs t.to=ct.space:=by simp[Gw,hct]
    simp only[Hq,ae6,decide_eq_true_eq,not_or,e]at hno
    obtain⟨⟨n1,n2⟩,_⟩:=hno
    rw[Aj (by omega) (by omega)]at n2
    have eG:Ht t G=sI (sI G t.frm (gI G t.frm-t.amount)) t.to (gI G t.to+t.amount):=by
     rw[Vs K.ok K.ne,Aj (by omega) (by omega),Aj (by omega) (by omega)]
    have hG':qZ cs (Ht t G):=by
     rw[eG]
     exact hG.move K.ok.1 K.ok.2 K.ne (by omega) (by omega) (fun c hc=>by rw[hct]at hc;cases hc;omega)
    obtain⟨a,b⟩:=Yq hcs hr hT' (i+1) (if(t.back== -1)=true then O else O++[t]) R hG'
    refine⟨?_,fun j hj h=>?_⟩
    ·rw[a,eG]
     exact nC (by rw[hG.len];exact K.ok.1) (by rw[hG.len];exact K.ok.2) K.ne _ _ rfl
    ·have k:=h t (aa6 ..) hh'
     rw[b j hj (fun t ht=>h t (aa0 _ ht)),eG,rN K.ok.1.1 K.ok.2.1 hj k.1 k.2]
  ·obtain⟨a,b⟩:=Yq hcs hr hT' (i+1) O R hG
   exact⟨a,fun j hj h=>b j hj (fun t ht=>h t (aa0 _ ht))⟩
theorem qW{l:List Int}(ha:Qy l)(h8:l.length≤8){m:Int}(h0:0≤m)(h1:m≤l.sum):(Bl m l).sum=m:=by
 unfold Bl
 rw[Ub ha (by omega)]
 have hs:=ha.sum
 by_cases hp:0<l.sum
 ·rw[dL h0 (by omega) hp ha h8]
  exact dF hp
 ·rw[aZ hp]
  simp
  omega
theorem abQ:∀(P N:List Int),P.length=N.length→(∀x∈P,0≤x∧x≤1000000000)→(∀x∈N,0≤x∧x≤1000000000)→(List.zipWith Ti P N).sum=P.sum-N.sum
 | [],[],_,_,_=>rfl
 | [],_::_,h,_,_=>by simp at h
 |_::_,[],h,_,_=>by simp at h
 |x::P,y::N,h,h1,h2=>by
  have a:=h1 x (aa6 ..)
  have b:=h2 y (aa6 ..)
  have:=abQ P N (by simpa using h) (fun x hx=>h1 x (aa0 _ hx)) (fun x hx=>h2 x (aa0 _ hx))
  simp only[List.zipWith_cons_cons,ai5,this]
  unfold Ti
  rw[Aj (by omega) (by omega)]
  omega
theorem ab1{l:List Int}(ha:Qy l)(h8:l.length≤8){m:Int}(h0:0≤m)(h1:m≤l.sum):∀x∈Bl m l,0≤x∧x≤1000000000:=fun x hx=>by
 obtain⟨i,hi⟩:=List.getElem?_of_mem hx
 have hl:i<l.length:=by
  have:=(acZ.1 hi).1
  unfold Bl at this
  rwa[Eg]at this
 have hw:l[i]?=some l[i]:=abB hl
 have:=lD ha h8 h0 h1 hi hw
 have:=ha l[i] (alD hl)
 omega
theorem aiH{A:List Int}(hl:∀w∈A,-100000000≤w∧w≤100000000)(h8:A.length≤8){z:Bc}(h1:0≤z.flowIn)(h2:0≤z.flowOut):
 (RF z A).sum=mn z.flowIn (A.map Bm).sum-mn z.flowOut (A.map Bz).sum:=by
 have p:=jX hl
 have q:=kC hl
 have bp:=p.sum
 have bq:=q.sum
 have m1:0≤mn z.flowIn (A.map Bm).sum∧mn z.flowIn (A.map Bm).sum≤(A.map Bm).sum:=by unfold mn;split<;>omega
 have m2:0≤mn z.flowOut (A.map Bz).sum∧mn z.flowOut (A.map Bz).sum≤(A.map Bz).sum:=by unfold mn;split<;>omega
 unfold RF
 rw[Ub p (by simp;omega),Ub q (by simp;omega)]
 rw[abQ _ _ (by unfold Bl;simp[Eg]) (ab1 p (by simpa using h8) m1.1 m1.2) (ab1 q (by simpa using h8) m2.1 m2.2)]
 rw[qW p (by simpa using h8) m1.1 m1.2,qW q (by simpa using h8) m2.1 m2.2]
theorem ab0{s:Ac}(hf:0≤s.fuel∧s.fuel≤1000):∀(F:List Int) (i:Nat) (G:List Int) (fu:Int),(∀x∈F,-100000000≤x∧x≤100000000)→(∀j:Nat,i≤j→j<i+F.length→0≤gI G j∧gI G j≤100000000)→i+F.length≤G.length→0≤fu→fu+100000000*F.length≤4000000000000000000→
 (Hy s.fuel F i (G,fu)).1.sum+(Hy s.fuel F i (G,fu)).2=G.sum+fu+F.sum∧(fu≤(Hy s.fuel F i (G,fu)).2∧(Hy s.fuel F i (G,fu)).2≤fu+100000000*F.length)∧
 (∀j:Nat,j<i→gI (Hy s.fuel F i (G,fu)).1 j=gI G j)∧(∀j:Nat,j<F.length→gI (Hy s.fuel F i (G,fu)).1 ((i+j:Nat):Int)=gI G ((i+j:Nat):Int)+gI F j-Oq s (gI F j))
 | [],i,G,fu,_,_,_,h0,_=>⟨by simp[Hy],by simp[Hy],fun _ _=>rfl,fun j hj=>by simp at hj⟩
 |f::F,i,G,fu,hF,hG,hi,h0,hB=>by
  have hf1:=hF f (aa6 ..)
  have hg1:=hG i (afM _) (by simp)
  obtain⟨e1,e2⟩:=aaT hf hf1 hg1
  obtain⟨k1,k2,k3,k4⟩:=rX hf hf1
  simp only[abT]at hB hi
  have hii:inL G.length (i:Int):=⟨by omega,by omega⟩
  obtain⟨a,b,c,d⟩:=ab0 hf F (i+1) (sI G i (gI G i+f-Oq s f)) (fu+Oq s f) (fun x hx=>hF x (aa0 _ hx)) (fun j h1 h2=>by
   rw[Vn,if_neg (by simp only[aaS];omega)]
   exact hG j (by omega) (by simp only[abT];omega)) (by rw[Bg];omega) (by omega) (by omega)
  simp only[Hy]
  rw[e1,e2,←k1,Aj (n:=fu+Oq s f) (by omega) (by omega)]
  refine⟨?_,⟨by omega,by simp only[abT];omega⟩,fun j hj=>?_,fun j hj=>?_⟩
  ·rw[a,xP hii,ai5]
   omega
  ·rw[c j (by omega),Vn,if_neg (by simp only[aaS];omega)]
  ·cases j with
   |zero=>
    simp only[aeP]
    rw[c i (by omega),Vn,if_pos ⟨rfl,by rw[aaS];omega⟩]
    rfl
   |succ j=>
    have hj':j<F.length:=by simpa using hj
    have:=d j hj'
    rw[show i+1+j=i+(j+1) by omega]at this
    rw[this,Vn,if_neg (by simp only[aaS];omega)]
    have eg:gI (f::F) ((j+1:Nat):Int)=gI F (j:Int):=by
     unfold gI;rw[aaS,aaS,aeW]
    rw[eg]
theorem qU{s:Ac}{hr:Int}{W A:List Int}:∀(F:List Int) (i:Nat) (G:List Int) (fu:Int) (L:List Int),i+F.length≤L.length→
 (∀j:Nat,j<i→gI (Xs s hr W A F i (G,fu,L)).2.2 j=gI L j)∧(∀j:Nat,j<F.length→gI (Xs s hr W A F i (G,fu,L)).2.2 ((i+j:Nat):Int)=mJ (oL s.cons (i+j)) hr (gI F j) (gI W ((i+j:Nat):Int)) (gI A ((i+j:Nat):Int)) (gI L ((i+j:Nat):Int)))
 | [],i,G,fu,L,_=>⟨fun _ _=>rfl,fun j hj=>by simp at hj⟩
 |f::F,i,G,fu,L,hi=>by
  simp only[abT]at hi
  simp only[Xs]
  obtain⟨a,b⟩:=qU (s:=s) (hr:=hr) (W:=W) (A:=A) F (i+1) (sI G i (yT s f (gI G i))) (IntKind.i64.wrap (fu+Oq s f)) (sI L i (mJ (oL s.cons i) hr f (gI W i) (gI A i) (gI L i))) (by rw[Bg];omega)
  refine⟨fun j hj=>?_,fun j hj=>?_⟩
  ·rw[a j (by omega),Vn,if_neg (by simp only[aaS];omega)]
  ·cases j with
   |zero=>
    simp only[aeP]
    rw[a i (by omega),Vn,if_pos ⟨rfl,by rw[aaS];omega⟩]
    rfl
   |succ j=>
    have hj':j<F.length:=by simpa using hj
    have:=b j hj'
    rw[show i+1+j=i+(j+1) by omega]at this
    rw[this,Vn,if_neg (by simp only[aaS];omega)]
    have eg:gI (f::F) ((j+1:Nat):Int)=gI F (j:Int):=by
     unfold gI;rw[aaS,aaS,aeW]
    rw[eg]
theorem qA(lead:Int)(l:List Gj)(c h:Int):∀(rest:List Gj) (i:Nat),(∀n∈rest,¬(n.con=c∧n.hour=h))→Kz lead l c h rest (i,-1)= -1
 | [],_,_=>rfl
 |n::rest,i,hn=>by
  have h0:=hn n (aa6 ..)
  have e:Zv lead l c h n i (-1)= -1:=by
   unfold Zv
   rw[if_neg]
   simp only[abO,decide_eq_true_eq,beq_iff_eq,not_and,Bool.not_eq_true]at h0 ⊢
   simp_all
  rw[Kz,e]
  exact qA lead l c h rest (i+1) (fun n hn'=>hn n (aa0 _ hn'))
def akF(d:Ap)(hr:Int)(O:List Aa)(i:Int):Bool:=
 d.noms.any (fun n=>n.con==i&&n.hour==hr)||d.trades.any (fun t=>t.hour==hr&&(t.frm==i||t.to==i))||O.any (fun t=>t.back==hr&&(t.frm==i||t.to==i))
structure aa2(s:Ac)(d:Ap)(hr own fuel:Int)(z:Bc)(G L:List Int)(O:List Aa):Prop where
 len:(G6 s d hr z G L O fuel).1.length=s.cons.length∧(L7 s d hr z G L O).length=s.cons.length∧(F5 s d hr z G L O).length=s.cons.length∧(W3 s d hr G L O).length=s.cons.length∧(A4 s d hr z G L O).length=s.cons.length
 gas:qZ s.cons (G6 s d hr z G L O fuel).1
 fu:fuel≤(G6 s d hr z G L O fuel).2∧(G6 s d hr z G L O fuel).2≤fuel+800000000
 ow:own-800000000≤bY s d hr z G L O own∧bY s d hr z G L O own≤own+800000000
 sum:bY s d hr z G L O own+(G6 s d hr z G L O fuel).2+(G6 s d hr z G L O fuel).1.sum=own+fuel+z.flowIn-z.flowOut+G.sum
 lsum:(L1 s hr G L O).sum=L.sum
 flow:∀i:Nat,-100000000≤gI (F5 s d hr z G L O) i∧gI (F5 s d hr z G L O) i≤100000000
 cut:∀i:Nat,-100000000≤gI (W3 s d hr G L O) i∧gI (W3 s d hr G L O) i≤100000000∧ -100000000≤gI (A4 s d hr z G L O) i∧gI (A4 s d hr z G L O) i≤100000000
 bill:∀(i:Nat) c,s.cons[i]?=some c→gI (L7 s d hr z G L O) i=nQ c hr (gI (F5 s d hr z G L O) i) (gI (W3 s d hr G L O) i) (gI (A4 s d hr z G L O) i) (gI (L1 s hr G L O) i)
 rest:∀(i:Nat) c,s.cons[i]?=some c→akF d hr O i=false→gI (G6 s d hr z G L O fuel).1 i=gI G i∧gI (F5 s d hr z G L O) i=0∧gI (L7 s d hr z G L O) i=gI L i+if Hw hr c.lo c.hi=true then c.fixed else 0
theorem ap4{s:Ac}(hf:0≤s.fuel∧s.fuel≤1000){f:Int}(h: -100000000≤f∧f≤100000000):0≤Oq s f∧(f≤0→Oq s f=0)∧(0≤f→Oq s f≤f):=by
 obtain⟨_,k2,k3,_⟩:=rX hf h
 have e:Hu f=if 0<f then f else 0:=by unfold Hu mX;split<;>omega
 rw[e]at k3
 refine⟨k2,fun h=>?_,fun h=>?_⟩
 ·rw[if_neg (by omega)]at k3;omega
 ·split at k3<;>omega
theorem anU{s:Ac}(h1:Es s=true){d:Ap}(h3:Jz s.cons.length d=true){hr own fuel:Int}{z:Bc}{G L:List Int}{O:List Aa}{B:Int}(hB:0≤B∧B≤2000000000000000000)(I:StI s own G L O B)(hfu:0≤fuel∧fuel≤1000000000000000000)(hz:d.hours[hr.toNat]?=some z):aa2 s d hr own fuel z G L O:=by
 have S:=Px h1
 have hcs:∀c∈s.cons,Jb c=true:=abY.1 (Qz h1)
 have hl:=S.len
 have E:=zB (fuel:=fuel) h1 h3 hB I hz
 have h3':=h3
 simp only[Jz,abO,decide_eq_true_eq]at h3'
 obtain⟨⟨⟨⟨⟨d1,d2⟩,d3⟩,d4⟩,d5⟩,d6⟩:=h3'
 have hT:∀t∈d.trades,TOK s.cons.length t:=fun t ht=>tok (by omega) (abY.1 d6 t ht)
 have hzb:=abY.1 d4 z (aaW hz)
 simp only[Xt,Hw,abO,decide_eq_true_eq]at hzb
 obtain⟨⟨⟨z1,z2⟩,z3⟩,z4⟩:=hzb
 have ol:=I.olen
 obtain⟨p1,p2,p3⟩:=fM hcs hr I.owed [] I.g (B:=B) hB.1 (by omega) I.l I.lok
 obtain⟨t1,t2⟩:=Yq hcs hr hT 0 (O1 s hr G L O) [] E.g1
 have p1':(G1 s hr G L O).sum=G.sum:=p1
 have p2':(L1 s hr G L O).sum=L.sum:=p2
 have t1':(T2 s d hr G L O).1.sum=(G1 s hr G L O).sum:=t1
 have tl:=E.g2.len
 have wl:(W3 s d hr G L O).length=s.cons.length:=by rw[←E.rw];unfold RW;rw[Qb]
 have al:(A4 s d hr z G L O).length=s.cons.length:=by
  rw[←E.ra];unfold RA;rw[E.rw];simp[Eu,Nu,wl]
 have wb:∀i:Nat,-100000000≤gI (W3 s d hr G L O) i∧gI (W3 s d hr G L O) i≤100000000:=fun i=>by
  by_cases hi:i<s.cons.length
  ·have hc:s.cons[i]?=some s.cons[i]:=abB hi
   have a:=E.w3 i _ hc
   have b:=E.g2.inn i _ hc
   have c:=(Vz (hcs _ (aaW hc))).space
   omega
  ·rw[yS (by omega)];omega
 have ab:∀i:Nat,-100000000≤gI (A4 s d hr z G L O) i∧gI (A4 s d hr z G L O) i≤100000000:=fun i=>by
  have a:=E.a4 i
  have b:=wb i
  unfold sZ at a
  by_cases hp:0≤gI (W3 s d hr G L O) i
  ·have:=a.1 hp;omega
  ·have:=a.2 (by omega);omega
 have am:=nZ (P:=fun w=> -100000000≤w∧w≤100000000) (by omega) ab
 have fb:∀i:Nat,-100000000≤gI (F5 s d hr z G L O) i∧gI (F5 s d hr z G L O) i≤100000000:=fun i=>by
  have a:=E.f5 i
  have b:=ab i
  unfold sZ at a
  by_cases hp:0≤gI (A4 s d hr z G L O) i
  ·have:=a.1 hp;omega
  ·have:=a.2 (by omega);omega
 have fm:=nZ (P:=fun w=> -100000000≤w∧w≤100000000) (by omega) fb
 have fl:(F5 s d hr z G L O).length=s.cons.length:=by
  show(RF z (A4 s d hr z G L O)).length=_
  simp[RF,Bl,Eg,al]
 have fsum:(F5 s d hr z G L O).sum=mn z.flowIn ((A4 s d hr z G L O).map Bm).sum-mn z.flowOut ((A4 s d hr z G L O).map Bz).sum:=aiH am (by omega) z3.1 z4.1
 obtain⟨o1,o2,o3,o4⟩:=yB am (by omega) z3 z4 (own:=own) (by have:=I.own;omega)
 have oe:bY s d hr z G L O own=own+(z.flowIn-mn z.flowIn ((A4 s d hr z G L O).map Bm).sum)-(z.flowOut-mn z.flowOut ((A4 s d hr z G L O).map Bz).sum):=o1.trans o2
 obtain⟨g1,g2,_,g4⟩:=ab0 (s:=s) S.fuel (F5 s d hr z G L O) 0 (T2 s d hr G L O).1 fuel fm (fun j _ hj=>by
  rw[acK,fl]at hj
  have hc:s.cons[j]?=some s.cons[j]:=abB hj
  have b:=E.g2.inn j _ hc
  have c:=(Vz (hcs _ (aaW hc))).space
  omega) (by omega) hfu.1 (by omega)
 have gl:(G6 s d hr z G L O fuel).1.length=s.cons.length:=by unfold G6;rw[bH,tl]
 have ge:∀(i:Nat) c,s.cons[i]?=some c→gI (G6 s d hr z G L O fuel).1 i=gI (T2 s d hr G L O).1 i+gI (F5 s d hr z G L O) i-Oq s (gI (F5 s d hr z G L O) i):=fun i c hc=>by
  have hi:=(acZ.1 hc).1
  have:=g4 i (by omega)
  rw[acK]at this
  exact this
 have gr:∀(i:Nat) c,s.cons[i]?=some c→0≤gI (G6 s d hr z G L O fuel).1 i∧gI (G6 s d hr z G L O fuel).1 i≤c.space:=fun i c hc=>by
  rw[ge i c hc]
  have a:=E.w3 i c hc
  have b:=E.g2.inn i c hc
  have x:=E.a4 i
  have y:=E.f5 i
  obtain⟨u1,u2,u3⟩:=ap4 S.fuel (fb i)
  unfold sZ at x y
  by_cases hp:0≤gI (W3 s d hr G L O) i
  ·have x1:=x.1 hp
   have y1:=y.1 x1.1
   have:=u3 y1.1
   omega
  ·have x1:=x.2 (by omega)
   have y1:=y.2 x1.2
   have:=u2 y1.2
   omega
 have be:∀(i:Nat) c,s.cons[i]?=some c→gI (L7 s d hr z G L O) i=nQ c hr (gI (F5 s d hr z G L O) i) (gI (W3 s d hr G L O) i) (gI (A4 s d hr z G L O) i) (gI (L1 s hr G L O) i):=fun i c hc=>by
  have hi:=(acZ.1 hc).1
  have l1:=E.l1
  have:=(qU (s:=s) (hr:=hr) (W:=W3 s d hr G L O) (A:=A4 s d hr z G L O) (F5 s d hr z G L O) 0 (T2 s d hr G L O).1 fuel (L1 s hr G L O) (by omega)).2 i (by omega)
  rw[E.fin,acK]at this
  rw[this,show oL s.cons i=c by unfold oL;rw[hc];rfl]
  have hb:=l1.2 i
  refine(xC (hcs c (aaW hc)) (by omega) (fb i) (wb i) (ab i) (by omega) (fun ha=>?_)).2
  have w:=E.w0 i c hc ha
  have a:=E.a4 i
  unfold sZ at a
  rw[w]at a
  have:=a.1 (by omega)
  exact⟨w,by omega⟩
 refine⟨⟨gl,?_,fl,wl,al⟩,⟨gl,gr⟩,?_,?_,?_,p2',fb,fun i=>⟨(wb i).1,(wb i).2,ab i⟩,be,fun i c hc ht=>?_⟩
 ·unfold L7;rw[Yf,E.l1.1]
 ·have:fuel≤(G6 s d hr z G L O fuel).2∧(G6 s d hr z G L O fuel).2≤fuel+100000000*(F5 s d hr z G L O).length:=g2
  rw[fl]at this
  omega
 ·rw[oe];omega
 ·have q:(G6 s d hr z G L O fuel).1.sum+(G6 s d hr z G L O fuel).2=(T2 s d hr G L O).1.sum+fuel+(F5 s d hr z G L O).sum:=g1
  rw[oe];omega
 ·simp only[akF,Bool.or_eq_false_iff,List.any_eq_false,abO,ae6,beq_iff_eq,not_and,not_or]at ht
  obtain⟨⟨n1,n2⟩,n3⟩:=ht
  have q1:=p3 i (by omega) n3
  have q2:=t2 i (by omega) n2
  have q1':gI (G1 s hr G L O) i=gI G i:=q1.1
  have q3':gI (L1 s hr G L O) i=gI L i:=q1.2
  have q2':gI (T2 s d hr G L O).1 i=gI (G1 s hr G L O) i:=q2
  have w:gI (W3 s d hr G L O) i=0:=by
   have:=bD (s:=s) (d:=d) (hr:=hr) (G:=(RT s d hr G L O).1) s.cons 0 i c hc
   rw[←E.rw];unfold RW gI
   rw[aaS,this,acK]
   unfold Ja
   rw[qA s.lead d.noms i hr d.noms 0 (fun n hn q=>n1 n hn q.1 q.2)]
   rfl
  have a:=E.a4 i
  unfold sZ at a
  rw[w]at a
  have a0:=a.1 (by omega)
  have f:=E.f5 i
  unfold sZ at f
  have f0:=f.1 (by omega)
  have f0:gI (F5 s d hr z G L O) i=0:=by omega
  refine⟨?_,f0,?_⟩
  ·rw[ge i c hc,f0,(ap4 S.fuel (f:=0) (by omega)).2.1 (by omega)]
   omega
  ·rw[be i c hc,f0,w,show gI (A4 s d hr z G L O) i=0 by omega,q3']
   unfold nQ
   simp[Hu,Kx,dE,mX,Aj]
structure Ov where
 nW:Bool
 wants:List Int
 nA:Bool
 grants:List Int
 nF:Bool
 flows:List Int
 nR:Bool
 refused:List Int
abbrev Ov.cells(x:Ov):List AV:=[Ao 1 true x.nW (x.wants.map iv),Ao 1 true x.nA (x.grants.map iv),Ao 1 true x.nF (x.flows.map iv),Ao 1 true x.nR (x.refused.map iv)]
def nxt(s:Ac)(d:Ap)(z:Bc)(y:Hl):Hl:=
 ⟨y.hour+1,false,(G6 s d y.hour z y.gas y.bills y.owed y.fuel).1,bY s d y.hour z y.gas y.bills y.owed y.own,(G6 s d y.hour z y.gas y.bills y.owed y.fuel).2,false,L7 s d y.hour z y.gas y.bills y.owed,false,(T2 s d y.hour y.gas y.bills y.owed).2.1⟩
def flw(s:Ac)(d:Ap)(z:Bc)(y:Hl):Ov:=
 ⟨false,W3 s d y.hour y.gas y.bills y.owed,false,A4 s d y.hour z y.gas y.bills y.owed,false,F5 s d y.hour z y.gas y.bills y.owed,false,(T2 s d y.hour y.gas y.bills y.owed).2.2⟩
def Hl.as(y:Hl)(g l o:Bool):Hl:={ y with nG:=g,nL:=l,nO:=o }
def Ov.as(x:Ov)(w a f r:Bool):Ov:={ x with nW:=w,nA:=a,nF:=f,nR:=r }
theorem ab4{st:Nat}(rows:List (List AV)):Ao st true true rows=.imm st true rows:=by cases rows<;>rfl
theorem aN{w:Bool}{l:List Int}:Rnm (Zi w l):=fun _=>⟨_,rfl⟩
theorem agC{w:Bool}{l:List Aa}:Rnm (lv5 w l):=fun _=>⟨_,rfl⟩
theorem Ph{h:Ab}{b n d:Nat}{w:Bool}{l:List Int}(hb:h[b]?=some (Zi w l))(hn:n=l.length):rd (d+1) (hf h) (.slr 1 b 0 n)=some (Ao 1 true true (l.map iv),[b]):=by
 rw[ab4];exact aaZ (by show(h[b]?).bind Dl=_;rw[hb];rfl) (by simpa using hn)
theorem ayE{h:Ab}{b n d:Nat}{w:Bool}{l:List Aa}(hb:h[b]?=some (lv5 w l))(hn:n=l.length):rd (d+1) (hf h) (.slr 5 b 0 n)=some (Ao 5 true true (l.map Aa.cells),[b]):=by
 rw[ab4];exact aaZ (by show(h[b]?).bind Dl=_;rw[hb];rfl) (by simpa using hn)
theorem kA{h:Ab}{d st:Nat}{α:Type}{l:List α}{f:α→List AV}(hl:l=[]):rd (d+1) (hf h) .nils=some (Ao st true false (l.map f),[]):=by subst hl;rfl
theorem uS{O:Gn}{f:Nat}{vs:List AV}{n:Nat}{hr own fuel:Int}{G L R W A F:List Int}{T:List Aa}(lG:G.length=n)(lL:L.length=n)(lW:W.length=n)(lA:A.length=n)(lF:F.length=n)
 (h:Ql O f vs [] (nE n hr own fuel G L T R W A F)):∃o r,zF O f vs [.agg (Hl.cells ⟨hr,true,G,own,fuel,true,L,o,T⟩),.agg (Ov.cells ⟨true,W,true,A,true,F,r,R⟩)] 7:=by
 obtain⟨o,h',e,w1,w2,w3,w4,w5,w6,w7,hq⟩:=h
 rcases hq with⟨hT,hR,rfl,rfl⟩|⟨hR,rfl,rfl⟩|⟨hT,hR,rfl,rfl⟩|⟨hR,rfl,rfl⟩
 ·exact⟨false,false,_,_,_,e,Ae (Jg (Ae (Hi ..) (Ae (Ph rfl lG.symm) (Ae (Hi ..) (Ae (Hi ..) (Ae (Ph rfl lL.symm) (Ae (kA hT) Ie))))))) (Ae (Jg (Ae (Ph rfl lW.symm) (Ae (Ph rfl lA.symm) (Ae (Ph rfl lF.symm) (Ae (kA hR) Ie))))) Ie),by simp,fun c hc=>by
   simp only[ab9,acF,or_false]at hc
   rcases hc with rfl|rfl|rfl|rfl|rfl<;>exact aN⟩
 ·exact⟨true,false,_,_,_,e,Ae (Jg (Ae (Hi ..) (Ae (Ph rfl lG.symm) (Ae (Hi ..) (Ae (Hi ..) (Ae (Ph rfl lL.symm) (Ae (ayE rfl rfl) Ie))))))) (Ae (Jg (Ae (Ph rfl lW.symm) (Ae (Ph rfl lA.symm) (Ae (Ph rfl lF.symm) (Ae (kA hR) Ie))))) Ie),by simp,fun c hc=>by
   simp only[ab9,acF,or_false]at hc
   rcases hc with rfl|rfl|rfl|rfl|rfl|rfl<;>first|exact aN|exact agC⟩
 ·exact⟨false,true,_,_,_,e,Ae (Jg (Ae (Hi ..) (Ae (Ph rfl lG.symm) (Ae (Hi ..) (Ae (Hi ..) (Ae (Ph rfl lL.symm) (Ae (kA hT) Ie))))))) (Ae (Jg (Ae (Ph rfl lW.symm) (Ae (Ph rfl lA.symm) (Ae (Ph rfl lF.symm) (Ae (Ph rfl rfl) Ie))))) Ie),by simp,fun c hc=>by
   simp only[ab9,acF,or_false]at hc
   rcases hc with rfl|rfl|rfl|rfl|rfl|rfl<;>exact aN⟩
 ·exact⟨true,true,_,_,_,e,Ae (Jg (Ae (Hi ..) (Ae (Ph rfl lG.symm) (Ae (Hi ..) (Ae (Hi ..) (Ae (Ph rfl lL.symm) (Ae (ayE rfl rfl) Ie))))))) (Ae (Jg (Ae (Ph rfl lW.symm) (Ae (Ph rfl lA.symm) (Ae (Ph rfl lF.symm) (Ae (Ph rfl rfl) Ie))))) Ie),by simp,fun c hc=>by
   simp only[ab9,acF,or_false]at hc
   rcases hc with rfl|rfl|rfl|rfl|rfl|rfl|rfl<;>first|exact aN|exact agC⟩
theorem axT{O:Gn}{f:Nat}{vs:List AV}{hr own fuel:Int}(h:Ql O f vs [] (ZQ hr own fuel)):∃g l w,zF O f vs [.agg (Hl.cells ⟨hr,g,[],own,fuel,l,[],false,[]⟩),.agg (Ov.cells ⟨w,[],false,[],false,[],false,[]⟩)] 7:=by
 obtain⟨o,h',e,w1,w2,w3,hq⟩:=h
 rcases hq with⟨rfl,rfl⟩|⟨rfl,rfl⟩|⟨rfl,rfl⟩|⟨rfl,rfl⟩
 ·exact⟨false,false,true,_,_,_,e,Ae (Jg (Ae (Hi ..) (Ae (kA rfl) (Ae (Hi ..) (Ae (Hi ..) (Ae (kA rfl) (Ae (kA rfl) Ie))))))) (Ae (Jg (Ae (Ph (w:=w3) (l:=[]) rfl rfl) (Ae (kA rfl) (Ae (kA rfl) (Ae (kA rfl) Ie))))) Ie),by simp,fun c hc=>by
   simp only[ab9,acF,or_false]at hc
   rcases hc with rfl;exact aN (l:=[])⟩
 ·exact⟨true,false,true,_,_,_,e,Ae (Jg (Ae (Hi ..) (Ae (Ph (w:=w1) (l:=[]) rfl rfl) (Ae (Hi ..) (Ae (Hi ..) (Ae (kA rfl) (Ae (kA rfl) Ie))))))) (Ae (Jg (Ae (Ph (w:=w3) (l:=[]) rfl rfl) (Ae (kA rfl) (Ae (kA rfl) (Ae (kA rfl) Ie))))) Ie),by simp,fun c hc=>by
   simp only[ab9,acF,or_false]at hc
   rcases hc with rfl|rfl<;>exact aN (l:=[])⟩
 ·exact⟨false,true,true,_,_,_,e,Ae (Jg (Ae (Hi ..) (Ae (kA rfl) (Ae (Hi ..) (Ae (Hi ..) (Ae (Ph (w:=w2) (l:=[]) rfl rfl) (Ae (kA rfl) Ie))))))) (Ae (Jg (Ae (Ph (w:=w3) (l:=[]) rfl rfl) (Ae (kA rfl) (Ae (kA rfl) (Ae (kA rfl) Ie))))) Ie),by simp,fun c hc=>by
   simp only[ab9,acF,or_false]at hc
   rcases hc with rfl|rfl<;>exact aN (l:=[])⟩
 ·exact⟨true,true,true,_,_,_,e,Ae (Jg (Ae (Hi ..) (Ae (Ph (w:=w1) (l:=[]) rfl rfl) (Ae (Hi ..) (Ae (Hi ..) (Ae (Ph (w:=w2) (l:=[]) rfl rfl) (Ae (kA rfl) Ie))))))) (Ae (Jg (Ae (Ph (w:=w3) (l:=[]) rfl rfl) (Ae (kA rfl) (Ae (kA rfl) (Ae (kA rfl) Ie))))) Ie),by simp,fun c hc=>by
   simp only[ab9,acF,or_false]at hc
   rcases hc with rfl|rfl|rfl<;>exact aN (l:=[])⟩
theorem Rl(cs:List Ag)(hr:Int):∀(T:List Aa) (i:Nat) (G:List Int) (O:List Aa) (R:List Int),O.length≤50→
 (Am cs hr T i (G,O,R)).2.1.length≤50∧(∀t∈(Am cs hr T i (G,O,R)).2.1,t∈O∨t∈T)∧(Am cs hr T i (G,O,R)).2.2.length≤R.length+T.length
 | [],_,_,O,R,h=>⟨h,fun t ht=>.inl ht,by simp[Am]⟩
 |t::T,i,G,O,R,h=>by
  simp only[Am]
  split
  ·split
   ·obtain⟨a,b,c⟩:=Rl cs hr T (i+1) G O (R++[(i:Int)]) h
    refine⟨a,fun x hx=>(b x hx).imp id (aa0 _),?_⟩
    simp only[List.length_append,abT,List.length_nil]at c ⊢;omega
   ·rename_i hno
    have hO:(if(t.back== -1)=true then O else O++[t]).length≤50:=by
     split
     ·exact h
     ·rename_i hb
      simp[Hq,hb]at hno
      simp;omega
    obtain⟨a,b,c⟩:=Rl cs hr T (i+1) (Ht t G) (if(t.back== -1)=true then O else O++[t]) R hO
    refine⟨a,fun x hx=>?_,by simp only[abT];omega⟩
    rcases b x hx with h1|h1
    ·split at h1
     ·exact .inl h1
     ·rcases List.mem_append.1 h1 with h1|h1
      ·exact .inl h1
      ·simp at h1;subst h1;exact .inr (aa6 ..)
    ·exact .inr (aa0 _ h1)
  ·obtain⟨a,b,c⟩:=Rl cs hr T (i+1) G O R h
   exact⟨a,fun x hx=>(b x hx).imp id (aa0 _),by simp only[abT];omega⟩
structure StJ(s:Ac)(k:Nat)(y:Hl):Prop where
 hour:y.hour=k
 i:StI s y.own y.gas y.bills y.owed (100000000000000*(k+1))
 fuel:0≤y.fuel∧y.fuel≤800000000*k
theorem StJ.of{s:Ac}{k:Nat}{y y':Hl}(I:StJ s k y)(h1:y'.hour=y.hour)(h2:y'.gas=y.gas)(h3:y'.own=y.own)(h4:y'.fuel=y.fuel)(h5:y'.bills=y.bills)(h6:y'.owed=y.owed):StJ s k y':=by
 obtain⟨a,b,c⟩:=I
 exact⟨by rw[h1];exact a,by rw[h2,h3,h5,h6];exact b,by rw[h4];exact c⟩
theorem bI{n:Int}{d:Ap}(h3:Jz n d=true){k:Nat}{z:Bc}(hz:d.hours[k]?=some z):k<48∧(0≤z.inn∧0≤z.out)∧(0≤z.flowIn∧z.flowIn≤800000000)∧(0≤z.flowOut∧z.flowOut≤800000000):=by
 simp only[Jz,Xt,Hw,abO,decide_eq_true_eq,abY]at h3
 have D:=h3.1.1.2 z (aaW hz)
 have:=(acZ.1 hz).1
 exact⟨by omega,⟨D.1.1.1.1,D.1.1.2.1⟩,D.1.2,D.2⟩
theorem bA{s:Ac}(h1:Es s=true){d:Ap}(h3:Jz s.cons.length d=true){k:Nat}{y:Hl}(I:StJ s k y){z:Bc}(hz:d.hours[k]?=some z):StJ s (k+1) (nxt s d z y)∧ag5 s d y.hour y.own y.fuel z y.gas y.bills y.owed (100000000000000*(k+1))∧aa2 s d y.hour y.own y.fuel z y.gas y.bills y.owed:=by
 have S:=Px h1
 have hcs:∀c∈s.cons,Jb c=true:=abY.1 (Qz h1)
 have hD:=bI h3 hz
 have hz':d.hours[y.hour.toNat]?=some z:=by rw[I.hour];exact hz
 have E:=zB (fuel:=y.fuel) h1 h3 (B:=100000000000000*(k+1)) (by omega) I.i hz'
 have W:=anU (fuel:=y.fuel) h1 h3 (B:=100000000000000*(k+1)) (by omega) I.i (by have:=I.fuel;omega) hz'
 have hO1:(O1 s y.hour y.gas y.bills y.owed).length≤50∧∀t∈O1 s y.hour y.gas y.bills y.owed,t∈y.owed:=by
  have h:=List.length_filter_le (fun t:Aa=>decide (t.back≠y.hour)) y.owed
  have:=I.i.olen
  unfold O1
  rw[Ol,af4]
  exact⟨by omega,fun t ht=>(List.mem_filter.1 ht).1⟩
 obtain⟨t1,t2,_⟩:=Rl s.cons y.hour d.trades 0 (G1 s y.hour y.gas y.bills y.owed) (O1 s y.hour y.gas y.bills y.owed) [] hO1.1
 have hT:∀t∈d.trades,TOK s.cons.length t:=fun t ht=>by
  have p:=h3
  simp only[Jz,abO,abY]at p
  exact tok (by have:=S.len;omega) (p.2 t ht)
 refine⟨⟨by show y.hour+1=_;rw[I.hour];rfl,⟨W.gas,W.len.2.1,fun i=>?_,?_,fun t ht=>?_,t1⟩,?_⟩,E,W⟩
 ·show -(100000000000000*(((k+1:Nat):Int)+1))≤gI (L7 s d y.hour z y.gas y.bills y.owed) i∧gI (L7 s d y.hour z y.gas y.bills y.owed) i≤100000000000000*(((k+1:Nat):Int)+1)
  have hl1:=E.l1.2
  have ei:gI (L7 s d y.hour z y.gas y.bills y.owed) i=gI (L7 s d y.hour z y.gas y.bills y.owed) (i.toNat:Int):=by unfold gI;rw[aaS]
  rw[ei]
  by_cases hi:i.toNat<s.cons.length
  ·obtain⟨c,hc⟩:∃c,s.cons[i.toNat]?=some c:=⟨_,abB hi⟩
   have hl:=hl1 (i.toNat:Int)
   have hb:=W.bill _ c hc
   have hf:=W.flow i.toNat
   have hw:=W.cut i.toNat
   obtain⟨_,_,_,_,m1,m2⟩:=xB (hcs c (aaW hc)) (b:=gI (L1 s y.hour y.gas y.bills y.owed) i.toNat) hf ⟨hw.1,hw.2.1⟩ hw.2.2 (by omega)
   rw[hb]
   unfold nQ
   split<;>split<;>omega
  ·rw[yS (by have:=W.len.2.1;omega)]
   omega
 ·have:=W.ow
  have:=I.i.own
  show -(100000000000000*(((k+1:Nat):Int)+1))≤bY s d y.hour z y.gas y.bills y.owed y.own∧bY s d y.hour z y.gas y.bills y.owed y.own≤_
  omega
 ·rcases t2 t ht with h|h
  ·exact I.i.owed t (hO1.2 t h)
  ·exact hT t h
 ·have:=W.fu
  have:=I.fuel
  show 0≤(G6 s d y.hour z y.gas y.bills y.owed y.fuel).2∧(G6 s d y.hour z y.gas y.bills y.owed y.fuel).2≤_
  omega
end Go.Proofs.YtdbiogihimdpcaaGreatDoor
