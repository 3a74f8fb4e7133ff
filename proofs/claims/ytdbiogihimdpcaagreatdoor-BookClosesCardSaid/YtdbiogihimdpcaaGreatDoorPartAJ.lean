/- The functions of the layer, walked. -/
import Derived.Test.YtdbiogihimdpcaaGreatDoorPartAH
import Derived.Test.YtdbiogihimdpcaaGreatDoorLibE
import Derived.Test.YtdbiogihimdpcaaGreatDoorPartAA
import Derived.Test.YtdbiogihimdpcaaGreatDoorPartAI
import Derived.Test.YtdbiogihimdpcaaGreatDoorPartAB
import Derived.Test.YtdbiogihimdpcaaGreatDoorLibD
open List renaming length_map→aaE,getElem?_eq_getElem→abH,length_nil→ab1,map_nil→acM,flatMap_cons→acT,length_append→acZ,length_cons→adF,map_eq_nil_iff→adI,all_eq_true→adJ,mem_of_getElem?→adK,getElem?_append_right→adO,map_cons→adP,getElem?_map→aiK,getElem?_append_left→ai4,all_cons→ajQ,all_nil→ajR,append_assoc→ajU,getElem?_set_ne→ajV,length_set→alB,nil_append→anN,getElem?_eq_none→anO,flatMap_nil→anP,append_nil→anS,mem_append_left→anV,getElem?_eq_some_iff→an8,mem_append_right→aoC
open Bool renaming and_eq_true→abI,and_true→adM,and_false→adN
open Int renaming lt_irrefl→adA,toNat_natCast→adL,reduceBEq→anY,mul_le_mul_of_nonneg_left→aoD
open Nat renaming le_refl→ajS
open Option renaming map_eq_some_iff→ajT,bind_eq_some_iff→an2
set_option linter.unusedSimpArgs false
set_option linter.unusedVariables false
namespace Go.Proofs.YtdbiogihimdpcaaGreatDoor
open Go.Ev Go
set_option maxRecDepth 100000
set_option maxHeartbeats 16000000
def Uz(s:Ac)(g l:Bool):Ge:=⟨0,g,s.cons.map (·.gas),0,0,l,(s.cons.map (·.gas)).map (fun _=>0),false,[]⟩
theorem auQ{g:Aa}{b1 b2:Nat}(h:b2<g.length)(l m:Aa)(k:Nat):((g.set b1 .dead++l).set b2 .dead++m)[g.length+k]?=(l++m)[k]?:=by
 rw[Nw (by simpa using h),ajU,adO (by simp)];simp
def atH(k:Nat)(p:List Int)(gv bv:AV)(g:Aa):Prop:=(p=[]∧gv=.nils∧bv=.nils)∨
 (p≠[]∧∃b1 b2,gv=.slr 1 (b1+k) 0 p.length∧bv=.slr 1 (b2+k) 0 p.length∧b1≠b2∧g[b1]?=some (.live 1 true false (p.map iv))∧g[b2]?=some (.live 1 true false ((p.map fun _=>(0:Int)).map iv)))
def avM(s:Ac)(o:Ec)(h:Aa):Prop:=
 (s.cons=[]∧o=.ret (.agg [.int .i64 0,.nils,.int .i64 0,.int .i64 0,.nils,.nils])∧h=[])∨
 (s.cons≠[]∧o=.ret (.agg [.int .i64 0,.slr 1 0 0 s.cons.length,.int .i64 0,.int .i64 0,.slr 1 1 0 s.cons.length,.nils])∧h=[.live 1 true false ((s.cons.map (·.gas)).map iv),.live 1 true false (((s.cons.map (·.gas)).map fun _=>(0:Int)).map iv)])
theorem al5{s:Ac}{O:Fe}{f:Nat}{vs:List AV}(h:Vo O f vs [] (avM s)):∃g l,RdV O f vs (.agg (Uz s g l).cells) 2:=by
 obtain⟨o,h',e,⟨he,rfl,rfl⟩|⟨he,rfl,rfl⟩⟩:=h
 ·refine⟨false,false,_,[],_,e,Ls (Af (Hf ..) (Af (R1:=[]) ?_ (Af (Hf ..) (Af (Hf ..) (Af (R1:=[]) ?_ (Af aeR Ij)))))),by simp,fun c hc=>by cases hc⟩
  ·simp only[Uz,he,acM];rfl
  ·simp only[Uz,he,acM];rfl
 ·have e1:∀l:List (List AV),Bj 1 true true l=.imm 1 true l:=fun l=>by cases l<;>rfl
  refine⟨true,true,_,_,_,e,Ls (Af (Hf ..) (Af (R1:=[0]) ?_ (Af (Hf ..) (Af (Hf ..) (Af (R1:=[1]) ?_ (Af aeR Ij)))))),by simp,fun c hc=>?_⟩
  ·show _=some (Bj 1 true true _,_)
   rw[e1];exact yP rfl (by simp[Uz])
  ·show _=some (Bj 1 true true _,_)
   rw[e1];exact yP rfl (by simp[Uz])
  ·simp only[List.mem_cons,List.not_mem_nil,or_false]at hc
   rcases hc with rfl|rfl<;>exact fun _=>⟨_,rfl⟩
theorem ahY(s:Ac)(hl:s.cons.length≤1000):Vo Bo 63 [.agg s.cells] [] (avM s):=by
 refine Nk rfl Tryz.func63 rfl rfl ?_
 simp only[Tryz.f63]
 (have hb:=trivial;with_reducible repeat' (first|simp only[hb,Vc.down,seval,abV.down,aaE]|refine Aj ?_ ?_<;>intro hb|refine fd ?_|fail))
 refine Dk (Sr 27 s.cons (fun i (zz:List Int) t h=>t 2=.ptr 1 0 0∧t 3=.ptr 2 0 0∧t 7=Bj 11 false s.nn (s.cons.map Ag.cells)∧t 8=.int .i64 (s.cons.length:Nat)∧t 9=.int .i64 i∧(∃w gv bv g,h=.live 6 false false [s.cells]::.live 6 false false [[.int .i64 0,.nils,.int .i64 0,.int .i64 0,.nils,.nils]]::.live 6 false w [[.int .i64 0,gv,.int .i64 0,.int .i64 0,bv,.nils]]::g∧atH 3 zz gv bv g∧zz.length≤i)) (fun rest zz=>zz++rest.map (·.gas)) (fun r e t h=>e=.exit 0∧t 2=.ptr 1 0 0∧t 3=.ptr 2 0 0∧∃w gv bv g,h=.live 6 false false [s.cells]::.live 6 false false [[.int .i64 0,.nils,.int .i64 0,.int .i64 0,.nils,.nils]]::.live 6 false w [[.int .i64 0,gv,.int .i64 0,.int .i64 0,bv,.nils]]::g∧atH 3 r gv bv g) ?_ ?_ ([]) _ _ ?_) (fun e t h hk=>?_)
 ·rintro p t h Q' kQ ⟨h2,h3,h7,h8,h9,⟨w,gv,bv,g,rfl,hp,hpl⟩⟩
  (have hb:=trivial;with_reducible repeat' (first|simp only[hb,Vc.down,seval,abV.down,h2,h3,h7,h8,h9,adA,decide_false]|refine Aj ?_ ?_<;>intro hb|refine fd ?_|fail))
  exact kQ _ _ _ ⟨rfl,by simp[up,h2],by simp[up,h3],w,gv,bv,g,rfl,by simpa using hp⟩
 ·rintro x rest i p t h J Q' kJ kQ hx hi ⟨h2,h3,h7,h8,h9,⟨w,gv,bv,g,rfl,hp,hpl⟩⟩
  have hd:decide ((i:Int)<(s.cons.length:Int))=true:=decide_eq_true (by omega)
  have hw:=Ak hi (by simp[maxLen];omega)
  rcases hp with⟨rfl,rfl,rfl⟩|⟨hpn,b1,b2,rfl,rfl,hne,hg1,hg2⟩
  ·(have hb:=trivial;with_reducible repeat' (first|simp only[hb,Vc.down,seval,abV.down,h2,h3,h7,h8,h9,hd,hx,hw,iv,aaE,Ag.cells]|refine Aj ?_ ?_<;>intro hb|((refine Hh (g.length) 3 ?_ ?_);(simp (discharger:=decide) only[He,Et,adP,acM,Dp,Gw,Gz,Hg,Gv,Dj,Eu,Eo,adF,ab1];kernel_rfl);intro _)|refine jH ?_|fail))
   (refine Aq (kJ _ _ [x.gas] ⟨?_,?_,?_,?_,?_,⟨true,_,_,_,rfl,.inr ⟨by simp,g.length+2,g.length+4,rfl,rfl,by omega,by simp[iv],by simp[iv]⟩,by simp⟩⟩ ?_);(simp[up,h2]);(simp[up,h3]);(simp[up,h7]);(simp[up,h8]);(simp[up]);(simp))
  ·have hbl1:b1<g.length:=(an8.1 hg1).1
   have hbl2:b2<g.length:=(an8.1 hg2).1
   have hA1:=Bv hg1
   have hA2:=Bv hg2
   have hS1:=Nw hbl1
   have hS2:=Nw hbl2
   have hA3:(g.set b1 .dead)[b2]?=some (.live 1 true false ((p.map fun _=>(0:Int)).map iv)):=by rw[ajV hne];exact hg2
   have hA4:=Bv hA3
   have hs1:Oy (g.length+2) 3 (b1+3)=1000:=by unfold Oy;rw[if_neg (by omega)];omega
   have hs2:Oy (g.length+2) 3 (b2+3)=1000:=by unfold Oy;rw[if_neg (by omega)];omega
   have hsf:∀k,2<k→Oy (g.length+2) 3 (g.length+k)=k+998:=fun k hk=>by unfold Oy;rw[if_neg (by omega)];omega
   have hi39:(p.length+1≤549755813888)=True:=eq_true (by omega)
   (have hb:=trivial;with_reducible repeat' (first|simp only[hb,Vc.down,seval,abV.down,h2,h3,h7,h8,h9,hd,hx,hw,iv,aaE,Ag.cells,hA1,hA2,hA4,hS1,hS2,dD,Ud,alB,aaE,hi39]|refine Aj ?_ ?_<;>intro hb|((refine Hh (g.length+2) 3 ?_ ?_);(simp (discharger:=decide) only[He,Et,adP,acM,Dp,Gw,Gz,Hg,Gv,Dj,Eu,Eo,adF,ab1,hs1,hs2,hsf];kernel_rfl);intro _)|refine jH ?_|fail))
   (refine Aq (kJ _ _ (p++[x.gas]) ⟨?_,?_,?_,?_,?_,⟨true,_,_,_,rfl,.inr ⟨by simp,g.length+2,g.length+4,by simp,by simp,by omega,by rw[auQ hbl2];simp[iv],by rw[auQ hbl2];simp[iv]⟩,by simp;omega⟩⟩ ?_);(simp[up,h2]);(simp[up,h3]);(simp[up,h7]);(simp[up,h8]);(simp[up]);(simp))
 ·exact⟨by simp[up,Dn],by simp[up,Dn],by simp[up,Dn],by simp[up,Dn],by simp[up],⟨false,.nils,.nils,[],rfl,.inl ⟨rfl,rfl,rfl⟩,by simp⟩⟩
 ·obtain⟨rfl,h2,h3,w,gv,bv,g,rfl,hp⟩:=hk
  rw[anN]at hp
  rcases hp with⟨hp0,rfl,rfl⟩|⟨hpn,b1,b2,rfl,rfl,hne,hg1,hg2⟩
  ·(have hb:=trivial;with_reducible repeat' (first|simp only[hb,Vc.down,seval,abV.down,h2,h3]|refine Aj ?_ ?_<;>intro hb|refine fd ?_|fail))
   exact .inl ⟨adI.1 hp0,rfl,rfl⟩
  ·have hn1:(b1=b2)=False:=eq_false hne
   have hn2:(b2=b1)=False:=eq_false (fun e=>hne e.symm)
   (have hb:=trivial;with_reducible repeat' (first|simp only[hb,Vc.down,seval,abV.down,h2,h3,hg1,hg2,hn1,hn2,aaE]|refine Aj ?_ ?_<;>intro hb|refine fd ?_|fail))
   exact .inr ⟨fun e=>hpn (by rw[e];rfl),rfl,rfl⟩
theorem alL(s:Ac)(hl:s.cons.length≤1000):∃g l,RdV Bo 63 [.agg s.cells] (.agg (Uz s g l).cells) 2:=al5 (ahY s hl)
def pA(d:Ao)(k:Nat):Aw:=(d.hours[k]?).getD ⟨0,0,0,0⟩
def Cc(s:Ac)(d:Ao):Nat→Ge
 |0=>Uz s false false
 |k+1=>nxt s d (pA d k) (Cc s d k)
def Ld(s:Ac)(d:Ao)(k:Nat):Nc:=flw s d (pA d k) (Cc s d k)
theorem ax7{s:Ac}(h1:Ek s=true):StJ s 0 (Uz s false false):=by
 have hcs:∀c∈s.cons,Hj c=true:=adJ.1 (Lq h1)
 refine⟨rfl,⟨⟨by simp[Uz],fun i c hc=>?_⟩,by simp[Uz],fun i=>?_,by simp[Uz],fun t ht=>by simp[Uz]at ht,by simp[Uz]⟩,by simp[Uz]⟩
 ·have h:=hcs c (adK hc)
  simp only[Hj,Gg,abI,decide_eq_true_eq]at h
  have e:gI (Uz s false false).gas i=c.gas:=by
   unfold gI Uz
   simp[hc]
  rw[e];exact h.1.2
 ·have e:gI (Uz s false false).bills i=0:=by
   unfold gI Uz
   simp only[aiK]
   cases s.cons[i.toNat]?<;>rfl
  rw[e];omega
theorem bX{s:Ac}(h1:Ek s=true){d:Ao}(h3:Jx s.cons.length d=true):∀k,k≤d.hours.length→StJ s k (Cc s d k)
 |0,_=>ax7 h1
 |k+1,h=>by
  have hz:d.hours[k]?=some (pA d k):=by unfold pA;rw[abH (by omega)];rfl
  exact(Vs h1 h3 (bX h1 h3 k (by omega)) hz).1
def lJ(s:Ac)(d:Ao)(F:List Nc):Prop:=∀j f,F[j]?=some f→∃w a l r,f=(Ld s d j).as w a l r
theorem lJ.snoc{s:Ac}{d:Ao}{F:List Nc}(h:lJ s d F){i:Nat}(hi:F.length=i)(w a l r:Bool):lJ s d (F++[(Ld s d i).as w a l r]):=fun j f hf=>by
 by_cases hj:j<F.length
 ·rw[ai4 hj]at hf;exact h j f hf
 ·rw[adO (by omega)]at hf
  have:j-F.length=0:=by
   by_cases h0:j-F.length=0
   ·exact h0
   ·rw[anO (by simp;omega)]at hf;cases hf
  rw[this]at hf
  simp at hf;subst hf
  obtain rfl:j=i:=by omega
  exact⟨w,a,l,r,rfl⟩
def abA(s:Ac)(d:Ao)(i:Nat)(bx:Nat)(ov:AV)(h:Aa):Prop:=
 ∃xc Rx rows Ro g l o F,acP s.cells d.cells bx ov h xc ((Cc s d i).as g l o).cells Rx rows (F.map Nc.cells) Ro∧lJ s d F∧F.length=i∧rows.length=i∧Rx.length≤7∧Ro.length≤7*i
def amT(s:Ac)(d:Ao)(X:AV)(Y:AV):Prop:=∃g l o F,X=.agg ((Cc s d d.hours.length).as g l o).cells∧Y=Bj 4 false false (F.map Nc.cells)∧lJ s d F∧F.length=d.hours.length
theorem Yq{g:HF}{xc:List AV}{y:Ge}{R:List Nat}(h:Nn (rd 5 g) xc=some (y.cells,R)):∃gv bv ov,xc=[.int .i64 y.hour,gv,.int .i64 y.own,.int .i64 y.fuel,bv,ov]∧(gv.isCell=true∧gv.flat=false)∧(bv.isCell=true∧bv.flat=false)∧(ov.isCell=true∧ov.flat=false):=by
 obtain⟨a0,l0,R0,R0',rfl,k0,h,_⟩:=Dc h
 obtain⟨a1,l1,R1,R1',rfl,k1,h,_⟩:=Dc h
 obtain⟨a2,l2,R2,R2',rfl,k2,h,_⟩:=Dc h
 obtain⟨a3,l3,R3,R3',rfl,k3,h,_⟩:=Dc h
 obtain⟨a4,l4,R4,R4',rfl,k4,h,_⟩:=Dc h
 obtain⟨a5,l5,R5,R5',rfl,k5,h,_⟩:=Dc h
 obtain⟨rfl,_⟩:=iS h
 obtain⟨rfl,_⟩:=pB k0
 obtain⟨rfl,_⟩:=pB k2
 obtain⟨rfl,_⟩:=pB k3
 exact⟨a1,a4,a5,rfl,bP k1,bP k4,bP k5⟩
theorem yE{g:HF}{fc:List AV}{y:Nc}{R:List Nat}(h:Nn (rd 5 g) fc=some (y.cells,R)):∃a b c d,fc=[a,b,c,d]∧(a.isCell=true∧a.flat=false)∧(b.isCell=true∧b.flat=false)∧(c.isCell=true∧c.flat=false)∧(d.isCell=true∧d.flat=false):=by
 obtain⟨a0,l0,R0,R0',rfl,k0,h,_⟩:=Dc h
 obtain⟨a1,l1,R1,R1',rfl,k1,h,_⟩:=Dc h
 obtain⟨a2,l2,R2,R2',rfl,k2,h,_⟩:=Dc h
 obtain⟨a3,l3,R3,R3',rfl,k3,h,_⟩:=Dc h
 obtain⟨rfl,_⟩:=iS h
 exact⟨a0,a1,a2,a3,rfl,bP k0,bP k1,bP k2,bP k3⟩
theorem abA.call{s:Ac}{d:Ao}{i bx:Nat}{ov:AV}{h:Aa}{f:Nat}(I:abA s d i bx ov h){z:Aw}(hz:d.hours[i]?=some z)
 (C:∀g l o,∃g' l' o' w a fl r,RdT Bo f [.agg s.cells,.agg ((Cc s d i).as g l o).cells,.agg d.cells] [.agg ((nxt s d z (Cc s d i)).as g' l' o').cells,.agg ((flw s d z (Cc s d i)).as w a fl r).cells] 7):
 ∃gv bv ow w es H1 gv' bv' ow' a b c e,h[bx]?=some (.live 6 false w [[.int .i64 (Cc s d i).hour,gv,.int .i64 (Cc s d i).own,.int .i64 (Cc s d i).fuel,bv,ow]])∧
  h[0]?=some (.live 6 false false [s.cells])∧h[1]?=some (.live 3 false false [d.cells])∧
  cl Bo h (some (.func (.func f) [] [])) (some [.agg s.cells,.agg [.int .i64 (Cc s d i).hour,gv,.int .i64 (Cc s d i).own,.int .i64 (Cc s d i).fuel,bv,ow],.agg d.cells])=
   some (.ret (.tup [.agg [.int .i64 (Cc s d (i+1)).hour,gv',.int .i64 (Cc s d (i+1)).own,.int .i64 (Cc s d (i+1)).fuel,bv',ow'],.agg [a,b,c,e]]),es)∧Ar h es=H1∧
  (gv'.isCell=true∧gv'.flat=false)∧(bv'.isCell=true∧bv'.flat=false)∧(ow'.isCell=true∧ow'.flat=false)∧(a.isCell=true∧a.flat=false)∧(b.isCell=true∧b.flat=false)∧(c.isCell=true∧c.flat=false)∧(e.isCell=true∧e.flat=false)∧
  bx<H1.length∧3≤bx∧(∃w,H1[bx]?=some (.live 6 false w [[.int .i64 (Cc s d i).hour,gv,.int .i64 (Cc s d i).own,.int .i64 (Cc s d i).fuel,bv,ow]]))∧(∃rows,rows.length=i∧Ey 0 4 false rows ov H1∧(∀st m r n,ov=.slr st m r n→3≤m∧m≠bx∧m<H1.length)∧
   ∀x y u:CB,abA s d (i+1) bx (.slr 4 (H1.length+3) 0 (i+1)) (kl 0 ov (H1.set bx (.live 6 false true [[.int .i64 (Cc s d (i+1)).hour,gv',.int .i64 (Cc s d (i+1)).own,.int .i64 (Cc s d (i+1)).fuel,bv',ow']]))++[x,y,u,.live 4 false false (rows++[[a,b,c,e]])])):=by
 obtain⟨xc,Rx,rows,Ro,g,l,o,F,I,hF,hFl,hrl,hRx,hRo⟩:=I
 obtain⟨g',l',o',w,a,fl,r,K⟩:=C g l o
 have hk:pA d i=z:=by unfold pA;rw[hz];rfl
 obtain⟨gv,bv,ow,rfl,_,_,_⟩:=Yq I.x
 obtain⟨wx,hbx⟩:=I.bxw
 have hx6:rd 6 (hf h) (.agg [.int .i64 (Cc s d i).hour,gv,.int .i64 (Cc s d i).own,.int .i64 (Cc s d i).fuel,bv,ow])=some (.agg ((Cc s d i).as g l o).cells,Rx):=Ls I.x
 have hv:gG h (.agg [.int .i64 (Cc s d i).hour,gv,.int .i64 (Cc s d i).own,.int .i64 (Cc s d i).fuel,bv,ow])=some (.agg ((Cc s d i).as g l o).cells):=oZ (show 6≤12 by omega) hx6
 have hs:gG h (.agg s.cells)=some (.agg s.cells):=Jb _ (d:=8) (by omega) (by simp[Ac.cells,Nv,Ut,Es])
 have hd:gG h (.agg d.cells)=some (.agg d.cells):=Jb _ (d:=8) (by omega) (by simp[Ao.cells,Nv,Es])
 obtain⟨outs,es,H1,R,e1,e2,e3,e4,e5,e6⟩:=K.cl (H:=h) (args:=[.agg s.cells,.agg [.int .i64 (Cc s d i).hour,gv,.int .i64 (Cc s d i).own,.int .i64 (Cc s d i).fuel,bv,ow],.agg d.cells]) rfl
  (by simp only[aC,cU,hs,hv,hd,We]) (by simp[Nv,Ut,Es])
 obtain⟨v1,l1,R1,R1',rfl,k1,h1,rfl⟩:=Dc e4
 obtain⟨v2,l2,R2,R2',rfl,k2,h2,rfl⟩:=Dc h1
 obtain⟨rfl,rfl⟩:=iS h2
 obtain⟨xc',rfl,hx'⟩:=qM k1
 obtain⟨fc',rfl,hf'⟩:=qM k2
 obtain⟨gv',bv',ow',rfl,p1,p2,p3⟩:=Yq hx'
 obtain⟨f1,f2,f3,f4,rfl,p4,p5,p6,p7⟩:=yE hf'
 have hl:∀b∈[AV.agg s.cells,.agg [.int .i64 (Cc s d i).hour,gv,.int .i64 (Cc s d i).own,.int .i64 (Cc s d i).fuel,bv,ow],.agg d.cells].flatMap (Au 12 (hf h)),b∈Rx:=fun b hb=>by
  rw[acT,acT,acT,anP,Ix (d:=8) (v:=.agg s.cells) _ (by omega) (by simp[Ac.cells,Nv,Ut,Es]),Ix (d:=8) (v:=.agg d.cells) _ (by omega) (by simp[Ao.cells,Nv,Es]),anN,anS,anS]at hb
  exact iH hx6 b hb
 obtain⟨c0,c1,c2,c3,hbl,c4⟩:=I.call e3 hl
 have hle:=e3.len
 have en:∀g l o,((nxt s d z (Cc s d i)).as g l o).cells=((Cc s d (i+1)).as g l o).cells:=fun g l o=>by show _=((nxt s d (pA d i) (Cc s d i)).as g l o).cells;rw[hk]
 have ef:(flw s d z (Cc s d i)).as w a fl r=(Ld s d i).as w a fl r:=by unfold Ld;rw[hk]
 rw[en]at hx'
 have e0:nxt s d z (Cc s d i)=Cc s d (i+1):=by show _=nxt s d (pA d i) (Cc s d i);rw[hk]
 refine⟨gv,bv,ow,wx,es,H1,gv',bv',ow',f1,f2,f3,f4,hbx,I.b0,I.b1,by rw[←e0];exact e1,e2,p1,p2,p3,p4,p5,p6,p7,by omega,I.bx3,⟨wx,by rw[c3];exact hbx⟩,rows,hrl,c4,fun st m r n e=>?_,fun x y u=>?_⟩
 ·obtain⟨q1,q2,_,q3⟩:=I.dov st m r n e
  exact⟨q1,q2,by omega⟩
 ·have N:=I.next e3 hl (xc':=[.int .i64 (Cc s d (i+1)).hour,gv',.int .i64 (Cc s d (i+1)).own,.int .i64 (Cc s d (i+1)).fuel,bv',ow']) (by rw[←e0]at hx' ⊢;exact hx') hf' (fun b hb=>e6 b (by simpa using hb)) x y u rfl (n:=i+1) (by rw[hrl])
  refine⟨[.int .i64 (Cc s d (i+1)).hour,gv',.int .i64 (Cc s d (i+1)).own,.int .i64 (Cc s d (i+1)).fuel,bv',ow'],R1,rows++[[f1,f2,f3,f4]],Ro++R2,g',l',o',F++[(Ld s d i).as w a fl r],?_,hF.snoc hFl w a fl r,by simp[hFl],by simp[hrl],?_,?_⟩
  ·rw[List.map_append,adP,acM,←ef];rw[e0]at N;exact N
  ·simp only[acZ]at e5;omega
  ·simp only[acZ,ab1]at e5 ⊢;omega
def Dm(f:Nat→Int):Nat→Int
 |0=>0
 |j+1=>Dm f j+f j
theorem sP:∀(l p:List Int),Dm (fun i=>gI (p++l) i) (p.length+l.length)=Dm (fun i=>gI (p++l) i) p.length+l.sum
 | [],p=>by simp
 |x::l,p=>by
  have h:=sP l (p++[x])
  rw[ajU,List.singleton_append,acZ,List.length_singleton]at h
  rw[adF,show p.length+(l.length+1)=p.length+1+l.length by omega,h]
  have e:gI (p++x::l) (p.length:Int)=x:=by unfold gI;rw[adL];simp
  simp only[Dm,e,List.sum_cons]
  omega
theorem Ox(l:List Int):Dm (fun i=>gI l i) l.length=l.sum:=by
 have:=sP l []
 simpa [Dm]using this
theorem Yt{f g:Nat→Int}:∀{n:Nat},(∀i,i<n→f i=g i)→Dm f n=Dm g n
 |0,_=>rfl
 |n+1,h=>by rw[Dm,Dm,Yt (fun i hi=>h i (by omega)),h n (by omega)]
theorem mZ(f g:Nat→Int):∀n,Dm (fun i=>f i+g i) n=Dm f n+Dm g n
 |0=>rfl
 |n+1=>by simp only[Dm,mZ f g n];omega
theorem Na{f:Nat→Int}{B:Int}:∀{n:Nat},(∀i,i<n→ -B≤f i∧f i≤B)→ -(B*n)≤Dm f n∧Dm f n≤B*n
 |0,_=>by simp[Dm]
 |n+1,h=>by
  have a:=Na (f:=f) (B:=B) (n:=n) (fun i hi=>h i (by omega))
  have b:=h n (by omega)
  have e:B*((n+1:Nat):Int)=B*n+B:=by rw[Int.natCast_add,Int.mul_add];simp
  simp only[Dm]
  omega
def chg(c:Ag)(hr f w a:Int):Int:=(if Gg hr c.lo c.hi=true then c.fixed else 0)+c.inn*Qe 0 f+c.out*Qe 0 (-f)-(if c.firm=true then c.cut*Qe (w-a) (a-w)else 0)
theorem adR{c:Ag}{hr f w a b:Int}(hf: -100000000≤f∧f≤100000000)(hw: -100000000≤w∧w≤100000000)(ha: -100000000≤a∧a≤100000000)(h0:Gg hr c.lo c.hi=false→f=0):dC c hr f w a b=b+chg c hr f w a:=by
 have e1:Gh f=Qe 0 f:=rfl
 have e2:Im f=Qe 0 (-f):=by unfold Im;rw[Ae (by omega) (by omega),show(0:Int)-f= -f by omega]
 have e3:Xx (w-a)=Qe (w-a) (a-w):=by
  unfold Xx
  rw[show(0:Int)-(w-a)=a-w by omega]
 unfold dC chg
 rw[e1,e2,e3]
 cases hh:Gg hr c.lo c.hi with
 |true=>simp only[if_true];omega
 |false=>
  have:=h0 hh
  subst this
  simp[Qe]
  omega
def Gy(y:Ge):Int:=y.own+y.fuel+y.gas.sum
def dU(s:Ac)(d:Ao)(k i:Nat):Int:=chg (Ql s.cons i) (Cc s d k).hour (gI (Ld s d k).flows i) (gI (Ld s d k).wants i) (gI (Ld s d k).grants i)
theorem Wt{cs:List Ag}{i:Nat}{c:Ag}(h:cs[i]?=some c):Ql cs i=c:=by simp[Ql,h]
theorem ad8{s:Ac}(h1:Ek s=true){d:Ao}(h3:Jx s.cons.length d=true){k:Nat}(hk:k<d.hours.length):
 (Cc s d (k+1)).bills.sum=(Cc s d k).bills.sum+Dm (dU s d k) s.cons.length∧Gy (Cc s d (k+1))=Gy (Cc s d k)+(pA d k).flowIn-(pA d k).flowOut:=by
 have hz:d.hours[k]?=some (pA d k):=by unfold pA;rw[abH hk];rfl
 have I:=bX h1 h3 k (by omega)
 obtain⟨_,E,W⟩:=Vs h1 h3 I hz
 refine⟨?_,?_⟩
 ·show(L7 s d (Cc s d k).hour (pA d k) (Cc s d k).gas (Cc s d k).bills (Cc s d k).owed).sum=_
  have l7:=W.len.2.1
  have l1:=E.l1.1
  rw[←W.lsum,←Ox (L7 s d _ _ _ _ _),l7,←Ox (L1 s _ _ _ _),l1,←mZ]
  refine Yt fun i hi=>?_
  obtain⟨c,hc⟩:∃c,s.cons[i]?=some c:=⟨_,abH hi⟩
  have b:=W.bill i c hc
  have f:=W.flow i
  have q:=W.cut i
  rw[b,adR f ⟨q.1,q.2.1⟩ q.2.2 (fun ha=>by
   have w0:=E.w0 i c hc ha
   have a4:=(E.a4 i).1 (by omega)
   have f5:=(E.f5 i).1 (by omega)
   omega)]
  show _=_+chg (Ql s.cons i) _ _ _ _
  rw[Wt hc];rfl
 ·show aH s d _ _ _ _ _ _+(G6 s d _ _ _ _ _ _).2+(G6 s d _ _ _ _ _ _).1.sum=_
  rw[W.sum]
  show _=(Cc s d k).own+(Cc s d k).fuel+(Cc s d k).gas.sum+_-_
  omega
theorem anC(s:Ac)(d:Ao):(Cc s d 0).bills.sum=0:=by
 show((s.cons.map (·.gas)).map fun _=>(0:Int)).sum=0
 induction s.cons with
 |nil=>rfl
 |cons c l ih=>simpa using ih
theorem auM(s:Ac)(d:Ao):Gy (Cc s d 0)=(s.cons.map (·.gas)).sum:=by
 show(0:Int)+0+(s.cons.map (·.gas)).sum=_
 omega
theorem _root_.Go.Ev.Ey.setx{st:Nat}{fl:Bool}{rows:List (List AV)}{v:AV}{g:Aa}{bx n:Nat}(h:Ey 0 st fl rows v g)(hov:∀a m r k,v=.slr a m r k→3≤m∧m≠bx∧m<n)(c:CB):Ey 0 st fl rows v (g.set bx c):=by
 rcases h with h|⟨b,w,h1,h2⟩
 ·exact .inl h
 ·exact .inr ⟨b,w,h1,by rw[ajV (fun e=>(hov _ _ _ _ h1).2.1 (by omega))];exact h2⟩
theorem au6{s:Ac}{d:Ao}(hs:s.small)(hd:d.small)(v1:Ek s=true)(v3:Jx s.cons.length d=true):
 ∃X Y,amT s d X Y∧RdT Bo 25 [.agg s.cells,.agg d.cells] [X,Y,.int .i64 0] 400:=by
 suffices k:Vo Bo 25 [.agg s.cells,.agg d.cells] [] fun o h'=>∃X Y outs R,amT s d X Y∧o=.ret (.tup outs)∧Nn (rd 6 (hf h')) outs=some ([X,Y,.int .i64 0],R)∧R.length≤400∧∀c∈h',Rnm c by
  obtain⟨o,h',e,X,Y,outs,R,hq,r⟩:=k
  exact⟨X,Y,hq,RdT.of ⟨o,h',e,outs,R,r⟩⟩
 have c1:=zN s hs
 have c2:=atP d hd s.cons.length
 rw[v1]at c1
 rw[v3]at c2
 obtain⟨nG,nL,K⟩:=alL s (by have:=(Wm v1).len;omega)
 have hD:d.hours.length≤48:=by
  simp only[Jx,abI,decide_eq_true_eq]at v3;exact v3.1.1.1.1.1
 have HB:Aa:=[]
 obtain⟨v,es,H1,R,e1,e2,e3,e4,e5,e6⟩:=K.cl (H:=[.live 6 false false [s.cells],.live 3 false false [d.cells],.live 6 false false [[.int .i64 0,.nils,.int .i64 0,.int .i64 0,.nils,.nils]]]) (args:=[.agg s.cells]) rfl
  (by
    have hs:gG [.live 6 false false [s.cells],.live 3 false false [d.cells],.live 6 false false [[.int .i64 0,.nils,.int .i64 0,.int .i64 0,.nils,.nils]]] (.agg s.cells)=some (.agg s.cells):=Jb _ (d:=8) (by omega) (by simp[Ac.cells,Nv,Ut,Es])
    simp only[aC,cU,hs,We]) (by simp[Nv,Ut,Es])
 obtain⟨xc,rfl,hx⟩:=qM e4
 obtain⟨gv,bv,ov,rfl,⟨p1,p1'⟩,⟨p2,p2'⟩,⟨p3,p3'⟩⟩:=Yq hx
 obtain⟨q,hq⟩:∃q,Fn.func 63=q:=⟨_,rfl⟩
 obtain⟨q2,hq2⟩:∃q,Fn.func 64=q:=⟨_,rfl⟩
 rw[hq]at e1
 have lent0:[AV.agg s.cells].flatMap (Au 12 (hf [.live 6 false false [s.cells],.live 3 false false [d.cells],.live 6 false false [[.int .i64 0,.nils,.int .i64 0,.int .i64 0,.nils,.nils]]]))=[]:=by
  rw[acT,anP,Ix (d:=8) (v:=.agg s.cells) _ (by omega) (by simp[Ac.cells,Nv,Ut,Es])];rfl
 rw[lent0]at e3
 have b0:H1[0]?=some (.live 6 false false [s.cells]):=e3.same 0 (by simp) (by simp)
 have b1:H1[1]?=some (.live 3 false false [d.cells]):=e3.same 1 (by simp) (by simp)
 have b2:H1[2]?=some (.live 6 false false [[.int .i64 0,.nils,.int .i64 0,.int .i64 0,.nils,.nils]]):=e3.same 2 (by simp) (by simp)
 have hle:3≤H1.length:=e3.len
 have g1:=Bv b1
 have P0:∀w,abA s d 0 H1.length .nils (H1++[.live 6 false w [[.int .i64 (Uz s nG nL).hour,gv,.int .i64 (Uz s nG nL).own,.int .i64 (Uz s nG nL).fuel,bv,ov]]]):=fun w=>
  ⟨_,R,[],[],nG,nL,false,[],⟨Bv b0 _,g1 _,Bv b2 _,hle,⟨w,by rw[adO (by omega),Nat.sub_self];rfl⟩,iP hx (fun j hj z hz=>by
     show((H1++_)[j]?).bind Da=_
     rw[ai4 (pU (by omega) hx j hj)];exact hz),Ey.nil ..,fun _=>rfl,rfl,fun j hj=>by
     have a:=e6 j (by simpa using hj)
     have b:=pU (by omega) hx j (by simpa using hj)
     simp at a;omega,fun _ _ _ _ e=>by cases e⟩,fun j f hf=>by simp at hf,rfl,rfl,by omega,by simp⟩
 refine Nk rfl Tryz.func25 rfl rfl ?_
 simp only[Tryz.f25]
 refine Ff (fun KK iN hK=>?_)
 simp only[Ao.cells]at c2
 (have hb:=trivial;with_reducible repeat' (first|simp only[hb,Vc.down,seval,ad3.down,Ao.cells,c1,c2,hq,e1,e2,g1,aaE,p1,p2,p3,p1',p2',p3',adM,adN,ajQ,ajR]|refine Aj ?_ ?_<;>intro hb|refine fd ?_|fail))
 refine Dk (Sr 45 d.hours (fun i (_:Unit) t h=>t 2=.ptr 0 0 0∧t 3=.ptr 1 0 0∧t 4=.ptr 2 0 0∧t 7=.ptr H1.length 0 0∧t 27=.int .i64 (d.hours.length:Nat)∧t 28=.int .i64 i∧abA s d i H1.length (t 8) h) (fun _ _=>())
  (fun _ e t h=>e=.exit 0∧t 4=.ptr 2 0 0∧t 7=.ptr H1.length 0 0∧abA s d d.hours.length H1.length (t 8) h) ?_ ?_ () _ _ ?_) (fun e t h hk=>?_)
 ·rintro _ t h Q' kQ ⟨h2,h3,h4,h7,h27,h28,hP⟩
  (have hb:=trivial;with_reducible repeat' (first|simp only[hb,Vc.down,seval,ad3.down,h27,h28,adA,decide_false]|refine Aj ?_ ?_<;>intro hb|refine fd ?_|fail))
  exact kQ _ _ _ ⟨rfl,by simp[up,h4],by simp[up,h7],by simpa [up]using hP⟩
 ·rintro z rest i _ t h J Q' kJ kQ hx hi ⟨h2,h3,h4,h7,h27,h28,hP⟩
  have hdd:decide ((i:Int)<(d.hours.length:Int))=true:=decide_eq_true (by omega)
  have hw:=Ak hi (by unfold maxLen;omega)
  obtain⟨xv,h8⟩:∃xv,t 8=xv:=⟨_,rfl⟩
  rw[h8]at hP
  obtain⟨gv,bv,ow,w,es,H2,gv',bv',ow',a,b,c,e,hbx,hb0,hb1,ec,eh,⟨p1,p1'⟩,⟨p2,p2'⟩,⟨p3,p3'⟩,⟨p4,p4'⟩,⟨p5,p5'⟩,⟨p6,p6'⟩,⟨p7,p7'⟩,hbl,hb3,⟨w2,hbx2⟩,rows,hrl,hown,hov,hN⟩:=hP.call hx (fun g l o=>ajW v1 v3 ((bX v1 v3 i (by omega)).of rfl rfl rfl rfl rfl rfl) hx)
  rw[hq2]at ec
  have hA:=Bv hbx2
  have hS:=Nw hbl
  have ho2:=hown.setx hov (.live 6 false true [[.int .i64 (Cc s d (i+1)).hour,gv',.int .i64 (Cc s d (i+1)).own,.int .i64 (Cc s d (i+1)).fuel,bv',ow']])
  have hap:=fun(q:Aa) (r:List AV)=>qC ho2 (pre:=[]) rfl q r [] (by simp;omega)
  have hhp:=fun(q:Aa) (r:List (List AV)) (ba:Nat)=>jX ho2 (pre:=[]) rfl q 4 false r ba
  simp only[anN,adF,acZ,ab1,alB,Nat.reduceAdd,hrl]at hap hhp
  simp only[Ao.cells]at ec hb1
  (have hb:=trivial;with_reducible repeat' (first|simp only[hb,Vc.down,seval,ad3.down,h2,h3,h7,h8,h27,h28,hdd,hw,hq2,hb0,hb1,hbx,ec,eh,hA,hS,dD,Ud,alB,hap,hhp,p1,p2,p3,p1',p2',p3',p4,p5,p6,p7,p4',p5',p6',p7',adM,adN,ajQ,ajR]|refine Aj ?_ ?_<;>intro hb|refine fd ?_|fail))
  refine Aq (kJ _ _ () ⟨by simp[up,h2],by simp[up,h3],by simp[up,h4],by simp[up,h7],by simp[up,h27],by simp[up],?_⟩ rfl)
  exact hN _ _ _
 ·exact⟨by simp[up,Dn],by simp[up,Dn],by simp[up,Dn],by simp[up],by simp[up],by simp[up],P0 _⟩
 ·obtain⟨rfl,h4,h7,xc,Rx,rows,Ro,g,l,o,F,I,hF,hFl,hrl,hRx,hRo⟩:=hk
  obtain⟨xv,h8⟩:∃xv,t 8=xv:=⟨_,rfl⟩
  rw[h8]at I
  obtain⟨gv,bv,ow,rfl,⟨p1,p1'⟩,⟨p2,p2'⟩,⟨p3,p3'⟩⟩:=Yq I.x
  obtain⟨w,hbx⟩:=I.bxw
  have hb2:=I.b2
  have hs2:∀c,(h.set 2 c)[2]?=some c:=fun c=>List.getElem?_set_self (Ja I.b2)
  (have hb:=trivial;with_reducible repeat' (first|simp only[hb,Vc.down,seval,ad3.down,h4,h7,h8,hbx,hb2,hs2,p1,p2,p3,p1',p2',p3',adM,adN,ajQ,ajR]|refine Aj ?_ ?_<;>intro hb|refine fd ?_|fail))
  have agr:∀(R:List Nat) c,(∀j∈R,3≤j)→Agr R (hf h) (hf (h.set 2 c)):=fun R c hR j hj z hz=>by
   show((h.set 2 c)[j]?).bind Da=_
   rw[ajV (by have:=hR j hj;omega)];exact hz
  have own:=I.own.setx (bx:=2) (n:=h.length) (fun a m r k e=>by obtain⟨q1,_,_,q2⟩:=I.dov a m r k e;exact⟨q1,by omega,q2⟩) (.live 6 false true [[.int .i64 ((Cc s d d.hours.length).as g l o).hour,gv,.int .i64 ((Cc s d d.hours.length).as g l o).own,.int .i64 ((Cc s d d.hours.length).as g l o).fuel,bv,ow]])
  obtain⟨R2,r1,r2⟩:=aoP (d:=5) own (aV I.q (agr _ _ fun j hj=>(I.dx j (aoC _ hj)).1)) I.nil
  refine hK _ ?_
  rw[ai7]
  refine arH (vs:=[.agg [.int .i64 ((Cc s d d.hours.length).as g l o).hour,gv,.int .i64 ((Cc s d d.hours.length).as g l o).own,.int .i64 ((Cc s d d.hours.length).as g l o).fuel,bv,ow],xv,.int .i64 0]) ?_ (alG (Af (Ls (iP I.x (agr _ _ fun j hj=>(I.dx j (anV _ hj)).1))) (Af r1 (Af (Hf ..) Ij))) ?_ rfl fun outs h' R' k1 k2 k3=>⟨_,_,outs,R',⟨g,l,o,F,rfl,rfl,hF,hFl⟩,rfl,k1,?_,k3⟩)
  ·simp only[Vc.down,seval,ad3.down,h4,hs2]
  ·simp only[acZ,ab1]at r2 ⊢;omega
  ·rw[k2];simp only[acZ,ab1]at r2 ⊢;omega
theorem avG(H:Aa)(s:Ac):gG H (.agg s.cells)=some (.agg s.cells):=Jb _ (d:=8) (by omega) (by simp[Ac.cells,Nv,Ut,Es])
theorem atS(H:Aa)(d:Ao):gG H (.agg d.cells)=some (.agg d.cells):=Jb _ (d:=8) (by omega) (by simp[Ao.cells,Nv,Es])
theorem aoR(H:Aa)(s:Ac)(d:Ao):As (gG H) [.agg s.cells,.agg d.cells]=some [.agg s.cells,.agg d.cells]:=by simp only[aC,cU,avG,atS,We]
theorem asE(s:Ac)(d:Ao):[AV.agg s.cells,AV.agg d.cells].all (Az 8)=true:=by simp[Ac.cells,Ao.cells,Nv,Ut,Es]
theorem alQ(g:HF)(s:Ac)(d:Ao):[AV.agg s.cells,AV.agg d.cells].flatMap (Au 12 g)=[]:=by
 rw[acT,acT,anP,Ix (d:=8) (v:=.agg s.cells) _ (by omega) (by simp[Ac.cells,Nv,Ut,Es]),Ix (d:=8) (v:=.agg d.cells) _ (by omega) (by simp[Ao.cells,Nv,Es])];rfl
theorem amT.got{s:Ac}{d:Ao}{X Y:AV}(hq:amT s d X Y){H:Aa}{a b:AV}{l:List AV}{R:List Nat}{xs:List AV}(h:Nn (rd 6 (hf H)) (a::b::l)=some (X::Y::xs,R)):
 ∃xc g l' o F R1 R2,a=.agg xc∧Nn (rd 5 (hf H)) xc=some (((Cc s d d.hours.length).as g l' o).cells,R1)∧rd 6 (hf H) b=some (Bj 4 false false (F.map Nc.cells),R2)∧lJ s d F∧F.length=d.hours.length∧(∀j∈R1,j∈R)∧(∀j∈R2,j∈R):=by
 obtain⟨g,l',o,F,rfl,rfl,hF,hFl⟩:=hq
 obtain⟨a0,l0,R0,R0',e0,k0,h2,rfl⟩:=Dc h
 obtain⟨a1,l1,R1,R1',e1,k1,h3,rfl⟩:=Dc h2
 cases e0;cases e1
 obtain⟨xc,rfl,hx⟩:=qM k0
 exact⟨xc,g,l',o,F,R0,R1,rfl,hx,k1,hF,hFl,fun j hj=>anV _ hj,fun j hj=>aoC _ (anV _ hj)⟩
theorem akM{s:Ac}{d:Ao}{H:Aa}{v:AV}{F:List Nc}{R:List Nat}{n i:Nat}(h:rd 6 (hf H) v=some (Bj 4 false false (F.map Nc.cells),R))(hF:lJ s d F)(hn:F.length=n)(hi:i<n):
 ∃b x1 x2 x3 x4 f,v=.slr 4 b 0 n∧Kw (H[b]?) i=some [x1,x2,x3,x4]∧(∃w a l r,f=(Ld s d i).as w a l r)∧∃R',Nn (rd 5 (hf H)) [x1,x2,x3,x4]=some (f.cells,R'):=by
 rcases dK h with⟨_,h0⟩|⟨b,rows',rfl,hb,_,_,hr⟩
 ·have:=adI.1 h0
  rw[this]at hn;simp at hn;omega
 ·obtain⟨R',hr⟩:=hr rfl
  have hfi:F[i]?=some (F[i]'(by omega)):=abH _
  obtain⟨r,R2,k1,k2⟩:=kS (i:=i) (X:=(F[i]'(by omega)).cells) hr (by show(F.map Nc.cells)[i]?=_;rw[aiK,hfi];rfl)
  obtain⟨a,b',c,e,rfl,_⟩:=yE k2
  exact⟨b,a,b',c,e,_,by rw[aaE,hn],by rw[zF hb,k1],hF i _ hfi,R2,k2⟩
theorem acV{g:HF}{v:AV}{F:List Nc}{R:List Nat}{n:Nat}(h:rd 6 g v=some (Bj 4 false false (F.map Nc.cells),R))(hn:F.length=n):ln Tryz.prog 53 (some v)=some (.ret (.int .i64 (n:Int)),[]):=by
 rcases dK h with⟨rfl,h0⟩|⟨b,rows',rfl,_⟩
 ·have:n=0:=by rw[←hn,adI.1 h0];rfl
  subst this
  simp only[Vc.down,seval,TY9.down]
 ·simp only[Vc.down,seval,TY9.down,aaE,hn]
def ag3(d:Ao):Bool:=decide (d.hours.length≤53)&&decide (d.noms.length≤210)&&decide (d.trades.length≤60)
theorem anZ(d:Ao):Bo.call (.fn 23) [.agg d.cells] []=some (.ret (.bool (ag3 d)),[]):=by
 have l1:decide ((d.hours.length:Int)≤53)=decide (d.hours.length≤53):=by rw[decide_eq_decide];omega
 have l2:decide ((d.noms.length:Int)≤210)=decide (d.noms.length≤210):=by rw[decide_eq_decide];omega
 have l3:decide ((d.trades.length:Int)≤60)=decide (d.trades.length≤60):=by rw[decide_eq_decide];omega
 (refine ce Tryz.func23 ?_;simp only[Tryz.f23];(have hb:=trivial;with_reducible repeat' (first|simp only[hb,Va.down,seval,axY.down,Ao.cells,aaE,l1,l2,l3]|refine Aj ?_ ?_<;>intro hb|refine fd ?_|fail)))
 all_goals (refine congrArg (fun b=>(Ec.ret (AV.bool b),([]:Aa))) ?_;simp_all[ag3];try (intros;omega))
def vR(s:Ac)(d:Ao):Bool:=dQ s.cons&&ag3 d&&decide (d.hours.length≤24)&&Ek s&&Jx s.cons.length d
theorem ak3{s:Ac}{d:Ao}(h:vR s d=true):dQ s.cons=true∧ag3 d=true∧decide ((24:Int)<(d.hours.length:Int))=false∧Ek s=true∧Jx s.cons.length d=true:=by
 simp only[vR,abI,decide_eq_true_eq]at h
 exact⟨h.1.1.1.1,h.1.1.1.2,decide_eq_false (by omega),h.1.2,h.2⟩
theorem ajH{s:Ac}{d:Ao}(h:vR s d=false):¬(dQ s.cons=true∧ag3 d=true∧d.hours.length≤24∧Ek s=true∧Jx s.cons.length d=true):=fun⟨a,b,c,e,f⟩=>by simp[vR,a,b,c,e,f]at h
theorem kG{H:Aa}{v:AV}{nn:Bool}{l:List Int}{R:List Nat}{i:Nat}{x:Int}(h:rd 5 (hf H) v=some (Bj 1 true nn (l.map iv),R))(hi:l[i]?=some x):
 ∃b,v=.slr 1 b 0 l.length∧Kw (H[b]?) i=some [.int .i64 x]:=by
 rcases dK h with⟨_,h0⟩|⟨b,rows',rfl,hb,_,hr,_⟩
 ·rw[adI.1 h0]at hi;simp at hi
 ·exact⟨b,by rw[aaE],by rw[zF hb,hr rfl,aiK,hi];rfl⟩
theorem Zn{g:HF}{v:AV}{nn:Bool}{l:List Int}{R:List Nat}{n:Nat}(h:rd 5 g v=some (Bj 1 true nn (l.map iv),R))(hn:l.length=n):ln Tryz.prog 25 (some v)=some (.ret (.int .i64 (n:Int)),[]):=by
 rcases dK h with⟨rfl,h0⟩|⟨b,rows',rfl,_⟩
 ·have:n=0:=by rw[←hn,adI.1 h0];rfl
  subst this
  simp only[Vc.down,seval,TY6.down]
 ·simp only[Vc.down,seval,TY6.down,aaE,hn]
theorem aaD(hk:Bo.call (.fn 15) [] []=some (.ret (.bool true),[]))(s:Ac)(hs:s.small)(d:Ao)(hd:d.small)(h:vR s d=false):
 Bo.call (.fn 5) [.agg s.cells,.agg d.cells] []=some (.ret (.bool true),[]):=by
 have h1:=zV (nn:=s.nn) hs.cons
 have h2:=anZ d
 have c1:=yK s hs
 have c3:=an3 d hd s.cons.length
 simp only[Ao.cells]at h2 c3
 have l1:decide ((24:Int)<(d.hours.length:Int))= !decide (d.hours.length≤24):=by rw[←decide_not,decide_eq_decide];omega
 have key:=ajH h
 (refine ce Tryz.func5 ?_;simp only[Tryz.f5];(have hb:=trivial;with_reducible repeat' (first|simp only[hb,Vc.down,seval,TY5.down,Ao.cells,h1,h2,l1,c1,c3,hk,aaE]|refine Aj ?_ ?_<;>intro hb|refine fd ?_|fail)))
 all_goals (exfalso;refine key ⟨?_,?_,?_,?_,?_⟩<;>clear key h<;>simp_all)
theorem ahF{c:Ag}(h:Hj c=true){f w a:Int}(hf: -100000000≤f∧f≤100000000)(hw: -100000000≤w∧w≤100000000)(ha: -100000000≤a∧a≤100000000):
 (0≤c.fixed∧c.fixed≤10000)∧(0≤c.inn*Qe 0 f∧c.inn*Qe 0 f≤1000000000000)∧(0≤c.out*Qe 0 (-f)∧c.out*Qe 0 (-f)≤1000000000000)∧(0≤c.cut*Qe (w-a) (a-w)∧c.cut*Qe (w-a) (a-w)≤2000000000000):=by
 obtain⟨_,h1,h2,h3,h4⟩:=pY h
 have m1:0≤Qe 0 f∧Qe 0 f≤100000000:=by unfold Qe;split<;>omega
 have m2:0≤Qe 0 (-f)∧Qe 0 (-f)≤100000000:=by unfold Qe;split<;>omega
 have m3:0≤Qe (w-a) (a-w)∧Qe (w-a) (a-w)≤200000000:=by unfold Qe;split<;>omega
 have C:=(Rj h).fixed
 have q1:=Ux (a:=c.inn) (c:=10000) (by omega) (by omega) m1.1 m1.2
 have q2:=Ux (a:=c.out) (c:=10000) (by omega) (by omega) m2.1 m2.2
 have q3:=Ux (a:=c.cut) (c:=10000) (by omega) (by omega) m3.1 m3.2
 exact⟨C,by omega,by omega,by omega⟩
theorem yQ{s:Ac}(h1:Ek s=true){d:Ao}(h3:Jx s.cons.length d=true){k:Nat}(hk:k≤d.hours.length):
 (-50000000000000000≤(Cc s d k).bills.sum∧(Cc s d k).bills.sum≤50000000000000000)∧(-50000000000000000≤Gy (Cc s d k)∧Gy (Cc s d k)≤50000000000000000):=by
 have J:=bX h1 h3 k hk
 have S:=Wm h1
 have hl:=S.len
 have hD:d.hours.length≤48:=by
  have p:=h3
  simp only[Jx,abI,decide_eq_true_eq]at p;exact p.1.1.1.1.1
 have b:=Na (f:=fun i=>gI (Cc s d k).bills i) (B:=5000000000000000) (n:=(Cc s d k).bills.length) (fun i _=>by have:=J.i.lok i;omega)
 rw[Ox]at b
 have g:=Na (f:=fun i=>gI (Cc s d k).gas i) (B:=100000000) (n:=(Cc s d k).gas.length) (fun i hi=>by
  have hc:s.cons[i]?=some (s.cons[i]'(by have:=J.i.g.len;omega)):=abH _
  have a:=J.i.g.inn i _ hc
  have c:=(S.cons _ (adK hc)).space
  omega)
 rw[Ox]at g
 have l1:=J.i.l
 have l2:=J.i.g.len
 have ow:=J.i.own
 have fu:=J.fuel
 unfold Gy
 refine⟨?_,?_⟩
 ·have:(5000000000000000:Int)*((Cc s d k).bills.length:Nat)≤5000000000000000*8:=aoD (by omega) (by omega)
  omega
 ·omega
theorem qW{s:Ac}(h1:Ek s=true){d:Ao}(h3:Jx s.cons.length d=true){k:Nat}(hk:k≤d.hours.length):Dm (fun i=>gI (Cc s d k).bills i) s.cons.length=(Cc s d k).bills.sum:=by
 rw[←(bX h1 h3 k hk).i.l,Ox]
theorem nB(f g:Nat→Int):∀n,Dm (fun i=>f i-g i) n=Dm f n-Dm g n
 |0=>rfl
 |n+1=>by simp only[Dm,nB f g n];omega
theorem aaP{s:Ac}(h1:Ek s=true){d:Ao}(h3:Jx s.cons.length d=true):(Cc s d d.hours.length).own+(Cc s d d.hours.length).fuel+Dm (fun i=>gI (Cc s d d.hours.length).gas i-(Ql s.cons i).gas) s.cons.length=Gy (Cc s d d.hours.length)-Gy (Cc s d 0):=by
 have lg:=(bX h1 h3 d.hours.length (ajS _)).i.g.len
 have e1:Dm (fun i=>gI (Cc s d d.hours.length).gas i) s.cons.length=(Cc s d d.hours.length).gas.sum:=by rw[←lg,Ox]
 have e2:Dm (fun i=>(Ql s.cons i).gas) s.cons.length=(s.cons.map (·.gas)).sum:=by
  have q:=Ox (s.cons.map (·.gas))
  rw[aaE]at q
  rw[←q]
  refine Yt fun i hi=>?_
  have hc:s.cons[i]?=some s.cons[i]:=abH hi
  unfold gI
  rw[Wt hc,adL,aiK,hc];rfl
 rw[nB,e1,e2,auM]
 unfold Gy
 omega
theorem Pl{H:Aa}{b i:Nat}{r:List AV}(h:Kw (H[b]?) i=some r)(l:Aa):Kw ((H++l)[b]?) i=some r:=by
 have hb:b<H.length:=by
  by_cases hb:b<H.length
  ·exact hb
  ·rw[anO (by omega)]at h;cases h
 rw[ai4 hb];exact h
theorem iO{H:Aa}{b i:Nat}{r:List AV}(h:Kw (H[b]?) i=some r):b<H.length:=by
 by_cases hb:b<H.length
 ·exact hb
 ·rw[anO (by omega)]at h;cases h
theorem amW{s:Ac}(h1:Ek s=true){d:Ao}(h3:Jx s.cons.length d=true){k i:Nat}(hk:k<d.hours.length)(hi:i<s.cons.length): -10000000000000≤dU s d k i∧dU s d k i≤10000000000000:=by
 have hz:d.hours[k]?=some (pA d k):=by unfold pA;rw[abH hk];rfl
 obtain⟨_,_,W⟩:=Vs h1 h3 (bX h1 h3 k (by omega)) hz
 have hcs:∀c∈s.cons,Hj c=true:=adJ.1 (Lq h1)
 have hc:s.cons[i]?=some s.cons[i]:=abH hi
 have f: -100000000≤gI (Ld s d k).flows i∧gI (Ld s d k).flows i≤100000000:=W.flow i
 have w:=W.cut i
 have C:=ahF (hcs _ (adK hc)) f (w:=gI (Ld s d k).wants i) (a:=gI (Ld s d k).grants i) ⟨w.1,w.2.1⟩ w.2.2
 unfold dU chg
 rw[Wt hc]
 split<;>split<;>omega
theorem adB(hk:Bo.call (.fn 15) [] []=some (.ret (.bool true),[]))(s:Ac)(hs:s.small)(d:Ao)(hd:d.small)(h:vR s d=true):
 Bo.call (.fn 5) [.agg s.cells,.agg d.cells] []=some (.ret (.bool true),[]):=by
 obtain⟨g1,g2,g3,v1,v3⟩:=ak3 h
 have h1:=zV (nn:=s.nn) hs.cons
 have h2:=anZ d
 rw[g1]at h1
 rw[g2]at h2
 have c1:=yK s hs
 have c3:=an3 d hd s.cons.length
 rw[v1]at c1
 rw[v3]at c3
 have hl:=(Wm v1).len
 have hcs:∀c∈s.cons,Hj c=true:=adJ.1 (Lq v1)
 have hD:d.hours.length≤24:=by rw[decide_eq_false_iff_not]at g3;omega
 obtain⟨X,Y,hq1,K1⟩:=au6 hs hd v1 v3
 obtain⟨qR,hqR⟩:∃q,Fn.func 25=q:=⟨_,rfl⟩
 have hk':=hk
 simp only[Ao.cells]at h2 c3
 refine ce Tryz.func5 ?_
 simp only[Tryz.f5]
 (have hb:=trivial;with_reducible repeat' (first|simp only[hb,Vc.down,seval,TY5.down,Ao.cells,h1,h2,g3,c1,c3,hqR,aaE]|refine Aj ?_ ?_<;>intro hb|refine fd ?_|fail))
 generalize hE:cl Bo _ (some (.func qR [] [])) (some _)=E
 rw[←hqR]at hE
 obtain⟨outs,es,H1,R,rfl,eh,k1,k2,k3,k4⟩:=K1.at hE rfl (aoR _ s d) (asE s d)
 obtain⟨v1',l1,_,_,rfl,_,k2',_⟩:=Dc k2
 obtain⟨yv,l2,_,_,rfl,_,k2',_⟩:=Dc k2'
 obtain⟨v3',l3,_,_,rfl,k5,k2',_⟩:=Dc k2'
 obtain⟨rfl,_⟩:=iS k2'
 obtain⟨rfl,_⟩:=pB k5
 obtain⟨xc,g,l,o,F,R1,R2,rfl,hx,hy,hF,hFl,hR1,hR2⟩:=hq1.got k2
 have hx0:=hx
 obtain⟨gv,bv,ov,rfl,⟨p1,p1'⟩,⟨p2,p2'⟩,⟨p3,p3'⟩⟩:=Yq hx
 rw[alQ]at k1
 have m0:H1[0]?=some (.live 6 false false [s.cells]):=k1.same 0 (by simp) (by simp)
 have m1:H1[1]?=some (.live 3 false false [d.cells]):=k1.same 1 (by simp) (by simp)
 have n0:=Bv m0
 have n1:=Bv m1
 simp only[Ao.cells]at n1
 have hn1:=acV hy hFl
 have Jn:=bX v1 v3 d.hours.length (ajS _)
 obtain⟨_,_,_,_,ea,_,hx0,_⟩:=Dc hx0;cases ea
 obtain⟨_,_,_,_,ea,yg,hx0,_⟩:=Dc hx0;cases ea
 obtain⟨_,_,_,_,ea,_,hx0,_⟩:=Dc hx0;cases ea
 obtain⟨_,_,_,_,ea,_,hx0,_⟩:=Dc hx0;cases ea
 obtain⟨_,_,_,_,ea,yb,hx0,_⟩:=Dc hx0;cases ea
 have q1:=Zn yg (n:=s.cons.length) Jn.i.g.len
 have q2:=Zn yb (n:=s.cons.length) Jn.i.l
 have ow:=Jn.i.own
 have fu:=Jn.fuel
 have e9:IntKind.i64.wrap ((Cc s d d.hours.length).own+(Cc s d d.hours.length).fuel)=(Cc s d d.hours.length).own+(Cc s d d.hours.length).fuel:=Ae (by omega) (by omega)
 replace e9:IntKind.i64.wrap (((Cc s d d.hours.length).as g l o).own+((Cc s d d.hours.length).as g l o).fuel)=(Cc s d d.hours.length).own+(Cc s d d.hours.length).fuel:=e9
 (have hb:=trivial;with_reducible repeat' (first|simp only[hb,Vc.down,seval,TY5.down,Ao.cells,eh,p1,p2,p3,p1',p2',p3',adM,adN,ajQ,ajR,n0,n1,hn1,q1,q2,e9,aaE,qZ,anY]|refine Aj ?_ ?_<;>intro hb|refine fdl ?_|fail))
 generalize hHH:H1++[CB.live 6 false true _]=HH
 have agr:∀(j:Nat) z,(hf H1 j).bind Da=some z→(hf HH j).bind Da=some z:=fun j z hz=>by
  rw[←hHH]
  show((H1++_)[j]?).bind Da=_
  rw[ai4 (pJ hz)];exact hz
 have hyl:=Xd hy (g':=hf HH) fun j _ z hz=>agr j z hz
 have yg':=Xd yg (g':=hf HH) fun j _ z hz=>agr j z hz
 have yb':=Xd yb (g':=hf HH) fun j _ z hz=>agr j z hz
 have m0':∀l,(HH++l)[0]?=some (.live 6 false false [s.cells]):=fun l=>Bv (by rw[←hHH];exact n0 _) l
 have m1':∀l,(HH++l)[1]?=some (.live 3 false false [d.cells]):=fun l=>Bv (by rw[←hHH];exact n1 _) l
 have mx:HH[H1.length]?=some (.live 6 false true [[.int .i64 ((Cc s d d.hours.length).as g l o).hour,gv,.int .i64 ((Cc s d d.hours.length).as g l o).own,.int .i64 ((Cc s d d.hours.length).as g l o).fuel,bv,ov]]):=by
  rw[←hHH,adO (by omega),Nat.sub_self,List.getElem?_cons_zero]
 have z0:=m0' []
 rw[anS]at z0
 obtain⟨Bn,hBn⟩:∃x,x=(Cc s d d.hours.length).bills.sum:=⟨_,rfl⟩
 have lg:=Jn.i.g.len
 have lb:=Jn.i.l
 have hsp:∀i,i<s.cons.length→0≤gI (Cc s d d.hours.length).gas i∧gI (Cc s d d.hours.length).gas i≤100000000∧0≤(Ql s.cons i).gas∧(Ql s.cons i).gas≤100000000:=fun i hi=>by
  have hc:s.cons[i]?=some s.cons[i]:=abH hi
  have a:=Jn.i.g.inn i _ hc
  have cc:=hcs _ (adK hc)
  have c:=(Rj cc).space
  have q:=cc
  simp only[Hj,Gg,abI,decide_eq_true_eq]at q
  rw[Wt hc]
  omega
 have bB:∀j,j≤s.cons.length→ -50000000000000000≤Dm (fun i=>gI (Cc s d d.hours.length).bills i) j∧Dm (fun i=>gI (Cc s d d.hours.length).bills i) j≤50000000000000000:=fun j hj=>by
  have b:=Na (f:=fun i=>gI (Cc s d d.hours.length).bills i) (B:=5000000000000000) (n:=j) (fun i _=>by have:=Jn.i.lok i;omega)
  have:(5000000000000000:Int)*(j:Nat)≤5000000000000000*8:=aoD (by omega) (by omega)
  omega
 have bG:∀j,j≤s.cons.length→ -50000000000000000≤Dm (fun i=>gI (Cc s d d.hours.length).gas i-(Ql s.cons i).gas) j∧Dm (fun i=>gI (Cc s d d.hours.length).gas i-(Ql s.cons i).gas) j≤50000000000000000:=fun j hj=>by
  have b:=Na (f:=fun i=>gI (Cc s d d.hours.length).gas i-(Ql s.cons i).gas) (B:=100000000) (n:=j) (fun i hi=>by have:=hsp i (by omega);omega)
  omega
 refine Dk (Sr 258 s.cons (fun j (_:Unit) t h=>h=HH∧t 2=.ptr 0 0 0∧t 3=.ptr 1 0 0∧t 5=.ptr H1.length 0 0∧t 6=yv∧t 8=.int .i64 (Dm (fun i=>gI (Cc s d d.hours.length).bills i) j)∧t 9=.int .i64 ((Cc s d d.hours.length).own+(Cc s d d.hours.length).fuel+Dm (fun i=>gI (Cc s d d.hours.length).gas i-(Ql s.cons i).gas) j)∧t 10=.int .i64 j) (fun _ _=>())
  (fun _ e t h=>e=.exit 0∧h=HH∧t 2=.ptr 0 0 0∧t 3=.ptr 1 0 0∧t 6=yv∧t 8=.int .i64 (Dm (fun i=>gI (Cc s d d.hours.length).bills i) s.cons.length)∧t 9=.int .i64 ((Cc s d d.hours.length).own+(Cc s d d.hours.length).fuel+Dm (fun i=>gI (Cc s d d.hours.length).gas i-(Ql s.cons i).gas) s.cons.length)) ?_ ?_ () _ _ ?_) (fun e t h hk=>?_)
 ·rintro _ t h Q' kQ ⟨rfl,h2,h3,h5,h6,h8,h9,h10⟩
  (have hb:=trivial;with_reducible repeat' (first|simp only[hb,Vc.down,seval,TY5.down,h2,h10,z0,aaE,adA,decide_false]|refine Aj ?_ ?_<;>intro hb|refine fd ?_|fail))
  exact kQ _ _ _ ⟨rfl,rfl,by simp[up,h2],by simp[up,h3],by simp[up,h6],by simp[up,h8],by simp[up,h9]⟩
 ·rintro c rest j _ t h J Q' kJ kQ hc hj ⟨rfl,h2,h3,h5,h6,h8,h9,h10⟩
  have hdd:decide ((j:Int)<(s.cons.length:Int))=true:=decide_eq_true (by omega)
  have hw:=Ak hj (by unfold maxLen;omega)
  have hjj:((j:Int)<(s.cons.length:Int))=True:=eq_true (by omega)
  have xb:(Cc s d d.hours.length).bills[j]?=some (gI (Cc s d d.hours.length).bills j):=by rw[show gI (Cc s d d.hours.length).bills j=((Cc s d d.hours.length).bills[j]?).getD 0 by unfold gI;rw[adL],abH (by omega)];rfl
  have xg:(Cc s d d.hours.length).gas[j]?=some (gI (Cc s d d.hours.length).gas j):=by rw[show gI (Cc s d d.hours.length).gas j=((Cc s d d.hours.length).gas[j]?).getD 0 by unfold gI;rw[adL],abH (by omega)];rfl
  obtain⟨bb,rfl,rb⟩:=kG yb' xb
  obtain⟨bg,rfl,rg⟩:=kG yg' xg
  have hbj:=bB j (by omega)
  have hgj:=bG j (by omega)
  have sj:=hsp j hj
  have lk:=Jn.i.lok j
  have lB:((Cc s d d.hours.length).as g l o).bills.length=s.cons.length:=lb
  have lG:((Cc s d d.hours.length).as g l o).gas.length=s.cons.length:=lg
  rw[Wt hc]at sj
  (have hb:=trivial;with_reducible repeat' (first|simp only[hb,Vc.down,seval,TY5.down,Ag.cells,h2,h5,h8,h9,h10,hdd,hw,hjj,hc,z0,mx,rb,rg,lB,lG,aaE]|refine Aj ?_ ?_<;>intro hb|refine fd ?_|fail))
  refine Aq (kJ _ _ () ⟨rfl,by simp[up,h2],by simp[up,h3],by simp[up,h5],by simp[up,h6],?_,?_,by simp[up]⟩ rfl)
  ·show AV.int .i64 (IntKind.i64.wrap (Dm (fun i=>gI (Cc s d d.hours.length).bills i) j+gI (Cc s d d.hours.length).bills j))=_
   rw[Ae (by omega) (by omega)];rfl
  ·show AV.int .i64 (IntKind.i64.wrap (IntKind.i64.wrap ((Cc s d d.hours.length).own+(Cc s d d.hours.length).fuel+Dm (fun i=>gI (Cc s d d.hours.length).gas i-(Ql s.cons i).gas) j+gI (Cc s d d.hours.length).gas j)-c.gas))=_
   rw[Ae (n:=(Cc s d d.hours.length).own+(Cc s d d.hours.length).fuel+Dm (fun i=>gI (Cc s d d.hours.length).gas i-(Ql s.cons i).gas) j+gI (Cc s d d.hours.length).gas j) (by omega) (by omega),Ae (by omega) (by omega)]
   refine congrArg (AV.int .i64) ?_
   show _=(Cc s d d.hours.length).own+(Cc s d d.hours.length).fuel+(Dm (fun i=>gI (Cc s d d.hours.length).gas i-(Ql s.cons i).gas) j+(gI (Cc s d d.hours.length).gas j-(Ql s.cons j).gas))
   rw[Wt hc];omega
 ·exact⟨rfl,by simp[up,Dn],by simp[up,Dn],by simp[up],by simp[up],by simp[up,Dm],by simp[up,Dm],by simp[up]⟩
 ·obtain⟨rfl,hh,h2,h3,h6,h8,h9⟩:=hk
  have hh:=hh.symm
  subst hh
  rw[qW v1 v3 (ajS _)]at h8
  rw[aaP v1 v3]at h9
  have hy0:=Xd hy (g':=hf HH) fun j _ z hz=>agr j z hz
  (have hb:=trivial;with_reducible repeat' (first|simp only[hb,Vc.down,seval,TY5.down]|refine Aj ?_ ?_<;>intro hb|refine fd ?_|fail))
  refine Dk (Sr 258 d.hours (fun i (_:Unit) t h=>(∃l,h=HH++l)∧t 2=.ptr 0 0 0∧t 3=.ptr 1 0 0∧t 6=yv∧t 8=.int .i64 ((Cc s d d.hours.length).bills.sum-(Cc s d i).bills.sum)∧t 9=.int .i64 (Gy (Cc s d d.hours.length)-Gy (Cc s d i))∧t 11=.int .i64 i) (fun _ _=>())
   (fun _ e t h=>e=.exit 2∧t 8=.int .i64 0∧t 9=.int .i64 0) ?_ ?_ () _ _ ?_) (fun e t h hk=>?_)
  ·rintro _ t h Q' kQ ⟨⟨l,rfl⟩,h2,h3,h6,h8,h9,h11⟩
   (have hb:=trivial;with_reducible repeat' (first|simp only[hb,Vc.down,seval,TY5.down,h6,h11,hn1,adA,decide_false]|refine Aj ?_ ?_<;>intro hb|refine fd ?_|fail))
   exact kQ _ _ _ ⟨rfl,by simp[up,h8],by simp[up,h9]⟩
  ·rintro z rest i _ t h J Q' kJ kQ hz hi ⟨⟨l,rfl⟩,h2,h3,h6,h8,h9,h11⟩
   have hdd:decide ((i:Int)<(d.hours.length:Int))=true:=decide_eq_true (by omega)
   have hw:=Ak hi (by unfold maxLen;omega)
   have hii:((i:Int)<(d.hours.length:Int))=True:=eq_true (by omega)
   obtain⟨bo,x1,x2,x3,x4,f1,rfl,r1,⟨⟨w1,w2,w3,w4,rfl⟩,Q1,hr1⟩⟩:=akM hy0 hF hFl hi
   obtain⟨a1,la1,S1,S1',ea1,y1,hr1,_⟩:=Dc hr1
   obtain⟨a2,la2,S2,S2',ea2,y2,hr1,_⟩:=Dc hr1
   obtain⟨a3,la3,S3,S3',ea3,y3,hr1,_⟩:=Dc hr1
   cases ea1;cases ea2;cases ea3
   have hz0:d.hours[i]?=some (pA d i):=by unfold pA;rw[hz];rfl
   have hzz:pA d i=z:=by unfold pA;rw[hz];rfl
   have JJ:=bX v1 v3 i (by omega)
   obtain⟨_,E,W⟩:=Vs v1 v3 JJ hz0
   have q1:=Zn y1 (n:=s.cons.length) W.len.2.2.2.1
   have q2:=Zn y2 (n:=s.cons.length) W.len.2.2.2.2
   have q3:=Zn y3 (n:=s.cons.length) W.len.2.2.1
   have r1A:=Pl r1
   have D:=Zs v3 hz
   have sI:=yQ v1 v3 (k:=i) (by omega)
   have sN:=yQ v1 v3 (k:=d.hours.length) (ajS _)
   have eg1:IntKind.i64.wrap (Gy (Cc s d d.hours.length)-Gy (Cc s d i)-z.flowIn)=Gy (Cc s d d.hours.length)-Gy (Cc s d i)-z.flowIn:=Ae (by omega) (by omega)
   have eg2:IntKind.i64.wrap (Gy (Cc s d d.hours.length)-Gy (Cc s d i)-z.flowIn+z.flowOut)=Gy (Cc s d d.hours.length)-Gy (Cc s d (i+1)):=by
    rw[Ae (by omega) (by omega),(ad8 v1 v3 hi).2,hzz];omega
   (have hb:=trivial;with_reducible repeat' (first|simp only[hb,Vc.down,seval,TY5.down,Ao.cells,Aw.cells,h2,h3,h6,h8,h9,h11,hdd,hw,hii,hz,r1A,hn1,m0',m1',q1,q2,q3,eg1,eg2,hFl,aaE,qZ,anY]|refine Aj ?_ ?_<;>intro hb|refine fd ?_|fail))
   refine Dk (Sr 258 s.cons (fun j (_:Unit) t' h'=>(∃l,h'=HH++l)∧t' 2=.ptr 0 0 0∧t' 3=.ptr 1 0 0∧t' 6=.slr 4 bo 0 d.hours.length∧t' 8=.int .i64 ((Cc s d d.hours.length).bills.sum-(Cc s d i).bills.sum-Dm (dU s d i) j)∧t' 9=.int .i64 (Gy (Cc s d d.hours.length)-Gy (Cc s d (i+1)))∧t' 11=.int .i64 i∧t' 12=.int .i64 j) (fun _ _=>())
    (fun _ e t' h'=>e=.exit 4∧(∃l,h'=HH++l)∧t' 2=.ptr 0 0 0∧t' 3=.ptr 1 0 0∧t' 6=.slr 4 bo 0 d.hours.length∧t' 8=.int .i64 ((Cc s d d.hours.length).bills.sum-(Cc s d (i+1)).bills.sum)∧t' 9=.int .i64 (Gy (Cc s d d.hours.length)-Gy (Cc s d (i+1)))∧t' 11=.int .i64 i) ?_ ?_ () _ _ ?_) (fun e t' h' hk=>?_)
   ·rintro _ t' h' Q'' kQ' ⟨⟨l',rfl⟩,h2,h3,h6,h8,h9,h11,h12⟩
    (have hb:=trivial;with_reducible repeat' (first|simp only[hb,Vc.down,seval,TY5.down,h2,h12,m0',aaE,adA,decide_false]|refine Aj ?_ ?_<;>intro hb|refine fd ?_|fail))
    exact kQ' _ _ _ ⟨rfl,⟨_,rfl⟩,by simp[up,h2],by simp[up,h3],by simp[up,h6],by
     simp only[up];show t' 8=_
     rw[h8,(ad8 v1 v3 hi).1];refine congrArg (AV.int .i64) ?_;omega,by simp[up,h9],by simp[up,h11]⟩
   ·rintro c rest' j _ t' h' J' Q'' kJ' kQ' hc hj ⟨⟨l',hG⟩,h2,h3,h6,h8,h9,h11,h12⟩
    have hdd':decide ((j:Int)<(s.cons.length:Int))=true:=decide_eq_true (by omega)
    have hw':=Ak hj (by unfold maxLen;omega)
    have hjj:((j:Int)<(s.cons.length:Int))=True:=eq_true (by omega)
    have lW:((Ld s d i).as w1 w2 w3 w4).wants.length=s.cons.length:=W.len.2.2.2.1
    have lA:((Ld s d i).as w1 w2 w3 w4).grants.length=s.cons.length:=W.len.2.2.2.2
    have lF:((Ld s d i).as w1 w2 w3 w4).flows.length=s.cons.length:=W.len.2.2.1
    have gIat:∀q:List Int,q.length=s.cons.length→q[j]?=some (gI q j):=fun q hq=>by unfold gI;rw[adL,abH (by omega)];rfl
    obtain⟨bw,rfl,rw1⟩:=kG y1 (gIat _ lW)
    obtain⟨ba,rfl,ra1⟩:=kG y2 (gIat _ lA)
    obtain⟨bf,rfl,rf1⟩:=kG y3 (gIat _ lF)
    have hf1: -100000000≤gI (Ld s d i).flows j∧gI (Ld s d i).flows j≤100000000:=W.flow j
    have hw1:=W.cut j
    have CI:=ahF (hcs c (adK hc)) hf1 (w:=gI (Ld s d i).wants j) (a:=gI (Ld s d i).grants j) ⟨hw1.1,hw1.2.1⟩ hw1.2.2
    have z0G:h'[0]?=some (.live 6 false false [s.cells]):=by rw[hG];exact m0' _
    have n0G:=Bv z0G
    have rG0:=r1A l'
    have wG0:=Pl rw1 l'
    have aG0:=Pl ra1 l'
    have fG0:=Pl rf1 l'
    rw[←hG]at rG0 wG0 aG0 fG0
    have rG:=Pl rG0
    have wG:=Pl wG0
    have aG:=Pl aG0
    have fG:=Pl fG0
    have hbo:=iO rG0
    have hbw:=iO wG0
    have hba:=iO aG0
    have hbf:=iO fG0
    have hs0:Oy (h'.length-1) 0 0=1000:=by unfold Oy;rw[if_neg (by omega)];omega
    have hso:Oy (h'.length-1) 0 bo=1000:=by unfold Oy;rw[if_neg (by omega)];omega
    have hsw:Oy (h'.length-1) 0 bw=1000:=by unfold Oy;rw[if_neg (by omega)];omega
    have hsa:Oy (h'.length-1) 0 ba=1000:=by unfold Oy;rw[if_neg (by omega)];omega
    have hsf:Oy (h'.length-1) 0 bf=1000:=by unfold Oy;rw[if_neg (by omega)];omega
    have hsn:Oy (h'.length-1) 0 h'.length=1001:=by unfold Oy;rw[if_neg (by omega)];omega
    obtain⟨X0,hX0⟩:∃x,x=(Cc s d d.hours.length).bills.sum-(Cc s d i).bills.sum-Dm (dU s d i) j:=⟨_,rfl⟩
    obtain⟨P1,hP1⟩:∃x,x=c.inn*Qe 0 (gI (Ld s d i).flows j):=⟨_,rfl⟩
    obtain⟨P2,hP2⟩:∃x,x=c.out*Qe 0 (-(gI (Ld s d i).flows j)):=⟨_,rfl⟩
    obtain⟨P3,hP3⟩:∃x,x=c.cut*Qe (gI (Ld s d i).wants j-gI (Ld s d i).grants j) (gI (Ld s d i).grants j-gI (Ld s d i).wants j):=⟨_,rfl⟩
    rw[←hX0]at h8
    rw[←hP1,←hP2,←hP3]at CI
    have hck:dU s d i j=(if Gg (i:Int) c.lo c.hi=true then c.fixed else 0)+P1+P2-(if c.firm=true then P3 else 0):=by
     unfold dU chg
     rw[Wt hc,JJ.hour,hP1,hP2,hP3]
    have sS:=Na (f:=dU s d i) (B:=10000000000000) (n:=j) (fun i' hi'=>amW v1 v3 hi (by omega))
    have hX: -200000000000000000≤X0∧X0≤200000000000000000:=by rw[hX0];omega
    have em0:IntKind.i64.wrap (0-gI ((Ld s d i).as w1 w2 w3 w4).flows j)= -(gI ((Ld s d i).as w1 w2 w3 w4).flows j):=by
     show IntKind.i64.wrap (0-gI (Ld s d i).flows j)= -(gI (Ld s d i).flows j)
     rw[Ae (by omega) (by omega)];omega
    have em1:IntKind.i64.wrap (c.inn*if gI ((Ld s d i).as w1 w2 w3 w4).flows j>0 then gI ((Ld s d i).as w1 w2 w3 w4).flows j else 0)=P1:=by
     show IntKind.i64.wrap (c.inn*Qe 0 (gI (Ld s d i).flows j))=P1
     rw[←hP1,Ae (by omega) (by omega)]
    have em2:IntKind.i64.wrap (c.out*if -(gI ((Ld s d i).as w1 w2 w3 w4).flows j)>0 then -(gI ((Ld s d i).as w1 w2 w3 w4).flows j)else 0)=P2:=by
     show IntKind.i64.wrap (c.out*Qe 0 (-(gI (Ld s d i).flows j)))=P2
     rw[←hP2,Ae (by omega) (by omega)]
    have em3:IntKind.i64.wrap (gI ((Ld s d i).as w1 w2 w3 w4).grants j-gI ((Ld s d i).as w1 w2 w3 w4).wants j)=gI ((Ld s d i).as w1 w2 w3 w4).grants j-gI ((Ld s d i).as w1 w2 w3 w4).wants j:=by
     show IntKind.i64.wrap (gI (Ld s d i).grants j-gI (Ld s d i).wants j)=gI (Ld s d i).grants j-gI (Ld s d i).wants j
     exact Ae (by show _≤gI (A4 s d _ _ _ _ _) j-gI (W3 s d _ _ _ _) j;omega) (by show gI (A4 s d _ _ _ _ _) j-gI (W3 s d _ _ _ _) j<_;omega)
    have em4:IntKind.i64.wrap (gI ((Ld s d i).as w1 w2 w3 w4).wants j-gI ((Ld s d i).as w1 w2 w3 w4).grants j)=gI ((Ld s d i).as w1 w2 w3 w4).wants j-gI ((Ld s d i).as w1 w2 w3 w4).grants j:=by
     show IntKind.i64.wrap (gI (Ld s d i).wants j-gI (Ld s d i).grants j)=gI (Ld s d i).wants j-gI (Ld s d i).grants j
     exact Ae (by show _≤gI (W3 s d _ _ _ _) j-gI (A4 s d _ _ _ _ _) j;omega) (by show gI (W3 s d _ _ _ _) j-gI (A4 s d _ _ _ _ _) j<_;omega)
    have em5:IntKind.i64.wrap (c.cut*if gI ((Ld s d i).as w1 w2 w3 w4).grants j-gI ((Ld s d i).as w1 w2 w3 w4).wants j>gI ((Ld s d i).as w1 w2 w3 w4).wants j-gI ((Ld s d i).as w1 w2 w3 w4).grants j then gI ((Ld s d i).as w1 w2 w3 w4).grants j-gI ((Ld s d i).as w1 w2 w3 w4).wants j else gI ((Ld s d i).as w1 w2 w3 w4).wants j-gI ((Ld s d i).as w1 w2 w3 w4).grants j)=P3:=by
     show IntKind.i64.wrap (c.cut*Qe (gI (Ld s d i).wants j-gI (Ld s d i).grants j) (gI (Ld s d i).grants j-gI (Ld s d i).wants j))=P3
     rw[←hP3,Ae (by omega) (by omega)]
    have a1:IntKind.i64.wrap (X0-P1)=X0-P1:=Ae (by omega) (by omega)
    have a2:IntKind.i64.wrap (X0-P1-P2)=X0-P1-P2:=Ae (by omega) (by omega)
    have a3:IntKind.i64.wrap (X0-P1-P2+P3)=X0-P1-P2+P3:=Ae (by omega) (by omega)
    have b0:IntKind.i64.wrap (X0-c.fixed)=X0-c.fixed:=Ae (by omega) (by omega)
    have b1:IntKind.i64.wrap (X0-c.fixed-P1)=X0-c.fixed-P1:=Ae (by omega) (by omega)
    have b2:IntKind.i64.wrap (X0-c.fixed-P1-P2)=X0-c.fixed-P1-P2:=Ae (by omega) (by omega)
    have b3:IntKind.i64.wrap (X0-c.fixed-P1-P2+P3)=X0-c.fixed-P1-P2+P3:=Ae (by omega) (by omega)
    cases hlo:decide (c.lo≤(i:Int))<;>cases hhi:decide ((i:Int)≤c.hi)<;>cases hf:c.firm
    all_goals
     (have hb:=trivial;with_reducible repeat' (first|simp only[hb,Vc.down,seval,TY5.down,Ag.cells,h2,h3,h6,h8,h9,h11,h12,hdd',hw',hjj,hii,hc,hlo,hhi,hf,z0G,n0G,rG0,rG,wG,aG,fG0,fG,lW,lA,lF,em0,em1,em2,em3,em4,em5,a1,a2,a3,b0,b1,b2,b3,aaE]|refine Aj ?_ ?_<;>intro hb|((refine Hh (h'.length-1) 0 ?_ ?_);(simp (discharger:=decide) only[He,Et,adP,acM,Dp,Gw,Gz,Hg,Gv,Dj,Eu,Eo,adF,ab1,hs0,hso,hsw,hsa,hsf,hsn];kernel_rfl);intro _)|refine jH ?_|fail))
     refine Aq (kJ' _ _ () ⟨⟨_,by rw[hG,ajU]⟩,by simp[up,h2],by simp[up,h3],by simp[up,h6],?_,by simp[up,h9],by simp[up,h11],by simp[up]⟩ rfl)
     refine(congrArg (AV.int .i64) (?_:_=(Cc s d d.hours.length).bills.sum-(Cc s d i).bills.sum-Dm (dU s d i) (j+1)))
     rw[show Dm (dU s d i) (j+1)=Dm (dU s d i) j+dU s d i j from rfl,hck]
     simp only[Gg,hlo,hhi,hf,adM,adN,Bool.false_and,Bool.true_and,Bool.false_eq_true,if_true,if_false]
     omega
   ·exact⟨⟨l,rfl⟩,by simp[up,h2],by simp[up,h3],by simp[up,h6],by simp[up,h8,Dm],by simp[up],by simp[up,h11],by simp[up]⟩
   ·obtain⟨rfl,⟨l',rfl⟩,h2,h3,h6,h8,h9,h11⟩:=hk
    (have hb:=trivial;with_reducible repeat' (first|simp only[hb,Vc.down,seval,TY5.down,h11,hw]|refine Aj ?_ ?_<;>intro hb|refine fd ?_|fail))
    exact Aq (kJ _ _ () ⟨⟨_,rfl⟩,by simp[up,h2],by simp[up,h3],by simp[up,h6],by simp[up,h8],by simp[up,h9],by simp[up]⟩ rfl)
  ·exact⟨⟨[],by simp⟩,by simp[up,h2],by simp[up,h3],by simp[up,h6],by simp[up,h8,anC],by simp[up,h9],by simp[up]⟩
  ·obtain⟨rfl,h8,h9⟩:=hk
   (have hb:=trivial;with_reducible repeat' (first|simp only[hb,Vc.down,seval,TY5.down,h8,h9,hk',anY]|refine Aj ?_ ?_<;>intro hb|refine fd ?_|fail))
theorem ah9{n:Nat}{r:List AV}(h:Ty Tryz.prog (n+2) 111 r):∃x:Ab,r=x.cells∧True:=by
 unfold Ty at h
 simp only[Tryz.underlying111,jI]at h
 obtain⟨a,b,rfl,h1,c,d,rfl,h2,e,f,rfl,h3,g,k,rfl,h4,p,q,rfl,h5,rfl⟩:=h
 obtain⟨x,rfl,_⟩:=Ej h1
 obtain⟨y,rfl,_⟩:=Ej h2
 obtain⟨z,rfl,_⟩:=Ej h3
 obtain⟨u,rfl,_⟩:=Ej h4
 obtain⟨v,rfl,_⟩:=Ej h5
 exact⟨⟨x,y,z,u,v⟩,rfl,trivial⟩
theorem aaT{n:Nat}{r:List AV}(h:Ty Tryz.prog (n+3) 46 r):∃(nn:Bool) (l:List Ab),r=[Bj 5 true nn (l.map Ab.cells)]∧l.length≤maxLen:=by
 unfold Ty at h
 simp only[Tryz.underlying46]at h
 obtain⟨nn,rows,rfl,hl,hrows⟩:=h
 obtain⟨l,rfl,_⟩:=Zt (fun r hr=>ah9 hr) hrows
 have e1:Tryz.prog.cellsOf 111=5:=by kernel_rfl
 have e2:iW Tryz.prog (n+2) 111=true:=by
  simp only[iW,Tryz.underlying111,Tryz.underlying3];rfl
 rw[e1,e2]
 exact⟨nn,l,rfl,by simpa using hl⟩
theorem al6{n:Nat}{r:List AV}(h:Ty Tryz.prog (n+2) 59 r):∃x:Aw,r=x.cells∧True:=by
 unfold Ty at h
 simp only[Tryz.underlying59,jI]at h
 obtain⟨a,b,rfl,h1,c,d,rfl,h2,e,f,rfl,h3,g,k,rfl,h4,rfl⟩:=h
 obtain⟨x,rfl,_⟩:=Ej h1
 obtain⟨y,rfl,_⟩:=Ej h2
 obtain⟨z,rfl,_⟩:=Ej h3
 obtain⟨u,rfl,_⟩:=Ej h4
 exact⟨⟨x,y,z,u⟩,rfl,trivial⟩
theorem afZ{n:Nat}{r:List AV}(h:Ty Tryz.prog (n+3) 44 r):∃(nn:Bool) (l:List Aw),r=[Bj 4 true nn (l.map Aw.cells)]∧l.length≤maxLen:=by
 unfold Ty at h
 simp only[Tryz.underlying44]at h
 obtain⟨nn,rows,rfl,hl,hrows⟩:=h
 obtain⟨l,rfl,_⟩:=Zt (fun r hr=>al6 hr) hrows
 have e1:Tryz.prog.cellsOf 59=4:=by kernel_rfl
 have e2:iW Tryz.prog (n+2) 59=true:=by
  simp only[iW,Tryz.underlying59,Tryz.underlying3];rfl
 rw[e1,e2]
 exact⟨nn,l,rfl,by simpa using hl⟩
theorem apU{av:AV}(h:xP Tryz.prog 7 48 av):∃d:Ao,av=.agg d.cells∧d.small:=by
 unfold xP at h
 simp only[Tryz.underlying48]at h
 obtain⟨cs,rfl,h⟩:=h
 unfold Ty at h
 simp only[Tryz.underlying48,jI]at h
 obtain⟨a0,b0,rfl,h0,a1,b1,rfl,h1,a2,b2,rfl,h2,rfl⟩:=h
 obtain⟨nh,hh,rfl,k0⟩:=afZ h0
 obtain⟨nn,n',rfl,k1⟩:=akY h1
 obtain⟨nt,t,rfl,k2⟩:=aaT h2
 exact⟨⟨nh,hh,nn,n',nt,t⟩,rfl,k0,k1,k2⟩
theorem qF(hk:Bo.call (.fn 15) [] []=some (.ret (.bool true),[])):∀avs,xH Tryz.prog 7 Tryz.f5.params.toList avs→Bo.call (.fn 5) avs []=some (.ret (.bool true),[]):=by
 intro avs h
 rw[show Tryz.f5.params.toList=[24,48]from rfl]at h
 match avs,h with
 | [a,c],h=>
   obtain⟨h1,h3,_⟩:=h
   obtain⟨s,rfl,hs⟩:=ai9 h1
   obtain⟨d,rfl,hd⟩:=apU h3
   cases hg:vR s d with
   |false=>exact aaD hk s hs d hd hg
   |true=>exact adB hk s hs d hd hg
 | [],h=>exact h.elim
 | [_],h=>exact h.2.elim
 |_::_::_::_,h=>exact h.2.2.elim
def ae3:List AV→Option Bh
 | [.int .i64 a,.int .i64 b,.int .i64 c]=>some ⟨a,b,c⟩
 |_=>none
def dSl{α:Type}(n:Nat)(fl:Bool)(d:List AV→Option α):AV→Option (Bool × List α)
 | .nils=>some (false,[])
 | .imm n' fl' rows=>if n'=n∧fl'=fl then(As d rows).map fun l=>(true,l)else none
 |_=>none
def ajY:List AV→Option Ag
 | [.bool f,.int .i64 sp,.int .i64 lo,.int .i64 hi,r,.int .i64 g,.int .i64 fx,.int .i64 a,.int .i64 b,.int .i64 c,.int .i64 l]=>(dSl 3 true ae3 r).map fun x=>⟨f,sp,lo,hi,x.1,x.2,g,fx,a,b,c,l⟩
 |_=>none
def vO:List AV→Option Ac
 | [.int .i64 sp,.int .i64 a,.int .i64 b,.int .i64 l,.int .i64 f,r]=>(dSl 11 false ajY r).map fun x=>⟨sp,a,b,l,f,x.1,x.2⟩
 |_=>none
theorem ahE{cs:List AV}{x:Bh}(h:ae3 cs=some x):cs=x.cells:=by
 unfold ae3 at h
 split at h
 ·cases h;rfl
 ·cases h
theorem sK{α:Type}{d:List AV→Option α}{f:α→List AV}(hd:∀cs x,d cs=some x→cs=f x):∀{rows:List (List AV)} {l:List α},As d rows=some l→rows=l.map f
 | [],l,h=>by simp[As]at h;subst h;rfl
 |r::rows,l,h=>by
  simp only[As,an2,ajT]at h
  obtain⟨x,h1,l',h2,rfl⟩:=h
  rw[hd r x h1,sK hd h2];rfl
theorem wW{α:Type}{n:Nat}{fl:Bool}{d:List AV→Option α}{f:α→List AV}(hd:∀cs x,d cs=some x→cs=f x){v:AV}{x:Bool × List α}(h:dSl n fl d v=some x):v=Bj n fl x.1 (x.2.map f):=by
 unfold dSl at h
 split at h
 ·cases h;rfl
 ·split at h
  ·rename_i hq
   obtain⟨rfl,rfl⟩:=hq
   obtain⟨l,h1,rfl⟩:=ajT.1 h
   rw[sK hd h1]
   cases l<;>rfl
  ·cases h
 ·cases h
theorem yR{cs:List AV}{x:Ag}(h:ajY cs=some x):cs=x.cells:=by
 unfold ajY at h
 split at h
 ·obtain⟨y,h1,rfl⟩:=ajT.1 h
  rw[wW (fun cs x=>ahE) h1];rfl
 ·cases h
theorem ac5{cs:List AV}{x:Ac}(h:vO cs=some x):cs=x.cells:=by
 unfold vO at h
 split at h
 ·obtain⟨y,h1,rfl⟩:=ajT.1 h
  rw[wW (fun cs x=>yR) h1]
 ·cases h
def pR(l:List Ag):Bool:=decide (l.length≤1000)&&l.all fun c=>decide (c.rates.length≤1000)
theorem Yk{l:List Ag}(h:pR l=true):l.length≤maxLen∧∀c∈l,c.rates.length≤maxLen:=by
 simp only[pR,abI,decide_eq_true_eq,adJ]at h
 unfold maxLen
 exact⟨by omega,fun c hc=>by have:=h.2 c hc;omega⟩
def adW:List AV→Aa→Option (Ec × Aa)
 | [.agg cs],[]=>(vO cs).bind fun s=>if pR s.cons=true then some (.ret (.bool (Ek s)),[])else none
 |_,_=>none
def ahQ(l:List Ag):Bool:=l.all fun c=> !c.rates.isEmpty&&decide (c.rates.length≤6)
def anX:List AV→Aa→Option (Ec × Aa)
 | [v,.int .i64 h],[]=>(dSl 11 false ajY v).bind fun x=>if(pR x.2&&ahQ x.2)=true then(match Pn h x.2 (0,0)with|(a,b)=>some (.ret (.tup [.int .i64 a,.int .i64 b]),[]))else none
 |_,_=>none
def pr2:Oh:=⟨fun f=>if f=49 then some adW else if f=68 then some anX else pr f,pr.md⟩
theorem aqK:∀f p,pr2 f=some p→∀a h r,p a h=some r→Bo.call (.fn f) a h=some r:=by
 intro f p hp a h r hr
 simp only[pr2]at hp
 split at hp
 ·rename_i hf
  subst hf
  cases hp
  unfold adW at hr
  split at hr
  ·rename_i cs
   obtain⟨s,h1,h2⟩:=an2.1 hr
   split at h2
   ·rename_i hs
    cases h2
    rw[ac5 h1]
    exact zN s ⟨(Yk hs).1,(Yk hs).2⟩
   ·cases h2
  ·cases hr
 ·split at hp
  ·rename_i hf
   subst hf
   cases hp
   unfold anX at hr
   split at hr
   ·rename_i v hour
    obtain⟨x,h1,h2⟩:=an2.1 hr
    split at h2
    ·rename_i hs
     simp only[abI]at hs
     cases h2
     rw[wW (fun cs x=>yR) h1]
     exact afL hour (Yk hs.1).1 (fun c hc=>by
      have:=adJ.1 hs.2 c hc
      simp only[abI,decide_eq_true_eq,Bool.not_eq_eq_eq_not,Bool.not_true,List.isEmpty_eq_false_iff]at this
      exact this)
    ·cases h2
   ·cases hr
  ·exact amP hp hr
theorem acW:(Vf Tryz.prog pr2 100).call (.fn 15) [] []=some (.ret (.bool true),[]):=by kernel_rfl
theorem agY:Bo.call (.fn 15) [] []=some (.ret (.bool true),[]):=ahZ (pr:=pr) (pr2:=pr2) rfl (fun f hf=>by
 simp only[pr2]at hf
 split at hf
 ·cases hf
 ·split at hf
  ·cases hf
  ·exact hf) aqK acW
end Go.Proofs.YtdbiogihimdpcaaGreatDoor
