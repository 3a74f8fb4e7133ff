/- The functions of the layer, walked. -/
import Derived.Test.YtdbiogihimdpcaaGreatDoorPartAH
import Derived.Test.YtdbiogihimdpcaaGreatDoorLibE
import Derived.Test.YtdbiogihimdpcaaGreatDoorPartAA
import Derived.Test.YtdbiogihimdpcaaGreatDoorPartAI
import Derived.Test.YtdbiogihimdpcaaGreatDoorPartAB
import Derived.Test.YtdbiogihimdpcaaGreatDoorLibD
open List renaming length_map→aaF,mem_of_getElem?→aaV,getElem?_eq_getElem→abL,length_nil→abT,all_eq_true→acK,flatMap_cons→acY,map_nil→acZ,map_cons→ac3,map_eq_nil_iff→ac4,getElem?_map→ac5,length_append→adA,mem_cons→aeG,all_cons→ai7,all_nil→ai8,getElem?_append_right→ajA,length_cons→ajB,getElem?_eq_some_iff→ajY,getElem?_set_ne→am2,length_set→am3,nil_append→am4,getElem?_append_left→am5,flatMap_nil→am6,mem_append_left→am8,append_nil→anG,mem_cons_of_mem→anT,mem_cons_self→anX,mem_append_right→an1
open Bool renaming and_eq_true→aaR,and_true→ai5,and_false→ai6
open Int renaming lt_irrefl→ac2,le_refl→aeO,toNat_natCast→aiT
open Option renaming map_eq_some_iff→ai9,bind_eq_some_iff→anC,map_some→anN,getD_some→anO
set_option linter.unusedSimpArgs false
set_option linter.unusedVariables false
namespace Go.Proofs.YtdbiogihimdpcaaGreatDoor
open Go.Ev Go
set_option maxRecDepth 100000
set_option maxHeartbeats 16000000
def Ud(s:Ac)(g l:Bool):Gf:=⟨0,g,s.cons.map (·.gas),0,0,l,(s.cons.map (·.gas)).map (fun _=>0),false,[]⟩
theorem atP{g:Aa}{b1 b2:Nat}(h:b2<g.length)(l m:Aa)(k:Nat):((g.set b1 .dead++l).set b2 .dead++m)[g.length+k]?=(l++m)[k]?:=by
 rw[Nl (by simpa using h),List.append_assoc,ajA (by simp)];simp
def avV(k:Nat)(p:List Int)(gv bv:AV)(g:Aa):Prop:=(p=[]∧gv=.nils∧bv=.nils)∨
 (p≠[]∧∃b1 b2,gv=.slr 1 (b1+k) 0 p.length∧bv=.slr 1 (b2+k) 0 p.length∧b1≠b2∧g[b1]?=some (.live 1 true false (p.map iv))∧g[b2]?=some (.live 1 true false ((p.map fun _=>(0:Int)).map iv)))
def atM(s:Ac)(o:Dx)(h:Aa):Prop:=
 (s.cons=[]∧o=.ret (.agg [.int .i64 0,.nils,.int .i64 0,.int .i64 0,.nils,.nils])∧h=[])∨
 (s.cons≠[]∧o=.ret (.agg [.int .i64 0,.slr 1 0 0 s.cons.length,.int .i64 0,.int .i64 0,.slr 1 1 0 s.cons.length,.nils])∧h=[.live 1 true false ((s.cons.map (·.gas)).map iv),.live 1 true false (((s.cons.map (·.gas)).map fun _=>(0:Int)).map iv)])
theorem alT{s:Ac}{O:Ez}{f:Nat}{vs:List AV}(h:Uu O f vs [] (atM s)):∃g l,RdV O f vs (.agg (Ud s g l).cells) 2:=by
 obtain⟨o,h',e,⟨he,rfl,rfl⟩|⟨he,rfl,rfl⟩⟩:=h
 ·refine⟨false,false,_,[],_,e,Lr (Ag (Gx ..) (Ag (R1:=[]) ?_ (Ag (Gx ..) (Ag (Gx ..) (Ag (R1:=[]) ?_ (Ag adP Ig)))))),by simp,fun c hc=>by cases hc⟩
  ·simp only[Ud,he,acZ];rfl
  ·simp only[Ud,he,acZ];rfl
 ·have e1:∀l:List (List AV),Bj 1 true true l=.imm 1 true l:=fun l=>by cases l<;>rfl
  refine⟨true,true,_,_,_,e,Lr (Ag (Gx ..) (Ag (R1:=[0]) ?_ (Ag (Gx ..) (Ag (Gx ..) (Ag (R1:=[1]) ?_ (Ag adP Ig)))))),by simp,fun c hc=>?_⟩
  ·show _=some (Bj 1 true true _,_)
   rw[e1];exact zE rfl (by simp[Ud])
  ·show _=some (Bj 1 true true _,_)
   rw[e1];exact zE rfl (by simp[Ud])
  ·simp only[aeG,List.not_mem_nil,or_false]at hc
   rcases hc with rfl|rfl<;>exact fun _=>⟨_,rfl⟩
theorem aeJ(s:Ac)(hl:s.cons.length≤1000):Uu Bn 63 [.agg s.cells] [] (atM s):=by
 refine Na rfl Tryz.func63 rfl rfl ?_
 simp only[Tryz.f63]
 (have hb:=trivial;with_reducible repeat' (first|simp only[hb,Vc.down,seval,acO.down,aaF]|refine Aj ?_ ?_<;>intro hb|refine fd ?_|fail))
 refine Di (Rm 27 s.cons (fun i (zz:List Int) t h=>t 2=.ptr 1 0 0∧t 3=.ptr 2 0 0∧t 7=Bj 11 false s.nn (s.cons.map Ae.cells)∧t 8=.int .i64 (s.cons.length:Nat)∧t 9=.int .i64 i∧(∃w gv bv g,h=.live 6 false false [s.cells]::.live 6 false false [[.int .i64 0,.nils,.int .i64 0,.int .i64 0,.nils,.nils]]::.live 6 false w [[.int .i64 0,gv,.int .i64 0,.int .i64 0,bv,.nils]]::g∧avV 3 zz gv bv g∧zz.length≤i)) (fun rest zz=>zz++rest.map (·.gas)) (fun r e t h=>e=.exit 0∧t 2=.ptr 1 0 0∧t 3=.ptr 2 0 0∧∃w gv bv g,h=.live 6 false false [s.cells]::.live 6 false false [[.int .i64 0,.nils,.int .i64 0,.int .i64 0,.nils,.nils]]::.live 6 false w [[.int .i64 0,gv,.int .i64 0,.int .i64 0,bv,.nils]]::g∧avV 3 r gv bv g) ?_ ?_ ([]) _ _ ?_) (fun e t h hk=>?_)
 ·rintro p t h Q' kQ ⟨h2,h3,h7,h8,h9,⟨w,gv,bv,g,rfl,hp,hpl⟩⟩
  (have hb:=trivial;with_reducible repeat' (first|simp only[hb,Vc.down,seval,acO.down,h2,h3,h7,h8,h9,ac2,decide_false]|refine Aj ?_ ?_<;>intro hb|refine fd ?_|fail))
  exact kQ _ _ _ ⟨rfl,by simp[up,h2],by simp[up,h3],w,gv,bv,g,rfl,by simpa using hp⟩
 ·rintro x rest i p t h J Q' kJ kQ hx hi ⟨h2,h3,h7,h8,h9,⟨w,gv,bv,g,rfl,hp,hpl⟩⟩
  have hd:decide ((i:Int)<(s.cons.length:Int))=true:=decide_eq_true (by omega)
  have hw:=Ak hi (by simp[maxLen];omega)
  rcases hp with⟨rfl,rfl,rfl⟩|⟨hpn,b1,b2,rfl,rfl,hne,hg1,hg2⟩
  ·(have hb:=trivial;with_reducible repeat' (first|simp only[hb,Vc.down,seval,acO.down,h2,h3,h7,h8,h9,hd,hx,hw,iv,aaF,Ae.cells]|refine Aj ?_ ?_<;>intro hb|((refine Gy (g.length) 3 ?_ ?_);(simp (discharger:=decide) only[Hg,Ep,ac3,acZ,Dq,Hi,Hh,Hf,Ha,Dp,Eo,Es,ajB,abT];kernel_rfl);intro _)|refine lM ?_|fail))
   (refine Ao (kJ _ _ [x.gas] ⟨?_,?_,?_,?_,?_,⟨true,_,_,_,rfl,.inr ⟨by simp,g.length+2,g.length+4,rfl,rfl,by omega,by simp[iv],by simp[iv]⟩,by simp⟩⟩ ?_);(simp[up,h2]);(simp[up,h3]);(simp[up,h7]);(simp[up,h8]);(simp[up]);(simp))
  ·have hbl1:b1<g.length:=(ajY.1 hg1).1
   have hbl2:b2<g.length:=(ajY.1 hg2).1
   have hA1:=Ci hg1
   have hA2:=Ci hg2
   have hS1:=Nl hbl1
   have hS2:=Nl hbl2
   have hA3:(g.set b1 .dead)[b2]?=some (.live 1 true false ((p.map fun _=>(0:Int)).map iv)):=by rw[am2 hne];exact hg2
   have hA4:=Ci hA3
   have hs1:Zx (g.length+2) 3 (b1+3)=1000:=by unfold Zx;rw[if_neg (by omega)];omega
   have hs2:Zx (g.length+2) 3 (b2+3)=1000:=by unfold Zx;rw[if_neg (by omega)];omega
   have hsf:∀k,2<k→Zx (g.length+2) 3 (g.length+k)=k+998:=fun k hk=>by unfold Zx;rw[if_neg (by omega)];omega
   have hi39:(p.length+1≤549755813888)=True:=eq_true (by omega)
   (have hb:=trivial;with_reducible repeat' (first|simp only[hb,Vc.down,seval,acO.down,h2,h3,h7,h8,h9,hd,hx,hw,iv,aaF,Ae.cells,hA1,hA2,hA4,hS1,hS2,bY,Ua,am3,aaF,hi39]|refine Aj ?_ ?_<;>intro hb|((refine Gy (g.length+2) 3 ?_ ?_);(simp (discharger:=decide) only[Hg,Ep,ac3,acZ,Dq,Hi,Hh,Hf,Ha,Dp,Eo,Es,ajB,abT,hs1,hs2,hsf];kernel_rfl);intro _)|refine lM ?_|fail))
   (refine Ao (kJ _ _ (p++[x.gas]) ⟨?_,?_,?_,?_,?_,⟨true,_,_,_,rfl,.inr ⟨by simp,g.length+2,g.length+4,by simp,by simp,by omega,by rw[atP hbl2];simp[iv],by rw[atP hbl2];simp[iv]⟩,by simp;omega⟩⟩ ?_);(simp[up,h2]);(simp[up,h3]);(simp[up,h7]);(simp[up,h8]);(simp[up]);(simp))
 ·exact⟨by simp[up,Dh],by simp[up,Dh],by simp[up,Dh],by simp[up,Dh],by simp[up],⟨false,.nils,.nils,[],rfl,.inl ⟨rfl,rfl,rfl⟩,by simp⟩⟩
 ·obtain⟨rfl,h2,h3,w,gv,bv,g,rfl,hp⟩:=hk
  rw[am4]at hp
  rcases hp with⟨hp0,rfl,rfl⟩|⟨hpn,b1,b2,rfl,rfl,hne,hg1,hg2⟩
  ·(have hb:=trivial;with_reducible repeat' (first|simp only[hb,Vc.down,seval,acO.down,h2,h3]|refine Aj ?_ ?_<;>intro hb|refine fd ?_|fail))
   exact .inl ⟨ac4.1 hp0,rfl,rfl⟩
  ·have hn1:(b1=b2)=False:=eq_false hne
   have hn2:(b2=b1)=False:=eq_false (fun e=>hne e.symm)
   (have hb:=trivial;with_reducible repeat' (first|simp only[hb,Vc.down,seval,acO.down,h2,h3,hg1,hg2,hn1,hn2,aaF]|refine Aj ?_ ?_<;>intro hb|refine fd ?_|fail))
   exact .inr ⟨fun e=>hpn (by rw[e];rfl),rfl,rfl⟩
theorem ak0(s:Ac)(hl:s.cons.length≤1000):∃g l,RdV Bn 63 [.agg s.cells] (.agg (Ud s g l).cells) 2:=alT (aeJ s hl)
def uP(d:Aq)(k:Nat):Au:=(d.hours[k]?).getD ⟨0,0,0,0⟩
def Ix(s:Ac)(d:Aq):Nat→Gf
 |0=>Ud s false false
 |k+1=>nxt s d (uP d k) (Ix s d k)
def flK(s:Ac)(d:Aq)(k:Nat):Kv:=flw s d (uP d k) (Ix s d k)
theorem awW{s:Ac}(h1:Ft s=true):xB s 0 (Ud s false false):=by
 have hcs:∀c∈s.cons,Gz c=true:=acK.1 (Oq h1)
 refine⟨rfl,⟨⟨by simp[Ud],fun i c hc=>?_⟩,by simp[Ud],fun i=>?_,by simp[Ud],fun t ht=>by simp[Ud]at ht,by simp[Ud]⟩,by simp[Ud]⟩
 ·have h:=hcs c (aaV hc)
  simp only[Gz,Gm,aaR,decide_eq_true_eq]at h
  have e:gI (Ud s false false).gas i=c.gas:=by
   unfold gI Ud
   simp[hc]
  rw[e];exact h.1.2
 ·have e:gI (Ud s false false).bills i=0:=by
   unfold gI Ud
   simp only[ac5]
   cases s.cons[i.toNat]?<;>rfl
  rw[e];omega
theorem ae5{s:Ac}(h1:Ft s=true){d:Aq}(h3:Nb s.cons.length d=true):∀k,k≤d.hours.length→xB s k (Ix s d k)
 |0,_=>awW h1
 |k+1,h=>by
  have hz:d.hours[k]?=some (uP d k):=by unfold uP;rw[abL (by omega)];rfl
  exact(Yd h1 h3 (ae5 h1 h3 k (by omega)) hz).1
def kK(s:Ac)(d:Aq)(F:List Kv):Prop:=∀j f,F[j]?=some f→∃w a l r,f=(flK s d j).as w a l r
theorem kK.snoc{s:Ac}{d:Aq}{F:List Kv}(h:kK s d F){i:Nat}(hi:F.length=i)(w a l r:Bool):kK s d (F++[(flK s d i).as w a l r]):=fun j f hf=>by
 by_cases hj:j<F.length
 ·rw[am5 hj]at hf;exact h j f hf
 ·rw[ajA (by omega)]at hf
  have:j-F.length=0:=by
   by_cases h0:j-F.length=0
   ·exact h0
   ·rw[List.getElem?_eq_none (by simp;omega)]at hf;cases hf
  rw[this]at hf
  simp at hf;subst hf
  obtain rfl:j=i:=by omega
  exact⟨w,a,l,r,rfl⟩
def acN(s:Ac)(d:Aq)(i:Nat)(bx:Nat)(ov:AV)(h:Aa):Prop:=
 ∃xc Rx rows Ro g l o F,zY s.cells d.cells bx ov h xc ((Ix s d i).as g l o).cells Rx rows (F.map Kv.cells) Ro∧kK s d F∧F.length=i∧rows.length=i∧Rx.length≤7∧Ro.length≤7*i
def ajM(s:Ac)(d:Aq)(X:AV)(Y:AV):Prop:=∃g l o F,X=.agg ((Ix s d d.hours.length).as g l o).cells∧Y=Bj 4 false false (F.map Kv.cells)∧kK s d F∧F.length=d.hours.length
theorem Xt{g:HF}{xc:List AV}{y:Gf}{R:List Nat}(h:Nc (rd 5 g) xc=some (y.cells,R)):∃gv bv ov,xc=[.int .i64 y.hour,gv,.int .i64 y.own,.int .i64 y.fuel,bv,ov]∧(gv.isCell=true∧gv.flat=false)∧(bv.isCell=true∧bv.flat=false)∧(ov.isCell=true∧ov.flat=false):=by
 obtain⟨a0,l0,R0,R0',rfl,k0,h,_⟩:=Ek h
 obtain⟨a1,l1,R1,R1',rfl,k1,h,_⟩:=Ek h
 obtain⟨a2,l2,R2,R2',rfl,k2,h,_⟩:=Ek h
 obtain⟨a3,l3,R3,R3',rfl,k3,h,_⟩:=Ek h
 obtain⟨a4,l4,R4,R4',rfl,k4,h,_⟩:=Ek h
 obtain⟨a5,l5,R5,R5',rfl,k5,h,_⟩:=Ek h
 obtain⟨rfl,_⟩:=iF h
 obtain⟨rfl,_⟩:=pT k0
 obtain⟨rfl,_⟩:=pT k2
 obtain⟨rfl,_⟩:=pT k3
 exact⟨a1,a4,a5,rfl,aC k1,aC k4,aC k5⟩
theorem wZ{g:HF}{fc:List AV}{y:Kv}{R:List Nat}(h:Nc (rd 5 g) fc=some (y.cells,R)):∃a b c d,fc=[a,b,c,d]∧(a.isCell=true∧a.flat=false)∧(b.isCell=true∧b.flat=false)∧(c.isCell=true∧c.flat=false)∧(d.isCell=true∧d.flat=false):=by
 obtain⟨a0,l0,R0,R0',rfl,k0,h,_⟩:=Ek h
 obtain⟨a1,l1,R1,R1',rfl,k1,h,_⟩:=Ek h
 obtain⟨a2,l2,R2,R2',rfl,k2,h,_⟩:=Ek h
 obtain⟨a3,l3,R3,R3',rfl,k3,h,_⟩:=Ek h
 obtain⟨rfl,_⟩:=iF h
 exact⟨a0,a1,a2,a3,rfl,aC k0,aC k1,aC k2,aC k3⟩
theorem acN.call{s:Ac}{d:Aq}{i bx:Nat}{ov:AV}{h:Aa}{f:Nat}(I:acN s d i bx ov h){z:Au}(hz:d.hours[i]?=some z)
 (C:∀g l o,∃g' l' o' w a fl r,RdT Bn f [.agg s.cells,.agg ((Ix s d i).as g l o).cells,.agg d.cells] [.agg ((nxt s d z (Ix s d i)).as g' l' o').cells,.agg ((flw s d z (Ix s d i)).as w a fl r).cells] 7):
 ∃gv bv ow w es H1 gv' bv' ow' a b c e,h[bx]?=some (.live 6 false w [[.int .i64 (Ix s d i).hour,gv,.int .i64 (Ix s d i).own,.int .i64 (Ix s d i).fuel,bv,ow]])∧
  h[0]?=some (.live 6 false false [s.cells])∧h[1]?=some (.live 3 false false [d.cells])∧
  cl Bn h (some (.func (.func f) [] [])) (some [.agg s.cells,.agg [.int .i64 (Ix s d i).hour,gv,.int .i64 (Ix s d i).own,.int .i64 (Ix s d i).fuel,bv,ow],.agg d.cells])=
   some (.ret (.tup [.agg [.int .i64 (Ix s d (i+1)).hour,gv',.int .i64 (Ix s d (i+1)).own,.int .i64 (Ix s d (i+1)).fuel,bv',ow'],.agg [a,b,c,e]]),es)∧Ar h es=H1∧
  (gv'.isCell=true∧gv'.flat=false)∧(bv'.isCell=true∧bv'.flat=false)∧(ow'.isCell=true∧ow'.flat=false)∧(a.isCell=true∧a.flat=false)∧(b.isCell=true∧b.flat=false)∧(c.isCell=true∧c.flat=false)∧(e.isCell=true∧e.flat=false)∧
  bx<H1.length∧3≤bx∧(∃w,H1[bx]?=some (.live 6 false w [[.int .i64 (Ix s d i).hour,gv,.int .i64 (Ix s d i).own,.int .i64 (Ix s d i).fuel,bv,ow]]))∧(∃rows,rows.length=i∧En 0 4 false rows ov H1∧(∀st m r n,ov=.slr st m r n→3≤m∧m≠bx∧m<H1.length)∧
   ∀x y u:CB,acN s d (i+1) bx (.slr 4 (H1.length+3) 0 (i+1)) (kl 0 ov (H1.set bx (.live 6 false true [[.int .i64 (Ix s d (i+1)).hour,gv',.int .i64 (Ix s d (i+1)).own,.int .i64 (Ix s d (i+1)).fuel,bv',ow']]))++[x,y,u,.live 4 false false (rows++[[a,b,c,e]])])):=by
 obtain⟨xc,Rx,rows,Ro,g,l,o,F,I,hF,hFl,hrl,hRx,hRo⟩:=I
 obtain⟨g',l',o',w,a,fl,r,K⟩:=C g l o
 have hk:uP d i=z:=by unfold uP;rw[hz];rfl
 obtain⟨gv,bv,ow,rfl,_,_,_⟩:=Xt I.x
 obtain⟨wx,hbx⟩:=I.bxw
 have hx6:rd 6 (hf h) (.agg [.int .i64 (Ix s d i).hour,gv,.int .i64 (Ix s d i).own,.int .i64 (Ix s d i).fuel,bv,ow])=some (.agg ((Ix s d i).as g l o).cells,Rx):=Lr I.x
 have hv:eH h (.agg [.int .i64 (Ix s d i).hour,gv,.int .i64 (Ix s d i).own,.int .i64 (Ix s d i).fuel,bv,ow])=some (.agg ((Ix s d i).as g l o).cells):=oO (show 6≤12 by omega) hx6
 have hs:eH h (.agg s.cells)=some (.agg s.cells):=Iu _ (d:=8) (by omega) (by simp[Ac.cells,Nv,Uj,Ej])
 have hd:eH h (.agg d.cells)=some (.agg d.cells):=Iu _ (d:=8) (by omega) (by simp[Aq.cells,Nv,Ej])
 obtain⟨outs,es,H1,R,e1,e2,e3,e4,e5,e6⟩:=K.cl (H:=h) (args:=[.agg s.cells,.agg [.int .i64 (Ix s d i).hour,gv,.int .i64 (Ix s d i).own,.int .i64 (Ix s d i).fuel,bv,ow],.agg d.cells]) rfl
  (by simp only[Ze,cN,hs,hv,hd,Vp]) (by simp[Nv,Uj,Ej])
 obtain⟨v1,l1,R1,R1',rfl,k1,h1,rfl⟩:=Ek e4
 obtain⟨v2,l2,R2,R2',rfl,k2,h2,rfl⟩:=Ek h1
 obtain⟨rfl,rfl⟩:=iF h2
 obtain⟨xc',rfl,hx'⟩:=oD k1
 obtain⟨fc',rfl,hf'⟩:=oD k2
 obtain⟨gv',bv',ow',rfl,p1,p2,p3⟩:=Xt hx'
 obtain⟨f1,f2,f3,f4,rfl,p4,p5,p6,p7⟩:=wZ hf'
 have hl:∀b∈[AV.agg s.cells,.agg [.int .i64 (Ix s d i).hour,gv,.int .i64 (Ix s d i).own,.int .i64 (Ix s d i).fuel,bv,ow],.agg d.cells].flatMap (Av 12 (hf h)),b∈Rx:=fun b hb=>by
  rw[acY,acY,acY,am6,Im (d:=8) (v:=.agg s.cells) _ (by omega) (by simp[Ac.cells,Nv,Uj,Ej]),Im (d:=8) (v:=.agg d.cells) _ (by omega) (by simp[Aq.cells,Nv,Ej]),am4,anG,anG]at hb
  exact hZ hx6 b hb
 obtain⟨c0,c1,c2,c3,hbl,c4⟩:=I.call e3 hl
 have hle:=e3.len
 have en:∀g l o,((nxt s d z (Ix s d i)).as g l o).cells=((Ix s d (i+1)).as g l o).cells:=fun g l o=>by show _=((nxt s d (uP d i) (Ix s d i)).as g l o).cells;rw[hk]
 have ef:(flw s d z (Ix s d i)).as w a fl r=(flK s d i).as w a fl r:=by unfold flK;rw[hk]
 rw[en]at hx'
 have e0:nxt s d z (Ix s d i)=Ix s d (i+1):=by show _=nxt s d (uP d i) (Ix s d i);rw[hk]
 refine⟨gv,bv,ow,wx,es,H1,gv',bv',ow',f1,f2,f3,f4,hbx,I.b0,I.b1,by rw[←e0];exact e1,e2,p1,p2,p3,p4,p5,p6,p7,by omega,I.bx3,⟨wx,by rw[c3];exact hbx⟩,rows,hrl,c4,fun st m r n e=>?_,fun x y u=>?_⟩
 ·obtain⟨q1,q2,_,q3⟩:=I.dov st m r n e
  exact⟨q1,q2,by omega⟩
 ·have N:=I.next e3 hl (xc':=[.int .i64 (Ix s d (i+1)).hour,gv',.int .i64 (Ix s d (i+1)).own,.int .i64 (Ix s d (i+1)).fuel,bv',ow']) (by rw[←e0]at hx' ⊢;exact hx') hf' (fun b hb=>e6 b (by simpa using hb)) x y u rfl (n:=i+1) (by rw[hrl])
  refine⟨[.int .i64 (Ix s d (i+1)).hour,gv',.int .i64 (Ix s d (i+1)).own,.int .i64 (Ix s d (i+1)).fuel,bv',ow'],R1,rows++[[f1,f2,f3,f4]],Ro++R2,g',l',o',F++[(flK s d i).as w a fl r],?_,hF.snoc hFl w a fl r,by simp[hFl],by simp[hrl],?_,?_⟩
  ·rw[List.map_append,ac3,acZ,←ef];rw[e0]at N;exact N
  ·simp only[adA]at e5;omega
  ·simp only[adA,abT]at e5 ⊢;omega
theorem qL:∀{cs:List Ae} {l A:List Int},l.length=cs.length→A.length=l.length→(∀{i:Nat} {c:Ae} {x w:Int},cs[i]?=some c→A[i]?=some x→l[i]?=some w→c.firm=true→x≤w)→
 (Ey cs A).sum≤(Ey cs l).sum∧((Ey cs A).sum=(Ey cs l).sum→∀{i:Nat} {c:Ae} {x w:Int},cs[i]?=some c→A[i]?=some x→l[i]?=some w→c.firm=true→x=w)
 | [],[],[],_,_,_=>⟨aeO _,fun _ {i c x w} hc=>by simp at hc⟩
 |c::cs,w::l,x::A,h1,h2,h=>by
  obtain⟨a,b⟩:=qL (cs:=cs) (l:=l) (A:=A) (by simpa using h1) (by simpa using h2) (fun {i c x w} hc hx hw=>h (i:=i+1) (by simpa using hc) (by simpa using hx) (by simpa using hw))
  have h0:=h (i:=0) rfl rfl rfl
  have e1:(Ey (c::cs) (x::A)).sum=Fz c x+(Ey cs A).sum:=by simp[Ey]
  have e2:(Ey (c::cs) (w::l)).sum=Fz c w+(Ey cs l).sum:=by simp[Ey]
  have e3:Fz c x≤Fz c w:=by
   unfold Fz
   split
   ·exact h0 (by assumption)
   ·exact aeO _
  rw[e1,e2]
  refine⟨by omega,fun he {i c' x' w'} hc hx hw hf=>?_⟩
  cases i with
  |zero=>
   simp at hc hx hw
   subst hc hx hw
   have:Fz c x=Fz c w:=by omega
   simpa [Fz,hf]using this
  |succ i=>exact b (by omega) (by simpa using hc) (by simpa using hx) (by simpa using hw) hf
theorem rP{cs:List Ae}{l A:List Int}{m:Int}(C:avM cs l A m)(hl:l.length=cs.length)(ha:Oa l)(hm:(Ey cs l).sum≤m){i:Nat}{c:Ae}{x w:Int}(hc:cs[i]?=some c)(hx:A[i]?=some x)(hw:l[i]?=some w)(hf:c.firm=true):x=w:=by
 obtain⟨a,b⟩:=qL hl C.len (fun _ hx hw _=>(C.ins hx hw).2)
 refine b ?_ hc hx hw hf
 have s1:=kA (cs:=cs) (l:=A) (by rw[C.len,hl])
 have s2:=kA (cs:=cs) (l:=l) hl
 have o2:=(ha.oz (cs:=cs)).sum.1
 have al:=C.all
 by_cases h:(Ey cs A).sum<(Ey cs l).sum
 ·have:=C.firm h
  omega
 ·omega
theorem Zz:∀{l:List Bc} {q r:Bc},Fq l (some q)=true→r∈l→r.inn≤q.inn∧q.out≤r.out
 |x::l,q,r,h,hr=>by
  simp only[Fq,Pz,aaR,decide_eq_true_eq]at h
  rcases aeG.1 hr with rfl|hr
  ·exact⟨h.1.2.1.2,h.1.2.2⟩
  ·have:=Zz h.2 hr
   have:=h.1.2
   omega
theorem fL:∀{l:List Bc} {p:Option Bc} {r z:Bc},Fq l p=true→r∈l→l.getLast?=some z→r.out≤z.out
 | [x],p,r,z,h,hr,hz=>by
   simp at hr hz;subst hr hz;exact aeO _
 |x::y::l,p,r,z,h,hr,hz=>by
  simp only[Fq,aaR]at h
  have hz':(y::l).getLast?=some z:=by simpa [List.getLast?_cons_cons]using hz
  have h':Fq (y::l) (some x)=true:=by simp only[Fq,aaR];exact h.2
  rcases aeG.1 hr with rfl|hr
  ·have:=(Zz h' (List.mem_of_getLast? hz')).2;exact this
  ·exact fL h' hr hz'
theorem aiE{c:Ae}(h:Gz c=true)(g:Int):(Ll c g).inn≤inR c∧(Ll c g).out≤kZ c:=by
 have C:=Lm h
 simp only[Gz,aaR]at h
 have hr:=h.1.1.1.1.1
 have r0:Oc c∈c.rates:=by
  unfold Oc
  rw[abL (List.length_pos_iff.2 C.rates.1)]
  exact List.getElem_mem _
 have m:Ll c g∈c.rates:=by
  unfold Ll
  rcases dZ (abX c g) c.rates (Oc c)with e|e
  ·rw[e];exact r0
  ·exact e
 constructor
 ·unfold inR
  cases hc:c.rates with
  |nil=>exact(C.rates.1 hc).elim
  |cons r l=>
   rw[hc]at hr m
   simp only[Fq,aaR]at hr
   simp only[List.head?_cons,anN,anO]
   rcases aeG.1 m with e|m
   ·rw[e];exact aeO _
   ·exact(Zz hr.2 m).1
 ·unfold kZ
  cases hz:c.rates.getLast? with
  |none=>rw[List.getLast?_eq_none_iff]at hz;exact(C.rates.1 hz).elim
  |some z=>
   simp only[anN,anO]
   exact fL hr m hz
theorem zN{c:Ae}(h:Gz c=true){n g:Int}(h0:0≤g)(h1:g≤c.space): -(kZ c)≤fF c n g∧fF c n g≤inR c:=by
 obtain⟨⟨r1,r2⟩,⟨r3,r4⟩,_⟩:=rR h g
 obtain⟨m1,m2⟩:=aiE h g
 have C:=Lm h
 have s:=C.space
 have e1:IntKind.i64.wrap (0-(Ll c g).out)= -(Ll c g).out:=by rw[Af (by omega) (by omega)];omega
 have e2:IntKind.i64.wrap (0-g)= -g:=by rw[Af (by omega) (by omega)];omega
 have i1:=C.inn.1
 unfold fF
 rw[e1,e2]
 unfold iK mn
 constructor
 ·split<;>split<;>split<;>split<;>omega
 ·split<;>split<;>split<;>split<;>omega
theorem uR(hr:Int){f:Int→Int}(act:Ae→Int):∀(cs:List Ae) (W:List Int),(∀{i:Nat} {c:Ae} {w:Int},cs[i]?=some c→W[i]?=some w→c.firm=true→f w≤if dB hr c=true then act c else 0)→(∀c∈cs,0≤act c)→
 (Ey cs (W.map f)).sum≤(cs.map fun c=>if dB hr c=true then act c else 0).sum
 | [],W,_,_=>by simp[Ey]
 |c::cs,[],_,hp=>by
  have e:(Ey (c::cs) (([]:List Int).map f)).sum=0:=by simp[Ey]
  rw[e]
  have:∀l:List Ae,(∀c∈l,0≤act c)→0≤(l.map fun c=>if dB hr c=true then act c else 0).sum:=fun l=>by
   induction l with
   |nil=>intro _;simp
   |cons a l ih=>
    intro h
    have:=ih fun c hc=>h c (anT _ hc)
    have:=h a (anX ..)
    simp only[ac3,List.sum_cons]
    split<;>omega
  exact this _ hp
 |c::cs,w::W,h,hp=>by
  have ih:=uR hr (f:=f) act cs W (fun {i c w} hc hw=>h (i:=i+1) (by simpa using hc) (by simpa using hw)) (fun c hc=>hp c (anT _ hc))
  have h0:=h (i:=0) rfl rfl
  have hp0:=hp c (anX ..)
  have e:(Ey (c::cs) ((w::W).map f)).sum=Fz c (f w)+(Ey cs (W.map f)).sum:=by simp[Ey]
  rw[e]
  simp only[ac3,List.sum_cons]
  unfold Fz
  by_cases hf:c.firm=true
  ·have:=h0 hf
   rw[if_pos hf];omega
  ·rw[if_neg hf]
   split<;>omega
theorem yV(hr:Int):∀cs:List Ae,inS hr cs=(cs.map fun c=>if dB hr c=true then inR c else 0).sum
 | []=>rfl
 |c::cs=>by simp[inS,yV hr cs]
theorem pZ(hr:Int):∀cs:List Ae,qZ hr cs=(cs.map fun c=>if dB hr c=true then kZ c else 0).sum
 | []=>rfl
 |c::cs=>by simp[qZ,pZ hr cs]
theorem awR{s:Ac}(h1:Ft s=true){d:Aq}(h3:Nb s.cons.length d=true){k:Nat}{y:Gf}(I:xB s k y){z:Au}(hz:d.hours[k]?=some z)(hin:s.inn≤z.inn)(hout:s.out≤z.out){i:Nat}{c:Ae}(hc:s.cons[i]?=some c)(hf:c.firm=true):
 gI (W3 s d y.hour y.gas y.bills y.owed) i=gI (A4 s d y.hour z y.gas y.bills y.owed) i:=by
 have S:=Vx h1
 have hcs:∀c∈s.cons,Gz c=true:=acK.1 (Oq h1)
 obtain⟨_,E,W⟩:=Yd h1 h3 I hz
 have D:=Zd h3 hz
 have hzi:0≤z.inn∧z.inn≤800000000∧0≤z.out∧z.out≤800000000:=by
  have p:=h3
  simp only[Nb,Su,Gm,aaR,decide_eq_true_eq,acK]at p
  have q:=p.1.1.2 z (aaV hz)
  exact⟨q.1.1.1.1,q.1.1.1.2,q.1.1.2.1,q.1.1.2.2⟩
 have hr48:0≤y.hour∧y.hour<48:=by rw[I.hour];omega
 have wl:=W.len.2.2.2.1
 have wb:∀w∈W3 s d y.hour y.gas y.bills y.owed,-100000000≤w∧w≤100000000:=dN (P:=fun w=> -100000000≤w∧w≤100000000) (by omega) (fun i=>⟨(W.cut i).1,(W.cut i).2.1⟩)
 have wr:∀{i:Nat} {c:Ae} {w:Int},s.cons[i]?=some c→(W3 s d y.hour y.gas y.bills y.owed)[i]?=some w→c.firm=true→ -(if dB y.hour c=true then kZ c else 0)≤w∧w≤(if dB y.hour c=true then inR c else 0):=fun {i c w} hc hw hf=>by
  have e:w=gI (W3 s d y.hour y.gas y.bills y.owed) i:=by unfold gI;rw[aiT,hw];rfl
  have gi:=E.g2.inn i c hc
  have hget:=Rz (s:=s) (d:=d) (hr:=y.hour) (G:=(T2 s d y.hour y.gas y.bills y.owed).1) s.cons 0 i c hc
  rw[Nat.zero_add]at hget
  have e2:(W3 s d y.hour y.gas y.bills y.owed)[i]?=some (Qy s d y.hour (T2 s d y.hour y.gas y.bills y.owed).1 i c):=by
   rw[←E.rw];unfold RW;rw[E.rt];exact hget
  rw[hw]at e2
  cases e2
  have cc:=hcs c (aaV hc)
  have C:=Lm cc
  have i1:=C.inn.1
  have o1:=C.out.1
  unfold Qy
  cases ha:Gm y.hour c.lo c.hi with
  |false=>simp[dB,hf,ha]
  |true=>
   have ha':dB y.hour c=true:=by simp[dB,hf,ha]
   simp only[ha',if_true]
   split
   ·exact zN cc gi.1 gi.2
   ·omega
 have sp:(Ey s.cons ((W3 s d y.hour y.gas y.bills y.owed).map Cc)).sum≤z.inn:=by
  have h:=uR y.hour (f:=Cc) inR s.cons (W3 s d y.hour y.gas y.bills y.owed) (fun {i c w} hc hw hf=>by
   have a:=(wr hc hw hf).2
   have b:=(Lm (hcs c (aaV hc))).inn.1
   rw[hY]
   split at a<;>split<;>omega) (fun c hc=>(Lm (hcs c hc)).inn.1)
  rw[←yV]at h
  have:=(S.once.1 y.hour hr48.1 hr48.2).1
  omega
 have sn:(Ey s.cons ((W3 s d y.hour y.gas y.bills y.owed).map Df)).sum≤z.out:=by
  have h:=uR y.hour (f:=Df) kZ s.cons (W3 s d y.hour y.gas y.bills y.owed) (fun {i c w} hc hw hf=>by
   have a:=(wr hc hw hf).1
   have b:=(Lm (hcs c (aaV hc))).out.1
   rw[gX (wb w (aaV hw))]
   split at a<;>split<;>omega) (fun c hc=>(Lm (hcs c hc)).out.1)
  rw[←pZ]at h
  have:=(S.once.1 y.hour hr48.1 hr48.2).2
  omega
 have ap:=bG wb
 have an:=bJ wb
 have c1:=amK (cs:=s.cons) (l:=(W3 s d y.hour y.gas y.bills y.owed).map Cc) (m:=z.inn) (by simpa using wl) (by simp;have:=S.len;omega) ap hzi.1 hzi.2.1
 have c2:=amK (cs:=s.cons) (l:=(W3 s d y.hour y.gas y.bills y.owed).map Df) (m:=z.out) (by simpa using wl) (by simp;have:=S.len;omega) an hzi.2.2.1 hzi.2.2.2
 have hi:i<s.cons.length:=(ajY.1 hc).1
 obtain⟨w,hw⟩:∃w,(W3 s d y.hour y.gas y.bills y.owed)[i]?=some w:=⟨_,abL (by omega)⟩
 obtain⟨p,hp⟩:∃p,(Re s.cons ((W3 s d y.hour y.gas y.bills y.owed).map Cc) z.inn)[i]?=some p:=⟨_,abL (by rw[c1.len];simp;omega)⟩
 obtain⟨n,hn⟩:∃n,(Re s.cons ((W3 s d y.hour y.gas y.bills y.owed).map Df) z.out)[i]?=some n:=⟨_,abL (by rw[c2.len];simp;omega)⟩
 have ep:=rP c1 (by simpa using wl) ap sp hc hp (by rw[ac5,hw];rfl) hf
 have en:=rP c2 (by simpa using wl) an sn hc hn (by rw[ac5,hw];rfl) hf
 have ea:(A4 s d y.hour z y.gas y.bills y.owed)[i]?=some (Ui p n):=by
  rw[←E.ra];unfold RA;rw[E.rw];unfold Fj
  rw[List.getElem?_zipWith,hp,hn]
 have wbi:=wb w (aaV hw)
 unfold gI
 rw[aiT,hw,ea]
 show w=Ui p n
 rw[ep,en,hY,gX wbi]
 unfold Ui
 split<;>split<;>rw[Af (by omega) (by omega)]<;>omega
theorem _root_.Go.Ev.En.setx{st:Nat}{fl:Bool}{rows:List (List AV)}{v:AV}{g:Aa}{bx n:Nat}(h:En 0 st fl rows v g)(hov:∀a m r k,v=.slr a m r k→3≤m∧m≠bx∧m<n)(c:CB):En 0 st fl rows v (g.set bx c):=by
 rcases h with h|⟨b,w,h1,h2⟩
 ·exact .inl h
 ·exact .inr ⟨b,w,h1,by rw[am2 (fun e=>(hov _ _ _ _ h1).2.1 (by omega))];exact h2⟩
theorem asR{s:Ac}{d:Aq}(hs:s.small)(hd:d.small)(v1:Ft s=true)(v3:Nb s.cons.length d=true):
 ∃X Y,ajM s d X Y∧RdT Bn 25 [.agg s.cells,.agg d.cells] [X,Y,.int .i64 0] 400:=by
 suffices k:Uu Bn 25 [.agg s.cells,.agg d.cells] [] fun o h'=>∃X Y outs R,ajM s d X Y∧o=.ret (.tup outs)∧Nc (rd 6 (hf h')) outs=some ([X,Y,.int .i64 0],R)∧R.length≤400∧∀c∈h',Rnm c by
  obtain⟨o,h',e,X,Y,outs,R,hq,r⟩:=k
  exact⟨X,Y,hq,RdT.of ⟨o,h',e,outs,R,r⟩⟩
 have c1:=yA s hs
 have c2:=as7 d hd s.cons.length
 rw[v1]at c1
 rw[v3]at c2
 obtain⟨nG,nL,K⟩:=ak0 s (by have:=(Vx v1).len;omega)
 have hD:d.hours.length≤48:=by
  simp only[Nb,aaR,decide_eq_true_eq]at v3;exact v3.1.1.1.1.1
 have HB:Aa:=[]
 obtain⟨v,es,H1,R,e1,e2,e3,e4,e5,e6⟩:=K.cl (H:=[.live 6 false false [s.cells],.live 3 false false [d.cells],.live 6 false false [[.int .i64 0,.nils,.int .i64 0,.int .i64 0,.nils,.nils]]]) (args:=[.agg s.cells]) rfl
  (by
    have hs:eH [.live 6 false false [s.cells],.live 3 false false [d.cells],.live 6 false false [[.int .i64 0,.nils,.int .i64 0,.int .i64 0,.nils,.nils]]] (.agg s.cells)=some (.agg s.cells):=Iu _ (d:=8) (by omega) (by simp[Ac.cells,Nv,Uj,Ej])
    simp only[Ze,cN,hs,Vp]) (by simp[Nv,Uj,Ej])
 obtain⟨xc,rfl,hx⟩:=oD e4
 obtain⟨gv,bv,ov,rfl,⟨p1,p1'⟩,⟨p2,p2'⟩,⟨p3,p3'⟩⟩:=Xt hx
 obtain⟨q,hq⟩:∃q,Fn.func 63=q:=⟨_,rfl⟩
 obtain⟨q2,hq2⟩:∃q,Fn.func 64=q:=⟨_,rfl⟩
 rw[hq]at e1
 have lent0:[AV.agg s.cells].flatMap (Av 12 (hf [.live 6 false false [s.cells],.live 3 false false [d.cells],.live 6 false false [[.int .i64 0,.nils,.int .i64 0,.int .i64 0,.nils,.nils]]]))=[]:=by
  rw[acY,am6,Im (d:=8) (v:=.agg s.cells) _ (by omega) (by simp[Ac.cells,Nv,Uj,Ej])];rfl
 rw[lent0]at e3
 have b0:H1[0]?=some (.live 6 false false [s.cells]):=e3.same 0 (by simp) (by simp)
 have b1:H1[1]?=some (.live 3 false false [d.cells]):=e3.same 1 (by simp) (by simp)
 have b2:H1[2]?=some (.live 6 false false [[.int .i64 0,.nils,.int .i64 0,.int .i64 0,.nils,.nils]]):=e3.same 2 (by simp) (by simp)
 have hle:3≤H1.length:=e3.len
 have g1:=Ci b1
 have P0:∀w,acN s d 0 H1.length .nils (H1++[.live 6 false w [[.int .i64 (Ud s nG nL).hour,gv,.int .i64 (Ud s nG nL).own,.int .i64 (Ud s nG nL).fuel,bv,ov]]]):=fun w=>
  ⟨_,R,[],[],nG,nL,false,[],⟨Ci b0 _,g1 _,Ci b2 _,hle,⟨w,by rw[ajA (by omega),Nat.sub_self];rfl⟩,iD hx (fun j hj z hz=>by
     show((H1++_)[j]?).bind Da=_
     rw[am5 (pL (by omega) hx j hj)];exact hz),En.nil ..,fun _=>rfl,rfl,fun j hj=>by
     have a:=e6 j (by simpa using hj)
     have b:=pL (by omega) hx j (by simpa using hj)
     simp at a;omega,fun _ _ _ _ e=>by cases e⟩,fun j f hf=>by simp at hf,rfl,rfl,by omega,by simp⟩
 refine Na rfl Tryz.func25 rfl rfl ?_
 simp only[Tryz.f25]
 refine Fa (fun KK iN hK=>?_)
 simp only[Aq.cells]at c2
 (have hb:=trivial;with_reducible repeat' (first|simp only[hb,Vc.down,seval,af7.down,Aq.cells,c1,c2,hq,e1,e2,g1,aaF,p1,p2,p3,p1',p2',p3',ai5,ai6,ai7,ai8]|refine Aj ?_ ?_<;>intro hb|refine fd ?_|fail))
 refine Di (Rm 45 d.hours (fun i (_:Unit) t h=>t 2=.ptr 0 0 0∧t 3=.ptr 1 0 0∧t 4=.ptr 2 0 0∧t 7=.ptr H1.length 0 0∧t 27=.int .i64 (d.hours.length:Nat)∧t 28=.int .i64 i∧acN s d i H1.length (t 8) h) (fun _ _=>())
  (fun _ e t h=>e=.exit 0∧t 4=.ptr 2 0 0∧t 7=.ptr H1.length 0 0∧acN s d d.hours.length H1.length (t 8) h) ?_ ?_ () _ _ ?_) (fun e t h hk=>?_)
 ·rintro _ t h Q' kQ ⟨h2,h3,h4,h7,h27,h28,hP⟩
  (have hb:=trivial;with_reducible repeat' (first|simp only[hb,Vc.down,seval,af7.down,h27,h28,ac2,decide_false]|refine Aj ?_ ?_<;>intro hb|refine fd ?_|fail))
  exact kQ _ _ _ ⟨rfl,by simp[up,h4],by simp[up,h7],by simpa [up]using hP⟩
 ·rintro z rest i _ t h J Q' kJ kQ hx hi ⟨h2,h3,h4,h7,h27,h28,hP⟩
  have hdd:decide ((i:Int)<(d.hours.length:Int))=true:=decide_eq_true (by omega)
  have hw:=Ak hi (by unfold maxLen;omega)
  obtain⟨xv,h8⟩:∃xv,t 8=xv:=⟨_,rfl⟩
  rw[h8]at hP
  obtain⟨gv,bv,ow,w,es,H2,gv',bv',ow',a,b,c,e,hbx,hb0,hb1,ec,eh,⟨p1,p1'⟩,⟨p2,p2'⟩,⟨p3,p3'⟩,⟨p4,p4'⟩,⟨p5,p5'⟩,⟨p6,p6'⟩,⟨p7,p7'⟩,hbl,hb3,⟨w2,hbx2⟩,rows,hrl,hown,hov,hN⟩:=hP.call hx (fun g l o=>ajH v1 v3 ((ae5 v1 v3 i (by omega)).of rfl rfl rfl rfl rfl rfl) hx)
  rw[hq2]at ec
  have hA:=Ci hbx2
  have hS:=Nl hbl
  have ho2:=hown.setx hov (.live 6 false true [[.int .i64 (Ix s d (i+1)).hour,gv',.int .i64 (Ix s d (i+1)).own,.int .i64 (Ix s d (i+1)).fuel,bv',ow']])
  have hap:=fun(q:Aa) (r:List AV)=>pQ ho2 (pre:=[]) rfl q r [] (by simp;omega)
  have hhp:=fun(q:Aa) (r:List (List AV)) (ba:Nat)=>kO ho2 (pre:=[]) rfl q 4 false r ba
  simp only[am4,ajB,adA,abT,am3,Nat.reduceAdd,hrl]at hap hhp
  simp only[Aq.cells]at ec hb1
  (have hb:=trivial;with_reducible repeat' (first|simp only[hb,Vc.down,seval,af7.down,h2,h3,h7,h8,h27,h28,hdd,hw,hq2,hb0,hb1,hbx,ec,eh,hA,hS,bY,Ua,am3,hap,hhp,p1,p2,p3,p1',p2',p3',p4,p5,p6,p7,p4',p5',p6',p7',ai5,ai6,ai7,ai8]|refine Aj ?_ ?_<;>intro hb|refine fd ?_|fail))
  refine Ao (kJ _ _ () ⟨by simp[up,h2],by simp[up,h3],by simp[up,h4],by simp[up,h7],by simp[up,h27],by simp[up],?_⟩ rfl)
  exact hN _ _ _
 ·exact⟨by simp[up,Dh],by simp[up,Dh],by simp[up,Dh],by simp[up],by simp[up],by simp[up],P0 _⟩
 ·obtain⟨rfl,h4,h7,xc,Rx,rows,Ro,g,l,o,F,I,hF,hFl,hrl,hRx,hRo⟩:=hk
  obtain⟨xv,h8⟩:∃xv,t 8=xv:=⟨_,rfl⟩
  rw[h8]at I
  obtain⟨gv,bv,ow,rfl,⟨p1,p1'⟩,⟨p2,p2'⟩,⟨p3,p3'⟩⟩:=Xt I.x
  obtain⟨w,hbx⟩:=I.bxw
  have hb2:=I.b2
  have hs2:∀c,(h.set 2 c)[2]?=some c:=fun c=>List.getElem?_set_self (It I.b2)
  (have hb:=trivial;with_reducible repeat' (first|simp only[hb,Vc.down,seval,af7.down,h4,h7,h8,hbx,hb2,hs2,p1,p2,p3,p1',p2',p3',ai5,ai6,ai7,ai8]|refine Aj ?_ ?_<;>intro hb|refine fd ?_|fail))
  have agr:∀(R:List Nat) c,(∀j∈R,3≤j)→Agr R (hf h) (hf (h.set 2 c)):=fun R c hR j hj z hz=>by
   show((h.set 2 c)[j]?).bind Da=_
   rw[am2 (by have:=hR j hj;omega)];exact hz
  have own:=I.own.setx (bx:=2) (n:=h.length) (fun a m r k e=>by obtain⟨q1,_,_,q2⟩:=I.dov a m r k e;exact⟨q1,by omega,q2⟩) (.live 6 false true [[.int .i64 ((Ix s d d.hours.length).as g l o).hour,gv,.int .i64 ((Ix s d d.hours.length).as g l o).own,.int .i64 ((Ix s d d.hours.length).as g l o).fuel,bv,ow]])
  obtain⟨R2,r1,r2⟩:=aqY (d:=5) own (aU I.q (agr _ _ fun j hj=>(I.dx j (an1 _ hj)).1)) I.nil
  refine hK _ ?_
  rw[ac6]
  refine ao3 (vs:=[.agg [.int .i64 ((Ix s d d.hours.length).as g l o).hour,gv,.int .i64 ((Ix s d d.hours.length).as g l o).own,.int .i64 ((Ix s d d.hours.length).as g l o).fuel,bv,ow],xv,.int .i64 0]) ?_ (akO (Ag (Lr (iD I.x (agr _ _ fun j hj=>(I.dx j (am8 _ hj)).1))) (Ag r1 (Ag (Gx ..) Ig))) ?_ rfl fun outs h' R' k1 k2 k3=>⟨_,_,outs,R',⟨g,l,o,F,rfl,rfl,hF,hFl⟩,rfl,k1,?_,k3⟩)
  ·simp only[Vc.down,seval,af7.down,h4,hs2]
  ·simp only[adA,abT]at r2 ⊢;omega
  ·rw[k2];simp only[adA,abT]at r2 ⊢;omega
theorem auL(H:Aa)(s:Ac):eH H (.agg s.cells)=some (.agg s.cells):=Iu _ (d:=8) (by omega) (by simp[Ac.cells,Nv,Uj,Ej])
theorem auT(H:Aa)(d:Aq):eH H (.agg d.cells)=some (.agg d.cells):=Iu _ (d:=8) (by omega) (by simp[Aq.cells,Nv,Ej])
theorem ap6(H:Aa)(s:Ac)(d:Aq):As (eH H) [.agg s.cells,.agg d.cells]=some [.agg s.cells,.agg d.cells]:=by simp only[Ze,cN,auL,auT,Vp]
theorem aqF(s:Ac)(d:Aq):[AV.agg s.cells,AV.agg d.cells].all (Az 8)=true:=by simp[Ac.cells,Aq.cells,Nv,Uj,Ej]
theorem alP(g:HF)(s:Ac)(d:Aq):[AV.agg s.cells,AV.agg d.cells].flatMap (Av 12 g)=[]:=by
 rw[acY,acY,am6,Im (d:=8) (v:=.agg s.cells) _ (by omega) (by simp[Ac.cells,Nv,Uj,Ej]),Im (d:=8) (v:=.agg d.cells) _ (by omega) (by simp[Aq.cells,Nv,Ej])];rfl
theorem ajM.got{s:Ac}{d:Aq}{X Y:AV}(hq:ajM s d X Y){H:Aa}{a b:AV}{l:List AV}{R:List Nat}{xs:List AV}(h:Nc (rd 6 (hf H)) (a::b::l)=some (X::Y::xs,R)):
 ∃xc g l' o F R1 R2,a=.agg xc∧Nc (rd 5 (hf H)) xc=some (((Ix s d d.hours.length).as g l' o).cells,R1)∧rd 6 (hf H) b=some (Bj 4 false false (F.map Kv.cells),R2)∧kK s d F∧F.length=d.hours.length∧(∀j∈R1,j∈R)∧(∀j∈R2,j∈R):=by
 obtain⟨g,l',o,F,rfl,rfl,hF,hFl⟩:=hq
 obtain⟨a0,l0,R0,R0',e0,k0,h2,rfl⟩:=Ek h
 obtain⟨a1,l1,R1,R1',e1,k1,h3,rfl⟩:=Ek h2
 cases e0;cases e1
 obtain⟨xc,rfl,hx⟩:=oD k0
 exact⟨xc,g,l',o,F,R0,R1,rfl,hx,k1,hF,hFl,fun j hj=>am8 _ hj,fun j hj=>an1 _ (am8 _ hj)⟩
theorem amH{s:Ac}{d:Aq}{H:Aa}{v:AV}{F:List Kv}{R:List Nat}{n i:Nat}(h:rd 6 (hf H) v=some (Bj 4 false false (F.map Kv.cells),R))(hF:kK s d F)(hn:F.length=n)(hi:i<n):
 ∃b x1 x2 x3 x4 f,v=.slr 4 b 0 n∧Me (H[b]?) i=some [x1,x2,x3,x4]∧(∃w a l r,f=(flK s d i).as w a l r)∧∃R',Nc (rd 5 (hf H)) [x1,x2,x3,x4]=some (f.cells,R'):=by
 rcases cO h with⟨_,h0⟩|⟨b,rows',rfl,hb,_,_,hr⟩
 ·have:=ac4.1 h0
  rw[this]at hn;simp at hn;omega
 ·obtain⟨R',hr⟩:=hr rfl
  have hfi:F[i]?=some (F[i]'(by omega)):=abL _
  obtain⟨r,R2,k1,k2⟩:=kB (i:=i) (X:=(F[i]'(by omega)).cells) hr (by show(F.map Kv.cells)[i]?=_;rw[ac5,hfi];rfl)
  obtain⟨a,b',c,e,rfl,_⟩:=wZ k2
  exact⟨b,a,b',c,e,_,by rw[aaF,hn],by rw[yY hb,k1],hF i _ hfi,R2,k2⟩
theorem aa7{g:HF}{v:AV}{F:List Kv}{R:List Nat}{n:Nat}(h:rd 6 g v=some (Bj 4 false false (F.map Kv.cells),R))(hn:F.length=n):ln Tryz.prog 53 (some v)=some (.ret (.int .i64 (n:Int)),[]):=by
 rcases cO h with⟨rfl,h0⟩|⟨b,rows',rfl,_⟩
 ·have:n=0:=by rw[←hn,ac4.1 h0];rfl
  subst this
  simp only[Vc.down,seval,TY9.down]
 ·simp only[Vc.down,seval,TY9.down,aaF,hn]
def adI(d:Aq):Bool:=decide (d.hours.length≤53)&&decide (d.noms.length≤210)&&decide (d.trades.length≤60)
theorem anB(d:Aq):Bn.call (.fn 23) [.agg d.cells] []=some (.ret (.bool (adI d)),[]):=by
 have l1:decide ((d.hours.length:Int)≤53)=decide (d.hours.length≤53):=by rw[decide_eq_decide];omega
 have l2:decide ((d.noms.length:Int)≤210)=decide (d.noms.length≤210):=by rw[decide_eq_decide];omega
 have l3:decide ((d.trades.length:Int)≤60)=decide (d.trades.length≤60):=by rw[decide_eq_decide];omega
 (refine ce Tryz.func23 ?_;simp only[Tryz.f23];(have hb:=trivial;with_reducible repeat' (first|simp only[hb,Va.down,seval,axB.down,Aq.cells,aaF,l1,l2,l3]|refine Aj ?_ ?_<;>intro hb|refine fd ?_|fail)))
 all_goals (refine congrArg (fun b=>(Dx.ret (AV.bool b),([]:Aa))) ?_;simp_all[adI];try (intros;omega))
def wK(s:Ac)(d:Aq):Bool:=eB s.cons&&adI d&&decide (d.hours.length≤24)&&Ft s&&Nb s.cons.length d
theorem ak3{s:Ac}{d:Aq}(h:wK s d=true):eB s.cons=true∧adI d=true∧decide ((24:Int)<(d.hours.length:Int))=false∧Ft s=true∧Nb s.cons.length d=true:=by
 simp only[wK,aaR,decide_eq_true_eq]at h
 exact⟨h.1.1.1.1,h.1.1.1.2,decide_eq_false (by omega),h.1.2,h.2⟩
theorem afD{s:Ac}{d:Aq}(h:wK s d=false):¬(eB s.cons=true∧adI d=true∧d.hours.length≤24∧Ft s=true∧Nb s.cons.length d=true):=fun⟨a,b,c,e,f⟩=>by simp[wK,a,b,c,e,f]at h
theorem amF(hk:Bn.call (.fn 15) [] []=some (.ret (.bool true),[]))(s:Ac)(hs:s.small)(d:Aq)(hd:d.small)(h:wK s d=false):
 Bn.call (.fn 6) [.agg s.cells,.agg d.cells] []=some (.ret (.bool true),[]):=by
 have h1:=yO (nn:=s.nn) hs.cons
 have h2:=anB d
 have c1:=zJ s hs
 have c3:=anR d hd s.cons.length
 simp only[Aq.cells]at h2 c3
 have l1:decide ((24:Int)<(d.hours.length:Int))= !decide (d.hours.length≤24):=by rw[←decide_not,decide_eq_decide];omega
 have key:=afD h
 (refine ce Tryz.func6 ?_;simp only[Tryz.f6];(have hb:=trivial;with_reducible repeat' (first|simp only[hb,Vc.down,seval,uM.down,Aq.cells,h1,h2,l1,c1,c3,hk,aaF]|refine Aj ?_ ?_<;>intro hb|refine fd ?_|fail)))
 all_goals (exfalso;refine key ⟨?_,?_,?_,?_,?_⟩<;>clear key h<;>simp_all)
def okZ(s:Ac)(z:Au):Bool:= !decide (z.inn<s.inn)&& !decide (z.out<s.out)
theorem agU{H:Aa}{v:AV}{nn:Bool}{l:List Int}{R:List Nat}{i:Nat}{x:Int}(h:rd 5 (hf H) v=some (Bj 1 true nn (l.map iv),R))(hi:l[i]?=some x):
 ∃b,v=.slr 1 b 0 l.length∧Me (H[b]?) i=some [.int .i64 x]:=by
 rcases cO h with⟨_,h0⟩|⟨b,rows',rfl,hb,_,hr,_⟩
 ·rw[ac4.1 h0]at hi;simp at hi
 ·exact⟨b,by rw[aaF],by rw[yY hb,hr rfl,ac5,hi];rfl⟩
theorem sS{g:HF}{v:AV}{nn:Bool}{l:List Int}{R:List Nat}{n:Nat}(h:rd 5 g v=some (Bj 1 true nn (l.map iv),R))(hn:l.length=n):ln Tryz.prog 25 (some v)=some (.ret (.int .i64 (n:Int)),[]):=by
 rcases cO h with⟨rfl,h0⟩|⟨b,rows',rfl,_⟩
 ·have:n=0:=by rw[←hn,ac4.1 h0];rfl
  subst this
  simp only[Vc.down,seval,uM.down]
 ·simp only[Vc.down,seval,uM.down,aaF,hn]
theorem al2(hk:Bn.call (.fn 15) [] []=some (.ret (.bool true),[]))(s:Ac)(hs:s.small)(d:Aq)(hd:d.small)(h:wK s d=true):
 Bn.call (.fn 6) [.agg s.cells,.agg d.cells] []=some (.ret (.bool true),[]):=by
 obtain⟨g1,g2,g3,v1,v3⟩:=ak3 h
 have h1:=yO (nn:=s.nn) hs.cons
 have h2:=anB d
 rw[g1]at h1
 rw[g2]at h2
 have c1:=zJ s hs
 have c3:=anR d hd s.cons.length
 rw[v1]at c1
 rw[v3]at c3
 have hl:=(Vx v1).len
 have hD:d.hours.length≤24:=by rw[decide_eq_false_iff_not]at g3;omega
 obtain⟨X,Y,hq1,K1⟩:=asR hs hd v1 v3
 obtain⟨qR,hqR⟩:∃q,Fn.func 25=q:=⟨_,rfl⟩
 have hk':=hk
 simp only[Aq.cells]at h2 c3
 refine ce Tryz.func6 ?_
 simp only[Tryz.f6]
 (have hb:=trivial;with_reducible repeat' (first|simp only[hb,Vc.down,seval,uM.down,Aq.cells,h1,h2,g3,c1,c3,aaF]|refine Aj ?_ ?_<;>intro hb|refine fd ?_|fail))
 refine Di (Rm 146 d.hours (fun i (_:Unit) t h=>h=[.live 6 false false [s.cells],.live 3 false false [d.cells]]∧t 2=.ptr 0 0 0∧t 3=.ptr 1 0 0∧t 5=.int .i64 i) (fun rest _=>rest.all (okZ s))
  (fun r e t h=>if r=true then e=.exit 0∧h=[.live 6 false false [s.cells],.live 3 false false [d.cells]]∧t 2=.ptr 0 0 0∧t 3=.ptr 1 0 0 else e=.ret∧t 4=.bool true) ?_ ?_ () _ _ ?_) (fun e t h hk=>?_)
 ·rintro _ t h Q' kQ ⟨rfl,h2,h3,h5⟩
  (have hb:=trivial;with_reducible repeat' (first|simp only[hb,Vc.down,seval,uM.down,Aq.cells,h3,h5,aaF,ac2,decide_false]|refine Aj ?_ ?_<;>intro hb|refine fd ?_|fail))
  exact kQ _ _ _ ⟨rfl,rfl,by simp[up,h2],by simp[up,h3]⟩
 ·rintro z rest i _ t h J Q' kJ kQ hz hi ⟨rfl,h2,h3,h5⟩
  have hdd:decide ((i:Int)<(d.hours.length:Int))=true:=decide_eq_true (by omega)
  have hw:=Ak hi (by unfold maxLen;omega)
  have hii:((i:Int)<(d.hours.length:Int))=True:=eq_true (by omega)
  (have hb:=trivial;with_reducible repeat' (first|simp only[hb,Vc.down,seval,uM.down,Aq.cells,Au.cells,h2,h3,h5,hdd,hw,hii,hz,hk',aaF]|refine Aj ?_ ?_<;>intro hb|refine fd ?_|fail))
  ·exact kQ _ _ _ (by rw[if_neg (by simp_all[okZ])];exact⟨rfl,by simp[up]⟩)
  ·exact kQ _ _ _ (by rw[if_neg (by simp_all[okZ])];exact⟨rfl,by simp[up]⟩)
  ·exact Ao (kJ _ _ () ⟨rfl,by simp[up,h2],by simp[up,h3],by simp[up]⟩ (by simp_all[okZ]))
 ·exact⟨rfl,by simp[up,Dh],by simp[up,Dh],by simp[up]⟩
 ·by_cases hall:d.hours.all (okZ s)=true
  case neg=>
   rw[if_neg hall]at hk
   obtain⟨rfl,h4⟩:=hk
   (have hb:=trivial;with_reducible repeat' (first|simp only[hb,Vc.down,seval,uM.down,h4]|refine Aj ?_ ?_<;>intro hb|refine fd ?_|fail))
  rw[if_pos hall]at hk
  obtain⟨rfl,rfl,h2,h3⟩:=hk
  (have hb:=trivial;with_reducible repeat' (first|simp only[hb,Vc.down,seval,uM.down,Aq.cells,h2,h3,hqR]|refine Aj ?_ ?_<;>intro hb|refine fd ?_|fail))
  generalize hE:cl Bn _ (some (.func qR [] [])) (some _)=E
  rw[←hqR]at hE
  obtain⟨outs,es,H1,R,rfl,eh,k1,k2,k3,k4⟩:=K1.at hE rfl (ap6 _ s d) (aqF s d)
  obtain⟨v1',l1,_,_,rfl,_,k2',_⟩:=Ek k2
  obtain⟨yv,l2,_,_,rfl,_,k2',_⟩:=Ek k2'
  obtain⟨v3',l3,_,_,rfl,k5,k2',_⟩:=Ek k2'
  obtain⟨rfl,_⟩:=iF k2'
  obtain⟨rfl,_⟩:=pT k5
  obtain⟨xc,g,l,o,F,R1,R2,rfl,hx,hy,hF,hFl,hR1,hR2⟩:=hq1.got k2
  obtain⟨gv,bv,ov,rfl,⟨p1,p1'⟩,⟨p2,p2'⟩,⟨p3,p3'⟩⟩:=Xt hx
  rw[alP]at k1
  have m0:H1[0]?=some (.live 6 false false [s.cells]):=k1.same 0 (by simp) (by simp)
  have m1:H1[1]?=some (.live 3 false false [d.cells]):=k1.same 1 (by simp) (by simp)
  have n0:=Ci m0
  have n1:=Ci m1
  simp only[Aq.cells]at n1
  have hn1:=aa7 hy hFl
  (have hb:=trivial;with_reducible repeat' (first|simp only[hb,Vc.down,seval,uM.down,Aq.cells,eh,h2,h3,p1,p2,p3,p1',p2',p3',ai5,ai6,ai7,ai8,n0,n1,hn1,aaF,rO,Int.reduceBEq]|refine Aj ?_ ?_<;>intro hb|refine fdl ?_|fail))
  generalize hHH:H1++_=HH
  have hyl:rd 6 (hf HH) yv=some (Bj 4 false false (F.map Kv.cells),R2):=by
   rw[←hHH]
   exact cY hy fun j hj z hz=>by
    show((H1++_)[j]?).bind Da=_
    rw[am5 (oI hz)];exact hz
  have m0':HH[0]?=some (.live 6 false false [s.cells]):=by rw[←hHH];exact n0 _
  refine Di (Rm 146 d.hours (fun i (_:Unit) t h=>h=HH∧t 2=.ptr 0 0 0∧t 7=yv∧t 9=.int .i64 i) (fun _ _=>()) (fun _ e t h=>e=.exit 2) ?_ ?_ () _ _ ?_) (fun e t h hk=>?_)
  ·rintro _ t h Q' kQ ⟨rfl,h2,h7,h9⟩
   (have hb:=trivial;with_reducible repeat' (first|simp only[hb,Vc.down,seval,uM.down,h7,h9,hn1,ac2,decide_false]|refine Aj ?_ ?_<;>intro hb|refine fd ?_|fail))
   exact kQ _ _ _ rfl
  ·rintro z rest i _ t h J Q' kJ kQ hz hi ⟨rfl,h2,h7,h9⟩
   have hdd:decide ((i:Int)<(d.hours.length:Int))=true:=decide_eq_true (by omega)
   have hw:=Ak hi (by unfold maxLen;omega)
   obtain⟨bo,x1,x2,x3,x4,f1,rfl,r1,⟨⟨w1,w2,w3,w4,rfl⟩,Q1,hr1⟩⟩:=amH hyl hF hFl hi
   have hii:((i:Int)<(d.hours.length:Int))=True:=eq_true (by omega)
   obtain⟨a1,la1,S1,S1',e1,y1,hr1,_⟩:=Ek hr1
   obtain⟨a2,la2,S2,S2',e2,y2,hr1,_⟩:=Ek hr1
   cases e1;cases e2
   have hz0:d.hours[i]?=some (uP d i):=by unfold uP;rw[hz];rfl
   have hzz:uP d i=z:=by unfold uP;rw[hz];rfl
   have JJ:=ae5 v1 v3 i (by omega)
   obtain⟨_,_,W⟩:=Yd v1 v3 JJ hz0
   have q1:=sS y1 (n:=s.cons.length) W.len.2.2.2.1
   have q2:=sS y2 (n:=s.cons.length) W.len.2.2.2.2
   (have hb:=trivial;with_reducible repeat' (first|simp only[hb,Vc.down,seval,uM.down,h2,h7,h9,hdd,hw,hii,r1,hn1,m0',q1,q2,hFl,aaF,rO,Int.reduceBEq]|refine Aj ?_ ?_<;>intro hb|refine fd ?_|fail))
   refine Di (Rm 146 s.cons (fun j (_:Unit) t' h'=>h'=h∧t' 2=.ptr 0 0 0∧t' 7=.slr 4 bo 0 d.hours.length∧t' 9=.int .i64 i∧t' 10=.int .i64 j) (fun _ _=>()) (fun _ e t' h'=>e=.exit 4∧h'=h∧t' 2=.ptr 0 0 0∧t' 7=.slr 4 bo 0 d.hours.length∧t' 9=.int .i64 i) ?_ ?_ () _ _ ?_) (fun e t' h' hk=>?_)
   ·rintro _ t' h' Q'' kQ' ⟨rfl,h2,h7,h9,h10⟩
    (have hb:=trivial;with_reducible repeat' (first|simp only[hb,Vc.down,seval,uM.down,h2,h10,m0',aaF,ac2,decide_false]|refine Aj ?_ ?_<;>intro hb|refine fd ?_|fail))
    exact kQ' _ _ _ ⟨rfl,rfl,by simp[up,h2],by simp[up,h7],by simp[up,h9]⟩
   ·rintro c rest' j _ t' h' J' Q'' kJ' kQ' hc hj ⟨rfl,h2,h7,h9,h10⟩
    have hdd':decide ((j:Int)<(s.cons.length:Int))=true:=decide_eq_true (by omega)
    have hw':=Ak hj (by unfold maxLen;omega)
    have hjj:((j:Int)<(s.cons.length:Int))=True:=eq_true (by omega)
    obtain⟨wj,hwj⟩:∃w,(flK s d i).wants[j]?=some w:=⟨_,abL (by show j<(W3 s d _ _ _ _).length;have:=W.len.2.2.2.1;omega)⟩
    obtain⟨aj,haj⟩:∃w,(flK s d i).grants[j]?=some w:=⟨_,abL (by show j<(A4 s d _ _ _ _ _).length;have:=W.len.2.2.2.2;omega)⟩
    have lW:((flK s d i).as w1 w2 w3 w4).wants.length=s.cons.length:=W.len.2.2.2.1
    have lA:((flK s d i).as w1 w2 w3 w4).grants.length=s.cons.length:=W.len.2.2.2.2
    obtain⟨bw,rfl,rw1⟩:=agU y1 hwj
    obtain⟨ba,rfl,ra1⟩:=agU y2 haj
    have hzk:okZ s (uP d i)=true:=by rw[hzz];exact acK.1 hall z (aaV hz)
    simp only[okZ,aaR,Bool.not_eq_true',decide_eq_false_iff_not]at hzk
    have keep:c.firm=true→wj=aj:=fun hf=>by
     have k:=awR v1 v3 JJ hz0 (by omega) (by omega) hc hf
     have e1:wj=gI (W3 s d (Ix s d i).hour (Ix s d i).gas (Ix s d i).bills (Ix s d i).owed) j:=by
      have q:(W3 s d (Ix s d i).hour (Ix s d i).gas (Ix s d i).bills (Ix s d i).owed)[j]?=some wj:=hwj
      unfold gI;rw[aiT,q];rfl
     have e2:aj=gI (A4 s d (Ix s d i).hour (uP d i) (Ix s d i).gas (Ix s d i).bills (Ix s d i).owed) j:=by
      have q:(A4 s d (Ix s d i).hour (uP d i) (Ix s d i).gas (Ix s d i).bills (Ix s d i).owed)[j]?=some aj:=haj
      unfold gI;rw[aiT,q];rfl
     rw[e1,e2];exact k
    cases hf:c.firm with
    |false=>
     (have hb:=trivial;with_reducible repeat' (first|simp only[hb,Vc.down,seval,uM.down,Ae.cells,h2,h7,h9,h10,hdd',hw',hjj,hc,hf,m0',aaF]|refine Aj ?_ ?_<;>intro hb|refine fd ?_|fail))
     exact Ao (kJ' _ _ () ⟨rfl,by simp[up,h2],by simp[up,h7],by simp[up,h9],by simp[up]⟩ rfl)
    |true=>
     obtain rfl:=keep hf
     have hbn:(wj !=wj)=false:=bne_self_eq_false wj
     have hbe:(!wj==wj)=false:=by simp
     (have hb:=trivial;with_reducible repeat' (first|simp only[hb,Vc.down,seval,uM.down,Ae.cells,h2,h7,h9,h10,hdd',hw',hjj,hc,hf,m0',r1,rw1,ra1,hii,lW,lA,hbn,hbe,aaF]|refine Aj ?_ ?_<;>intro hb|refine fd ?_|fail))
     exact Ao (kJ' _ _ () ⟨rfl,by simp[up,h2],by simp[up,h7],by simp[up,h9],by simp[up]⟩ rfl)
   ·exact⟨rfl,by simp[up,h2],by simp[up,h7],by simp[up,h9],by simp[up]⟩
   ·obtain⟨rfl,rfl,h2,h7,h9⟩:=hk
    (have hb:=trivial;with_reducible repeat' (first|simp only[hb,Vc.down,seval,uM.down,h9,hw]|refine Aj ?_ ?_<;>intro hb|refine fd ?_|fail))
    exact Ao (kJ _ _ () ⟨rfl,by simp[up,h2],by simp[up,h7],by simp[up]⟩ rfl)
  ·exact⟨rfl,by simp[up,h2],by simp[up],by simp[up]⟩
  ·subst hk
   (have hb:=trivial;with_reducible repeat' (first|simp only[hb,Vc.down,seval,uM.down,hk']|refine Aj ?_ ?_<;>intro hb|refine fd ?_|fail))
theorem adS{n:Nat}{r:List AV}(h:Ty Tryz.prog (n+2) 111 r):∃x:Ab,r=x.cells∧True:=by
 unfold Ty at h
 simp only[Tryz.underlying111,iU]at h
 obtain⟨a,b,rfl,h1,c,d,rfl,h2,e,f,rfl,h3,g,k,rfl,h4,p,q,rfl,h5,rfl⟩:=h
 obtain⟨x,rfl,_⟩:=Ef h1
 obtain⟨y,rfl,_⟩:=Ef h2
 obtain⟨z,rfl,_⟩:=Ef h3
 obtain⟨u,rfl,_⟩:=Ef h4
 obtain⟨v,rfl,_⟩:=Ef h5
 exact⟨⟨x,y,z,u,v⟩,rfl,trivial⟩
theorem aaX{n:Nat}{r:List AV}(h:Ty Tryz.prog (n+3) 46 r):∃(nn:Bool) (l:List Ab),r=[Bj 5 true nn (l.map Ab.cells)]∧l.length≤maxLen:=by
 unfold Ty at h
 simp only[Tryz.underlying46]at h
 obtain⟨nn,rows,rfl,hl,hrows⟩:=h
 obtain⟨l,rfl,_⟩:=Zj (fun r hr=>adS hr) hrows
 have e1:Tryz.prog.cellsOf 111=5:=by kernel_rfl
 have e2:iC Tryz.prog (n+2) 111=true:=by
  simp only[iC,Tryz.underlying111,Tryz.underlying3];rfl
 rw[e1,e2]
 exact⟨nn,l,rfl,by simpa using hl⟩
theorem akB{n:Nat}{r:List AV}(h:Ty Tryz.prog (n+2) 59 r):∃x:Au,r=x.cells∧True:=by
 unfold Ty at h
 simp only[Tryz.underlying59,iU]at h
 obtain⟨a,b,rfl,h1,c,d,rfl,h2,e,f,rfl,h3,g,k,rfl,h4,rfl⟩:=h
 obtain⟨x,rfl,_⟩:=Ef h1
 obtain⟨y,rfl,_⟩:=Ef h2
 obtain⟨z,rfl,_⟩:=Ef h3
 obtain⟨u,rfl,_⟩:=Ef h4
 exact⟨⟨x,y,z,u⟩,rfl,trivial⟩
theorem af4{n:Nat}{r:List AV}(h:Ty Tryz.prog (n+3) 44 r):∃(nn:Bool) (l:List Au),r=[Bj 4 true nn (l.map Au.cells)]∧l.length≤maxLen:=by
 unfold Ty at h
 simp only[Tryz.underlying44]at h
 obtain⟨nn,rows,rfl,hl,hrows⟩:=h
 obtain⟨l,rfl,_⟩:=Zj (fun r hr=>akB hr) hrows
 have e1:Tryz.prog.cellsOf 59=4:=by kernel_rfl
 have e2:iC Tryz.prog (n+2) 59=true:=by
  simp only[iC,Tryz.underlying59,Tryz.underlying3];rfl
 rw[e1,e2]
 exact⟨nn,l,rfl,by simpa using hl⟩
theorem aoH{av:AV}(h:yP Tryz.prog 7 48 av):∃d:Aq,av=.agg d.cells∧d.small:=by
 unfold yP at h
 simp only[Tryz.underlying48]at h
 obtain⟨cs,rfl,h⟩:=h
 unfold Ty at h
 simp only[Tryz.underlying48,iU]at h
 obtain⟨a0,b0,rfl,h0,a1,b1,rfl,h1,a2,b2,rfl,h2,rfl⟩:=h
 obtain⟨nh,hh,rfl,k0⟩:=af4 h0
 obtain⟨nn,n',rfl,k1⟩:=ak6 h1
 obtain⟨nt,t,rfl,k2⟩:=aaX h2
 exact⟨⟨nh,hh,nn,n',nt,t⟩,rfl,k0,k1,k2⟩
theorem wP(hk:Bn.call (.fn 15) [] []=some (.ret (.bool true),[])):∀avs,vC Tryz.prog 7 Tryz.f6.params.toList avs→Bn.call (.fn 6) avs []=some (.ret (.bool true),[]):=by
 intro avs h
 rw[show Tryz.f6.params.toList=[24,48]from rfl]at h
 match avs,h with
 | [a,c],h=>
   obtain⟨h1,h3,_⟩:=h
   obtain⟨s,rfl,hs⟩:=adW h1
   obtain⟨d,rfl,hd⟩:=aoH h3
   cases hg:wK s d with
   |false=>exact amF hk s hs d hd hg
   |true=>exact al2 hk s hs d hd hg
 | [],h=>exact h.elim
 | [_],h=>exact h.2.elim
 |_::_::_::_,h=>exact h.2.2.elim
def afQ:List AV→Option Bc
 | [.int .i64 a,.int .i64 b,.int .i64 c]=>some ⟨a,b,c⟩
 |_=>none
def dSl{α:Type}(n:Nat)(fl:Bool)(d:List AV→Option α):AV→Option (Bool × List α)
 | .nils=>some (false,[])
 | .imm n' fl' rows=>if n'=n∧fl'=fl then(As d rows).map fun l=>(true,l)else none
 |_=>none
def amA:List AV→Option Ae
 | [.bool f,.int .i64 sp,.int .i64 lo,.int .i64 hi,r,.int .i64 g,.int .i64 fx,.int .i64 a,.int .i64 b,.int .i64 c,.int .i64 l]=>(dSl 3 true afQ r).map fun x=>⟨f,sp,lo,hi,x.1,x.2,g,fx,a,b,c,l⟩
 |_=>none
def wU:List AV→Option Ac
 | [.int .i64 sp,.int .i64 a,.int .i64 b,.int .i64 l,.int .i64 f,r]=>(dSl 11 false amA r).map fun x=>⟨sp,a,b,l,f,x.1,x.2⟩
 |_=>none
theorem ah4{cs:List AV}{x:Bc}(h:afQ cs=some x):cs=x.cells:=by
 unfold afQ at h
 split at h
 ·cases h;rfl
 ·cases h
theorem uB{α:Type}{d:List AV→Option α}{f:α→List AV}(hd:∀cs x,d cs=some x→cs=f x):∀{rows:List (List AV)} {l:List α},As d rows=some l→rows=l.map f
 | [],l,h=>by simp[As]at h;subst h;rfl
 |r::rows,l,h=>by
  simp only[As,anC,ai9]at h
  obtain⟨x,h1,l',h2,rfl⟩:=h
  rw[hd r x h1,uB hd h2];rfl
theorem wO{α:Type}{n:Nat}{fl:Bool}{d:List AV→Option α}{f:α→List AV}(hd:∀cs x,d cs=some x→cs=f x){v:AV}{x:Bool × List α}(h:dSl n fl d v=some x):v=Bj n fl x.1 (x.2.map f):=by
 unfold dSl at h
 split at h
 ·cases h;rfl
 ·split at h
  ·rename_i hq
   obtain⟨rfl,rfl⟩:=hq
   obtain⟨l,h1,rfl⟩:=ai9.1 h
   rw[uB hd h1]
   cases l<;>rfl
  ·cases h
 ·cases h
theorem xY{cs:List AV}{x:Ae}(h:amA cs=some x):cs=x.cells:=by
 unfold amA at h
 split at h
 ·obtain⟨y,h1,rfl⟩:=ai9.1 h
  rw[wO (fun cs x=>ah4) h1];rfl
 ·cases h
theorem aaS{cs:List AV}{x:Ac}(h:wU cs=some x):cs=x.cells:=by
 unfold wU at h
 split at h
 ·obtain⟨y,h1,rfl⟩:=ai9.1 h
  rw[wO (fun cs x=>xY) h1]
 ·cases h
def pM(l:List Ae):Bool:=decide (l.length≤1000)&&l.all fun c=>decide (c.rates.length≤1000)
theorem Yv{l:List Ae}(h:pM l=true):l.length≤maxLen∧∀c∈l,c.rates.length≤maxLen:=by
 simp only[pM,aaR,decide_eq_true_eq,acK]at h
 unfold maxLen
 exact⟨by omega,fun c hc=>by have:=h.2 c hc;omega⟩
def ae3:List AV→Aa→Option (Dx × Aa)
 | [.agg cs],[]=>(wU cs).bind fun s=>if pM s.cons=true then some (.ret (.bool (Ft s)),[])else none
 |_,_=>none
def af2(l:List Ae):Bool:=l.all fun c=> !c.rates.isEmpty&&decide (c.rates.length≤6)
def anJ:List AV→Aa→Option (Dx × Aa)
 | [v,.int .i64 h],[]=>(dSl 11 false amA v).bind fun x=>if(pM x.2&&af2 x.2)=true then(match Pg h x.2 (0,0)with|(a,b)=>some (.ret (.tup [.int .i64 a,.int .i64 b]),[]))else none
 |_,_=>none
def pr2:Oe:=⟨fun f=>if f=49 then some ae3 else if f=68 then some anJ else pr f,pr.md⟩
theorem arS:∀f p,pr2 f=some p→∀a h r,p a h=some r→Bn.call (.fn f) a h=some r:=by
 intro f p hp a h r hr
 simp only[pr2]at hp
 split at hp
 ·rename_i hf
  subst hf
  cases hp
  unfold ae3 at hr
  split at hr
  ·rename_i cs
   obtain⟨s,h1,h2⟩:=anC.1 hr
   split at h2
   ·rename_i hs
    cases h2
    rw[aaS h1]
    exact yA s ⟨(Yv hs).1,(Yv hs).2⟩
   ·cases h2
  ·cases hr
 ·split at hp
  ·rename_i hf
   subst hf
   cases hp
   unfold anJ at hr
   split at hr
   ·rename_i v hour
    obtain⟨x,h1,h2⟩:=anC.1 hr
    split at h2
    ·rename_i hs
     simp only[aaR]at hs
     cases h2
     rw[wO (fun cs x=>xY) h1]
     exact aeT hour (Yv hs.1).1 (fun c hc=>by
      have:=acK.1 hs.2 c hc
      simp only[aaR,decide_eq_true_eq,Bool.not_eq_eq_eq_not,Bool.not_true,List.isEmpty_eq_false_iff]at this
      exact this)
    ·cases h2
   ·cases hr
  ·exact amU hp hr
theorem abD:(Um Tryz.prog pr2 100).call (.fn 15) [] []=some (.ret (.bool true),[]):=by kernel_rfl
theorem ahI:Bn.call (.fn 15) [] []=some (.ret (.bool true),[]):=agP (pr:=pr) (pr2:=pr2) rfl (fun f hf=>by
 simp only[pr2]at hf
 split at hf
 ·cases hf
 ·split at hf
  ·cases hf
  ·exact hf) arS abD
end Go.Proofs.YtdbiogihimdpcaaGreatDoor
