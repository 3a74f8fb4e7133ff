/- The functions of the layer, walked. -/
import Derived.Test.YtdbiogihimdpcaaGreatDoorPartAH
import Derived.Test.YtdbiogihimdpcaaGreatDoorPartAI
import Derived.Test.YtdbiogihimdpcaaGreatDoorLibE
import Derived.Test.YtdbiogihimdpcaaGreatDoorPartAA
import Derived.Test.YtdbiogihimdpcaaGreatDoorPartAB
import Derived.Test.YtdbiogihimdpcaaGreatDoorLibD
open List renaming length_map→aa9,length_nil→abQ,length_cons→acI,map_nil→acQ,flatMap_cons→acR,length_append→acV,map_cons→adG,getElem?_append_left→adJ,all_eq_true→adK,getElem?_append_right→adL,nil_append→adM,length_eq_zero_iff→adN,flatMap_nil→adO,append_nil→adP,all_cons→ae4,all_nil→ajX,mem_append_left→ajZ,getElem?_set_ne→ak9,length_set→alO,map_eq_nil_iff→an1,getElem?_eq_getElem→aoB,mem_append_right→aoC,eq_nil_iff_forall_not_mem→aoH,getElem?_eq_some_iff→aoK,getElem?_map→aoL
open Bool renaming and_eq_true→acL,and_true→adQ,and_false→aeY,true_or→ajY
open Option renaming map_eq_some_iff→aj0,bind_eq_some_iff→aoF
open Int renaming lt_irrefl→aj1
set_option linter.unusedSimpArgs false
set_option linter.unusedVariables false
namespace Go.Proofs.YtdbiogihimdpcaaGreatDoor
open Go.Ev Go
set_option maxRecDepth 100000
set_option maxHeartbeats 16000000
theorem anI{s:Ac}{y:Gh}{d:An}{z:Au}{k:Nat}(h1:Fj s=true)(h3:Kz s.cons.length d=true)(I:StJ s k y)(hne:s.cons≠[])(hz:d.hours[k]?=some z):eT s d y.hour z y.owed:=by
 have S:=Ss h1
 have hl:=S.len
 have ol:=I.i.olen
 have hz':d.hours[y.hour.toNat]?=some z:=by rw[I.hour];exact hz
 simp only[Kz,acL,decide_eq_true_eq,adK]at h3
 obtain⟨⟨⟨⟨⟨d1,d2⟩,d3⟩,d4⟩,d5⟩,d6⟩:=h3
 refine⟨hne,by omega,by omega,fun c hc=>?_,by omega,fun t ht=>(I.i.owed t ht).ok,by omega,fun t ht=>?_,by rw[I.hour];omega,hz'⟩
 ·have C:=S.cons c hc
  exact⟨by have:=C.space;omega,C.rates.1,by have:=C.rates.2;unfold maxLen;omega⟩
 ·exact(lP (by omega) (d6 t ht)).1
theorem vX{s:Ac}{y:Gh}{d:An}{k:Nat}(h3:Kz s.cons.length d=true)(I:StJ s k y)(he:s.cons=[]):y.gas=[]∧y.bills=[]∧y.owed=[]∧d.trades=[]:=by
 have p1:=I.i.g.len
 have p2:=I.i.l
 have p3:=I.i.owed
 rw[he]at p1 p2 p3 h3
 refine⟨adN.1 p1,adN.1 p2,?_,?_⟩
 ·refine aoH.2 fun t ht=>?_
  have t1:=(p3 t ht).ok.1.1
  have t2:=(p3 t ht).ok.1.2
  simp only[abQ]at t2
  omega
 ·refine aoH.2 fun t ht=>?_
  simp only[Kz,acL,adK]at h3
  have:=h3.2 t ht
  simp only[abQ,show((0:Nat):Int)=0 from rfl,ah2]at this
  cases this
theorem axU{s:Ac}{y:Gh}{d:An}{z:Au}{k:Nat}(h3:Kz s.cons.length d=true)(I:StJ s k y)(he:s.cons=[])(hz:d.hours[k]?=some z):ZOK s d y.hour z:=by
 have D:=dN h3 hz
 exact⟨he,(vX h3 I he).2.2.2,by rw[I.hour];omega,by rw[I.hour];exact hz,D.2.1.1,D.2.1.2⟩
theorem axV{s:Ac}{y:Gh}{d:An}{z:Au}{k:Nat}(h1:Fj s=true)(hz:d.hours[k]?=some z)(h3:Kz s.cons.length d=true)(I:StJ s k y)(he:s.cons=[]):wX s d z y=⟨y.hour+1,false,[],cX [] z y.own,y.fuel,false,[],false,[]⟩∧flw s d z y=⟨false,[],false,[],false,[],false,[]⟩:=by
 obtain⟨e1,e2,e3,e4⟩:=vX h3 I he
 have t2:T2 s d y.hour y.gas y.bills y.owed=([],[],[]):=by simp[T2,G1,O1,e1,e2,e3,e4,he,Cd,Bd]
 have w3:W3 s d y.hour y.gas y.bills y.owed=[]:=by simp[W3,he,It]
 obtain⟨_,_,W⟩:=cO h1 h3 I hz
 have wl:=W.len
 rw[he]at wl
 have a4:A4 s d y.hour z y.gas y.bills y.owed=[]:=adN.1 wl.2.2.2.2
 have f5:F5 s d y.hour z y.gas y.bills y.owed=[]:=adN.1 wl.2.2.1
 have l7:L7 s d y.hour z y.gas y.bills y.owed=[]:=adN.1 wl.2.1
 have g6:G6 s d y.hour z y.gas y.bills y.owed y.fuel=([],y.fuel):=by simp[G6,f5,t2,Gt]
 exact⟨by unfold wX Xp;rw[g6,t2,l7,a4],by unfold flw;rw[w3,a4,f5,t2]⟩
theorem abE{s:Ac}{y:Gh}{d:An}{z:Au}{k:Nat}(h3:Kz s.cons.length d=true)(I:StJ s k y)(hz:d.hours[k]?=some z):IntKind.i64.wrap (y.hour+1)=y.hour+1:=by
 have:=dN h3 hz
 have:=I.hour
 exact Ag (by omega) (by omega)
theorem alZ{s:Ac}{d:An}{z:Au}{y:Gh}{k:Nat}(h1:Fj s=true)(h3:Kz s.cons.length d=true)(I:StJ s k y)(hz:d.hours[k]?=some z):
 ∃g l o w a f r,RdT Bl 64 [.agg s.cells,.agg y.cells,.agg d.cells] [.agg ((wX s d z y).as g l o).cells,.agg ((flw s d z y).as w a f r).cells] 7:=by
 have hw:=abE h3 I hz
 by_cases he:s.cons=[]
 ·obtain⟨e1,e2,e3,_⟩:=vX h3 I he
  obtain⟨n1,n2⟩:=axV h1 hz h3 I he
  have q:=alL (axU h3 I he hz) e1 e2 e3
  rw[hw]at q
  obtain⟨g,l,w,k⟩:=av5 q
  rw[n1,n2]
  exact⟨g,l,false,w,false,false,false,k⟩
 ·obtain⟨J,E,W⟩:=cO h1 h3 I hz
  have q:=aqN (anI h1 h3 I he hz) I.i.g.len I.i.l
  rw[hw]at q
  obtain⟨o,r,k⟩:=af7 W.len.1 W.len.2.1 W.len.2.2.2.1 W.len.2.2.2.2 W.len.2.2.1 q
  exact⟨true,true,o,true,true,true,r,k⟩
def Ux(s:Ac)(g l:Bool):Gh:=⟨0,g,s.cons.map (·.gas),0,0,l,(s.cons.map (·.gas)).map (fun _=>0),false,[]⟩
theorem avZ{g:Aa}{b1 b2:Nat}(h:b2<g.length)(l m:Aa)(k:Nat):((g.set b1 .dead++l).set b2 .dead++m)[g.length+k]?=(l++m)[k]?:=by
 rw[Nu (by simpa using h),List.append_assoc,adL (by simp)];simp
def avM(k:Nat)(p:List Int)(gv bv:AV)(g:Aa):Prop:=(p=[]∧gv=.nils∧bv=.nils)∨
 (p≠[]∧∃b1 b2,gv=.slr 1 (b1+k) 0 p.length∧bv=.slr 1 (b2+k) 0 p.length∧b1≠b2∧g[b1]?=some (.live 1 true false (p.map iv))∧g[b2]?=some (.live 1 true false ((p.map fun _=>(0:Int)).map iv)))
def avB(s:Ac)(o:Ea)(h:Aa):Prop:=
 (s.cons=[]∧o=.ret (.agg [.int .i64 0,.nils,.int .i64 0,.int .i64 0,.nils,.nils])∧h=[])∨
 (s.cons≠[]∧o=.ret (.agg [.int .i64 0,.slr 1 0 0 s.cons.length,.int .i64 0,.int .i64 0,.slr 1 1 0 s.cons.length,.nils])∧h=[.live 1 true false ((s.cons.map (·.gas)).map iv),.live 1 true false (((s.cons.map (·.gas)).map fun _=>(0:Int)).map iv)])
theorem akW{s:Ac}{O:Ez}{f:Nat}{vs:List AV}(h:Vg O f vs [] (avB s)):∃g l,RdV O f vs (.agg (Ux s g l).cells) 2:=by
 obtain⟨o,h',e,⟨he,rfl,rfl⟩|⟨he,rfl,rfl⟩⟩:=h
 ·refine⟨false,false,_,[],_,e,Jg (Ae (Gw ..) (Ae (R1:=[]) ?_ (Ae (Gw ..) (Ae (Gw ..) (Ae (R1:=[]) ?_ (Ae aeK Ii)))))),by simp,fun c hc=>by cases hc⟩
  ·simp only[Ux,he,acQ];rfl
  ·simp only[Ux,he,acQ];rfl
 ·have e1:∀l:List (List AV),Az 1 true true l=.imm 1 true l:=fun l=>by cases l<;>rfl
  refine⟨true,true,_,_,_,e,Jg (Ae (Gw ..) (Ae (R1:=[0]) ?_ (Ae (Gw ..) (Ae (Gw ..) (Ae (R1:=[1]) ?_ (Ae aeK Ii)))))),by simp,fun c hc=>?_⟩
  ·show _=some (Az 1 true true _,_)
   rw[e1];exact tW rfl (by simp[Ux])
  ·show _=some (Az 1 true true _,_)
   rw[e1];exact tW rfl (by simp[Ux])
  ·simp only[List.mem_cons,List.not_mem_nil,or_false]at hc
   rcases hc with rfl|rfl<;>exact fun _=>⟨_,rfl⟩
theorem afV(s:Ac)(hl:s.cons.length≤1000):Vg Bl 63 [.agg s.cells] [] (avB s):=by
 refine Nj rfl Tryz.func63 rfl rfl ?_
 simp only[Tryz.f63]
 (have hb:=trivial;with_reducible repeat' (first|simp only[hb,Vc.down,seval,ac8.down,aa9]|refine Ai ?_ ?_<;>intro hb|refine fd ?_|fail))
 refine Dm (Sj 27 s.cons (fun i (zz:List Int) t h=>t 2=.ptr 1 0 0∧t 3=.ptr 2 0 0∧t 7=Az 11 false s.nn (s.cons.map Ah.cells)∧t 8=.int .i64 (s.cons.length:Nat)∧t 9=.int .i64 i∧(∃w gv bv g,h=.live 6 false false [s.cells]::.live 6 false false [[.int .i64 0,.nils,.int .i64 0,.int .i64 0,.nils,.nils]]::.live 6 false w [[.int .i64 0,gv,.int .i64 0,.int .i64 0,bv,.nils]]::g∧avM 3 zz gv bv g∧zz.length≤i)) (fun rest zz=>zz++rest.map (·.gas)) (fun r e t h=>e=.exit 0∧t 2=.ptr 1 0 0∧t 3=.ptr 2 0 0∧∃w gv bv g,h=.live 6 false false [s.cells]::.live 6 false false [[.int .i64 0,.nils,.int .i64 0,.int .i64 0,.nils,.nils]]::.live 6 false w [[.int .i64 0,gv,.int .i64 0,.int .i64 0,bv,.nils]]::g∧avM 3 r gv bv g) ?_ ?_ ([]) _ _ ?_) (fun e t h hk=>?_)
 ·rintro p t h Q' kQ ⟨h2,h3,h7,h8,h9,⟨w,gv,bv,g,rfl,hp,hpl⟩⟩
  (have hb:=trivial;with_reducible repeat' (first|simp only[hb,Vc.down,seval,ac8.down,h2,h3,h7,h8,h9,aj1,decide_false]|refine Ai ?_ ?_<;>intro hb|refine fd ?_|fail))
  exact kQ _ _ _ ⟨rfl,by simp[up,h2],by simp[up,h3],w,gv,bv,g,rfl,by simpa using hp⟩
 ·rintro x rest i p t h J Q' kJ kQ hx hi ⟨h2,h3,h7,h8,h9,⟨w,gv,bv,g,rfl,hp,hpl⟩⟩
  have hd:decide ((i:Int)<(s.cons.length:Int))=true:=decide_eq_true (by omega)
  have hw:=Ak hi (by simp[maxLen];omega)
  rcases hp with⟨rfl,rfl,rfl⟩|⟨hpn,b1,b2,rfl,rfl,hne,hg1,hg2⟩
  ·(have hb:=trivial;with_reducible repeat' (first|simp only[hb,Vc.down,seval,ac8.down,h2,h3,h7,h8,h9,hd,hx,hw,iv,aa9,Ah.cells]|refine Ai ?_ ?_<;>intro hb|((refine Hg (g.length) 3 ?_ ?_);(simp (discharger:=decide) only[Gz,Et,adG,acQ,Dv,He,Hj,Hf,Hi,Du,Es,Ew,acI,abQ];kernel_rfl);intro _)|refine lU ?_|fail))
   (refine Aq (kJ _ _ [x.gas] ⟨?_,?_,?_,?_,?_,⟨true,_,_,_,rfl,.inr ⟨by simp,g.length+2,g.length+4,rfl,rfl,by omega,by simp[iv],by simp[iv]⟩,by simp⟩⟩ ?_);(simp[up,h2]);(simp[up,h3]);(simp[up,h7]);(simp[up,h8]);(simp[up]);(simp))
  ·have hbl1:b1<g.length:=(aoK.1 hg1).1
   have hbl2:b2<g.length:=(aoK.1 hg2).1
   have hA1:=Bv hg1
   have hA2:=Bv hg2
   have hS1:=Nu hbl1
   have hS2:=Nu hbl2
   have hA3:(g.set b1 .dead)[b2]?=some (.live 1 true false ((p.map fun _=>(0:Int)).map iv)):=by rw[ak9 hne];exact hg2
   have hA4:=Bv hA3
   have hs1:aU (g.length+2) 3 (b1+3)=1000:=by unfold aU;rw[if_neg (by omega)];omega
   have hs2:aU (g.length+2) 3 (b2+3)=1000:=by unfold aU;rw[if_neg (by omega)];omega
   have hsf:∀k,2<k→aU (g.length+2) 3 (g.length+k)=k+998:=fun k hk=>by unfold aU;rw[if_neg (by omega)];omega
   have hi39:(p.length+1≤549755813888)=True:=eq_true (by omega)
   (have hb:=trivial;with_reducible repeat' (first|simp only[hb,Vc.down,seval,ac8.down,h2,h3,h7,h8,h9,hd,hx,hw,iv,aa9,Ah.cells,hA1,hA2,hA4,hS1,hS2,cM,Sz,alO,aa9,hi39]|refine Ai ?_ ?_<;>intro hb|((refine Hg (g.length+2) 3 ?_ ?_);(simp (discharger:=decide) only[Gz,Et,adG,acQ,Dv,He,Hj,Hf,Hi,Du,Es,Ew,acI,abQ,hs1,hs2,hsf];kernel_rfl);intro _)|refine lU ?_|fail))
   (refine Aq (kJ _ _ (p++[x.gas]) ⟨?_,?_,?_,?_,?_,⟨true,_,_,_,rfl,.inr ⟨by simp,g.length+2,g.length+4,by simp,by simp,by omega,by rw[avZ hbl2];simp[iv],by rw[avZ hbl2];simp[iv]⟩,by simp;omega⟩⟩ ?_);(simp[up,h2]);(simp[up,h3]);(simp[up,h7]);(simp[up,h8]);(simp[up]);(simp))
 ·exact⟨by simp[up,Dj],by simp[up,Dj],by simp[up,Dj],by simp[up,Dj],by simp[up],⟨false,.nils,.nils,[],rfl,.inl ⟨rfl,rfl,rfl⟩,by simp⟩⟩
 ·obtain⟨rfl,h2,h3,w,gv,bv,g,rfl,hp⟩:=hk
  rw[adM]at hp
  rcases hp with⟨hp0,rfl,rfl⟩|⟨hpn,b1,b2,rfl,rfl,hne,hg1,hg2⟩
  ·(have hb:=trivial;with_reducible repeat' (first|simp only[hb,Vc.down,seval,ac8.down,h2,h3]|refine Ai ?_ ?_<;>intro hb|refine fd ?_|fail))
   exact .inl ⟨an1.1 hp0,rfl,rfl⟩
  ·have hn1:(b1=b2)=False:=eq_false hne
   have hn2:(b2=b1)=False:=eq_false (fun e=>hne e.symm)
   (have hb:=trivial;with_reducible repeat' (first|simp only[hb,Vc.down,seval,ac8.down,h2,h3,hg1,hg2,hn1,hn2,aa9]|refine Ai ?_ ?_<;>intro hb|refine fd ?_|fail))
   exact .inr ⟨fun e=>hpn (by rw[e];rfl),rfl,rfl⟩
theorem alT(s:Ac)(hl:s.cons.length≤1000):∃g l,RdV Bl 63 [.agg s.cells] (.agg (Ux s g l).cells) 2:=akW (afV s hl)
def zI(d:An)(k:Nat):Au:=(d.hours[k]?).getD ⟨0,0,0,0⟩
def Fg(s:Ac)(d:An):Nat→Gh
 |0=>Ux s false false
 |k+1=>wX s d (zI d k) (Fg s d k)
def qM(s:Ac)(d:An)(k:Nat):Lx:=flw s d (zI d k) (Fg s d k)
theorem axO{s:Ac}(h1:Fj s=true):StJ s 0 (Ux s false false):=by
 have hcs:∀c∈s.cons,Ig c=true:=adK.1 (Rj h1)
 refine⟨rfl,⟨⟨by simp[Ux],fun i c hc=>?_⟩,by simp[Ux],fun i=>?_,by simp[Ux],fun t ht=>by simp[Ux]at ht,by simp[Ux]⟩,by simp[Ux]⟩
 ·have h:=hcs c (List.mem_of_getElem? hc)
  simp only[Ig,Gp,acL,decide_eq_true_eq]at h
  have e:gI (Ux s false false).gas i=c.gas:=by
   unfold gI Ux
   simp[hc]
  rw[e];exact h.1.2
 ·have e:gI (Ux s false false).bills i=0:=by
   unfold gI Ux
   simp only[aoL]
   cases s.cons[i.toNat]?<;>rfl
  rw[e];omega
theorem sU{s:Ac}(h1:Fj s=true){d:An}(h3:Kz s.cons.length d=true):∀k,k≤d.hours.length→StJ s k (Fg s d k)
 |0,_=>axO h1
 |k+1,h=>by
  have hz:d.hours[k]?=some (zI d k):=by unfold zI;rw[aoB (by omega)];rfl
  exact(cO h1 h3 (sU h1 h3 k (by omega)) hz).1
def gJ(s:Ac)(d:An)(F:List Lx):Prop:=∀j f,F[j]?=some f→∃w a l r,f=(qM s d j).as w a l r
theorem gJ.snoc{s:Ac}{d:An}{F:List Lx}(h:gJ s d F){i:Nat}(hi:F.length=i)(w a l r:Bool):gJ s d (F++[(qM s d i).as w a l r]):=fun j f hf=>by
 by_cases hj:j<F.length
 ·rw[adJ hj]at hf;exact h j f hf
 ·rw[adL (by omega)]at hf
  have:j-F.length=0:=by
   by_cases h0:j-F.length=0
   ·exact h0
   ·rw[List.getElem?_eq_none (by simp;omega)]at hf;cases hf
  rw[this]at hf
  simp at hf;subst hf
  obtain rfl:j=i:=by omega
  exact⟨w,a,l,r,rfl⟩
def aaG(s:Ac)(d:An)(i:Nat)(bx:Nat)(ov:AV)(h:Aa):Prop:=
 ∃xc Rx rows Ro g l o F,aaP s.cells d.cells bx ov h xc ((Fg s d i).as g l o).cells Rx rows (F.map Lx.cells) Ro∧gJ s d F∧F.length=i∧rows.length=i∧Rx.length≤7∧Ro.length≤7*i
def akC(s:Ac)(d:An)(X:AV)(Y:AV):Prop:=∃g l o F,X=.agg ((Fg s d d.hours.length).as g l o).cells∧Y=Az 4 false false (F.map Lx.cells)∧gJ s d F∧F.length=d.hours.length
theorem Vl{g:HF}{xc:List AV}{y:Gh}{R:List Nat}(h:Nn (rd 5 g) xc=some (y.cells,R)):∃gv bv ov,xc=[.int .i64 y.hour,gv,.int .i64 y.own,.int .i64 y.fuel,bv,ov]∧(gv.isCell=true∧gv.flat=false)∧(bv.isCell=true∧bv.flat=false)∧(ov.isCell=true∧ov.flat=false):=by
 obtain⟨a0,l0,R0,R0',rfl,k0,h,_⟩:=Em h
 obtain⟨a1,l1,R1,R1',rfl,k1,h,_⟩:=Em h
 obtain⟨a2,l2,R2,R2',rfl,k2,h,_⟩:=Em h
 obtain⟨a3,l3,R3,R3',rfl,k3,h,_⟩:=Em h
 obtain⟨a4,l4,R4,R4',rfl,k4,h,_⟩:=Em h
 obtain⟨a5,l5,R5,R5',rfl,k5,h,_⟩:=Em h
 obtain⟨rfl,_⟩:=cS h
 obtain⟨rfl,_⟩:=lE k0
 obtain⟨rfl,_⟩:=lE k2
 obtain⟨rfl,_⟩:=lE k3
 exact⟨a1,a4,a5,rfl,aN k1,aN k4,aN k5⟩
theorem yT{g:HF}{fc:List AV}{y:Lx}{R:List Nat}(h:Nn (rd 5 g) fc=some (y.cells,R)):∃a b c d,fc=[a,b,c,d]∧(a.isCell=true∧a.flat=false)∧(b.isCell=true∧b.flat=false)∧(c.isCell=true∧c.flat=false)∧(d.isCell=true∧d.flat=false):=by
 obtain⟨a0,l0,R0,R0',rfl,k0,h,_⟩:=Em h
 obtain⟨a1,l1,R1,R1',rfl,k1,h,_⟩:=Em h
 obtain⟨a2,l2,R2,R2',rfl,k2,h,_⟩:=Em h
 obtain⟨a3,l3,R3,R3',rfl,k3,h,_⟩:=Em h
 obtain⟨rfl,_⟩:=cS h
 exact⟨a0,a1,a2,a3,rfl,aN k0,aN k1,aN k2,aN k3⟩
theorem aaG.call{s:Ac}{d:An}{i bx:Nat}{ov:AV}{h:Aa}{f:Nat}(I:aaG s d i bx ov h){z:Au}(hz:d.hours[i]?=some z)
 (C:∀g l o,∃g' l' o' w a fl r,RdT Bl f [.agg s.cells,.agg ((Fg s d i).as g l o).cells,.agg d.cells] [.agg ((wX s d z (Fg s d i)).as g' l' o').cells,.agg ((flw s d z (Fg s d i)).as w a fl r).cells] 7):
 ∃gv bv ow w es H1 gv' bv' ow' a b c e,h[bx]?=some (.live 6 false w [[.int .i64 (Fg s d i).hour,gv,.int .i64 (Fg s d i).own,.int .i64 (Fg s d i).fuel,bv,ow]])∧
  h[0]?=some (.live 6 false false [s.cells])∧h[1]?=some (.live 3 false false [d.cells])∧
  cl Bl h (some (.func (.func f) [] [])) (some [.agg s.cells,.agg [.int .i64 (Fg s d i).hour,gv,.int .i64 (Fg s d i).own,.int .i64 (Fg s d i).fuel,bv,ow],.agg d.cells])=
   some (.ret (.tup [.agg [.int .i64 (Fg s d (i+1)).hour,gv',.int .i64 (Fg s d (i+1)).own,.int .i64 (Fg s d (i+1)).fuel,bv',ow'],.agg [a,b,c,e]]),es)∧Ar h es=H1∧
  (gv'.isCell=true∧gv'.flat=false)∧(bv'.isCell=true∧bv'.flat=false)∧(ow'.isCell=true∧ow'.flat=false)∧(a.isCell=true∧a.flat=false)∧(b.isCell=true∧b.flat=false)∧(c.isCell=true∧c.flat=false)∧(e.isCell=true∧e.flat=false)∧
  bx<H1.length∧3≤bx∧(∃w,H1[bx]?=some (.live 6 false w [[.int .i64 (Fg s d i).hour,gv,.int .i64 (Fg s d i).own,.int .i64 (Fg s d i).fuel,bv,ow]]))∧(∃rows,rows.length=i∧Ep 0 4 false rows ov H1∧(∀st m r n,ov=.slr st m r n→3≤m∧m≠bx∧m<H1.length)∧
   ∀x y u:CB,aaG s d (i+1) bx (.slr 4 (H1.length+3) 0 (i+1)) (kl 0 ov (H1.set bx (.live 6 false true [[.int .i64 (Fg s d (i+1)).hour,gv',.int .i64 (Fg s d (i+1)).own,.int .i64 (Fg s d (i+1)).fuel,bv',ow']]))++[x,y,u,.live 4 false false (rows++[[a,b,c,e]])])):=by
 obtain⟨xc,Rx,rows,Ro,g,l,o,F,I,hF,hFl,hrl,hRx,hRo⟩:=I
 obtain⟨g',l',o',w,a,fl,r,K⟩:=C g l o
 have hk:zI d i=z:=by unfold zI;rw[hz];rfl
 obtain⟨gv,bv,ow,rfl,_,_,_⟩:=Vl I.x
 obtain⟨wx,hbx⟩:=I.bxw
 have hx6:rd 6 (hf h) (.agg [.int .i64 (Fg s d i).hour,gv,.int .i64 (Fg s d i).own,.int .i64 (Fg s d i).fuel,bv,ow])=some (.agg ((Fg s d i).as g l o).cells,Rx):=Jg I.x
 have hv:bL h (.agg [.int .i64 (Fg s d i).hour,gv,.int .i64 (Fg s d i).own,.int .i64 (Fg s d i).fuel,bv,ow])=some (.agg ((Fg s d i).as g l o).cells):=Ue (show 6≤12 by omega) hx6
 have hs:bL h (.agg s.cells)=some (.agg s.cells):=Hk _ (d:=8) (by omega) (by simp[Ac.cells,Jt,Qc,Da])
 have hd:bL h (.agg d.cells)=some (.agg d.cells):=Hk _ (d:=8) (by omega) (by simp[An.cells,Jt,Da])
 obtain⟨outs,es,H1,R,e1,e2,e3,e4,e5,e6⟩:=K.cl (H:=h) (args:=[.agg s.cells,.agg [.int .i64 (Fg s d i).hour,gv,.int .i64 (Fg s d i).own,.int .i64 (Fg s d i).fuel,bv,ow],.agg d.cells]) rfl
  (by simp only[Na,Py,hs,hv,hd,Jp]) (by simp[Jt,Qc,Da])
 obtain⟨v1,l1,R1,R1',rfl,k1,h1,rfl⟩:=Em e4
 obtain⟨v2,l2,R2,R2',rfl,k2,h2,rfl⟩:=Em h1
 obtain⟨rfl,rfl⟩:=cS h2
 obtain⟨xc',rfl,hx'⟩:=pI k1
 obtain⟨fc',rfl,hf'⟩:=pI k2
 obtain⟨gv',bv',ow',rfl,p1,p2,p3⟩:=Vl hx'
 obtain⟨f1,f2,f3,f4,rfl,p4,p5,p6,p7⟩:=yT hf'
 have hl:∀b∈[AV.agg s.cells,.agg [.int .i64 (Fg s d i).hour,gv,.int .i64 (Fg s d i).own,.int .i64 (Fg s d i).fuel,bv,ow],.agg d.cells].flatMap (Aw 12 (hf h)),b∈Rx:=fun b hb=>by
  rw[acR,acR,acR,adO,Gg (d:=8) (v:=.agg s.cells) _ (by omega) (by simp[Ac.cells,Jt,Qc,Da]),Gg (d:=8) (v:=.agg d.cells) _ (by omega) (by simp[An.cells,Jt,Da]),adM,adP,adP]at hb
  exact cY hx6 b hb
 obtain⟨c0,c1,c2,c3,hbl,c4⟩:=I.call e3 hl
 have hle:=e3.len
 have en:∀g l o,((wX s d z (Fg s d i)).as g l o).cells=((Fg s d (i+1)).as g l o).cells:=fun g l o=>by show _=((wX s d (zI d i) (Fg s d i)).as g l o).cells;rw[hk]
 have ef:(flw s d z (Fg s d i)).as w a fl r=(qM s d i).as w a fl r:=by unfold qM;rw[hk]
 rw[en]at hx'
 have e0:wX s d z (Fg s d i)=Fg s d (i+1):=by show _=wX s d (zI d i) (Fg s d i);rw[hk]
 refine⟨gv,bv,ow,wx,es,H1,gv',bv',ow',f1,f2,f3,f4,hbx,I.b0,I.b1,by rw[←e0];exact e1,e2,p1,p2,p3,p4,p5,p6,p7,by omega,I.bx3,⟨wx,by rw[c3];exact hbx⟩,rows,hrl,c4,fun st m r n e=>?_,fun x y u=>?_⟩
 ·obtain⟨q1,q2,_,q3⟩:=I.dov st m r n e
  exact⟨q1,q2,by omega⟩
 ·have N:=I.next e3 hl (xc':=[.int .i64 (Fg s d (i+1)).hour,gv',.int .i64 (Fg s d (i+1)).own,.int .i64 (Fg s d (i+1)).fuel,bv',ow']) (by rw[←e0]at hx' ⊢;exact hx') hf' (fun b hb=>e6 b (by simpa using hb)) x y u rfl (n:=i+1) (by rw[hrl])
  refine⟨[.int .i64 (Fg s d (i+1)).hour,gv',.int .i64 (Fg s d (i+1)).own,.int .i64 (Fg s d (i+1)).fuel,bv',ow'],R1,rows++[[f1,f2,f3,f4]],Ro++R2,g',l',o',F++[(qM s d i).as w a fl r],?_,hF.snoc hFl w a fl r,by simp[hFl],by simp[hrl],?_,?_⟩
  ·rw[List.map_append,adG,acQ,←ef];rw[e0]at N;exact N
  ·simp only[acV]at e5;omega
  ·simp only[acV,abQ]at e5 ⊢;omega
theorem jX(lead:Int)(l:List Bq)(c h:Int):∀(X Y:List Bq) (i:Nat) (o:Int),Ed lead l c h (X++Y) (i,o)=Ed lead l c h Y (i+X.length,Ed lead l c h X (i,o))
 | [],Y,i,o=>rfl
 |n::X,Y,i,o=>by
  show Ed lead l c h (X++Y) (i+1,_)=_
  rw[jX lead l c h X Y]
  show Ed lead l c h Y (i+1+X.length,_)=Ed lead l c h Y (i+(X.length+1),_)
  rw[show i+1+X.length=i+(X.length+1) by omega];rfl
def ins(k:Nat)(o:Int):Int:=if o<k then o else o+1
theorem yS(A B:List Bq)(n:Bq){o:Int}(h0:0≤o):(A++n::B)[(ins A.length o).toNat]?=(A++B)[o.toNat]?:=by
 unfold ins
 split
 ·rw[adJ (by omega),adJ (by omega)]
 ·rw[adL (by omega),adL (by omega),show(o+1).toNat-A.length=(o.toNat-A.length)+1 by omega,List.getElem?_cons_succ]
theorem tM(A B:List Bq)(n:Bq){o:Int}(h0:0≤o):eA (A++n::B) (ins A.length o)=eA (A++B) o:=by
 unfold eA;rw[yS A B n h0]
theorem an4(lead:Int)(A B:List Bq)(late:Bq)(c h:Int):∀(rest:List Bq) (i:Nat) (o:Int),A.length≤i→ -1≤o→o<i→
 Ed lead (A++late::B) c h rest (i+1,ins A.length o)=ins A.length (Ed lead (A++B) c h rest (i,o))
 | [],i,o,_,_,_=>rfl
 |n::rest,i,o,hA,ho,hi=>by
  have e:Ks lead (A++late::B) c h n (i+1) (ins A.length o)=ins A.length (Ks lead (A++B) c h n i o):=by
   have ei:ins A.length (i:Int)=((i+1:Nat):Int):=by unfold ins;rw[if_neg (by omega)];simp
   have eo:decide (ins A.length o<0)=decide (o<0):=by rw[decide_eq_decide];unfold ins;split<;>omega
   unfold Ks
   rw[eo]
   by_cases h0:0≤o
   ·rw[tM A B late h0]
    split
    ·exact ei.symm
    ·rfl
   ·have:decide (o<0)=true:=decide_eq_true (by omega)
    rw[this,ajY,ajY]
    split
    ·exact ei.symm
    ·rfl
  show Ed lead _ c h rest (i+1+1,Ks lead _ c h n (i+1) (ins A.length o))=ins A.length (Ed lead _ c h rest (i+1,Ks lead _ c h n i o))
  rw[e]
  have hr: -1≤Ks lead (A++B) c h n i o∧Ks lead (A++B) c h n i o<((i+1:Nat):Int):=by
   unfold Ks;split<;>omega
  exact an4 lead A B late c h rest (i+1) _ (by omega) hr.1 hr.2
theorem aoI(lead:Int)(A B:List Bq)(late:Bq)(c h:Int):∀(rest:List Bq) (i:Nat) (o:Int),i+rest.length≤A.length→ -1≤o→o<i→
 Ed lead (A++late::B) c h rest (i,o)=Ed lead (A++B) c h rest (i,o)∧ -1≤Ed lead (A++B) c h rest (i,o)∧Ed lead (A++B) c h rest (i,o)<(i+rest.length:Nat)
 | [],i,o,_,ho,hi=>⟨rfl,ho,hi⟩
 |n::rest,i,o,hA,ho,hi=>by
  simp only[acI]at hA
  have e:Ks lead (A++late::B) c h n i o=Ks lead (A++B) c h n i o:=by
   unfold Ks
   by_cases h0:0≤o
   ·have q:=tM A B late h0
    rw[show ins A.length o=o by unfold ins;rw[if_pos (by omega)]]at q
    rw[q]
   ·have:decide (o<0)=true:=decide_eq_true (by omega)
    rw[this,ajY,ajY]
  have hr: -1≤Ks lead (A++B) c h n i o∧Ks lead (A++B) c h n i o<((i+1:Nat):Int):=by
   unfold Ks;split<;>omega
  obtain⟨k1,k2,k3⟩:=aoI lead A B late c h rest (i+1) _ (by omega) hr.1 hr.2
  show Ed lead _ c h rest (i+1,Ks lead _ c h n i o)=Ed lead _ c h rest (i+1,Ks lead _ c h n i o)∧_≤Ed lead _ c h rest (i+1,Ks lead _ c h n i o)∧Ed lead _ c h rest (i+1,Ks lead _ c h n i o)<_
  rw[e]
  exact⟨k1,k2,by simp only[acI];omega⟩
theorem afL{lead:Int}{A B:List Bq}{late:Bq}(hl:late.hour<late.sent+lead)(hw:IntKind.i64.wrap (late.sent+lead)=late.sent+lead)(c h:Int):
 Ed lead (A++late::B) c h (A++late::B) (0,-1)=ins A.length (Ed lead (A++B) c h (A++B) (0,-1))∧ -1≤Ed lead (A++B) c h (A++B) (0,-1):=by
 obtain⟨k1,k2,k3⟩:=aoI lead A B late c h A 0 (-1) (by simp) (by omega) (by simp)
 rw[Nat.zero_add]at k3
 rw[jX,jX,k1,Nat.zero_add]
 have e:Ks lead (A++late::B) c h late A.length (Ed lead (A++B) c h A (0,-1))=Ed lead (A++B) c h A (0,-1):=by
  unfold Ks
  rw[hw,if_neg]
  intro hcon
  simp only[acL,beq_iff_eq,decide_eq_true_eq]at hcon
  omega
 have ei:ins A.length (Ed lead (A++B) c h A (0,-1))=Ed lead (A++B) c h A (0,-1):=by unfold ins;rw[if_pos k3]
 refine⟨?_,?_⟩
 ·show Ed lead _ c h B (A.length+1,Ks lead _ c h late A.length _)=_
  rw[e]
  have:=an4 lead A B late c h B A.length (Ed lead (A++B) c h A (0,-1)) (Nat.le_refl _) k2 k3
  rw[ei]at this
  exact this
 ·have low:∀(rest:List Bq) (i:Nat) (o:Int),-1≤o→ -1≤Ed lead (A++B) c h rest (i,o):=fun rest=>by
   induction rest with
   |nil=>exact fun _ _ h=>h
   |cons n rest ih=>
    intro i o ho
    exact ih (i+1) _ (by show -1≤Ks _ _ _ _ _ _ _;unfold Ks;split<;>omega)
  exact low _ _ _ k2
def more(d:An)(A B:List Bq)(late:Bq):An:={ d with nn:=true,noms:=A++late::B }
theorem akQ{s:Ac}{d:An}{A B:List Bq}{late:Bq}(hd:d.noms=A++B)(hl:late.hour<late.sent+s.lead)(hw:IntKind.i64.wrap (late.sent+s.lead)=late.sent+s.lead)(hr:Int)(G L:List Int)(O:List Ab):
 W3 s (more d A B late) hr G L O=W3 s d hr G L O:=by
 have e:Bn s (more d A B late) hr (T2 s d hr G L O).1=Bn s d hr (T2 s d hr G L O).1:=by
  funext i c a
  unfold Bn
  obtain⟨k1,k2⟩:=afL (A:=A) (B:=B) hl hw (i:Int) hr
  show(if Gp hr c.lo c.hi=true then if Ed s.lead (A++late::B) i hr (A++late::B) (0,-1)<0 then a else sI a i (fZ c (Rr (A++late::B) (Ed s.lead (A++late::B) i hr (A++late::B) (0,-1))) (gI (T2 s d hr G L O).1 i))else a)=_
  rw[hd,k1]
  by_cases h0:Ed s.lead (A++B) i hr (A++B) (0,-1)<0
  ·rw[if_pos h0,if_pos (show ins A.length (Ed s.lead (A++B) i hr (A++B) (0,-1))<0 by unfold ins;split<;>omega)]
  ·rw[if_neg h0,if_neg (show ¬ins A.length (Ed s.lead (A++B) i hr (A++B) (0,-1))<0 by unfold ins;split<;>omega)]
   unfold Rr
   rw[yS A B late (by omega)]
 show It (Bn s (more d A B late) hr (T2 s d hr G L O).1) s.cons 0 _=It (Bn s d hr (T2 s d hr G L O).1) s.cons 0 _
 rw[e]
theorem jM{s:Ac}{d:An}{A B:List Bq}{late:Bq}(hd:d.noms=A++B)(hl:late.hour<late.sent+s.lead)(hw:IntKind.i64.wrap (late.sent+s.lead)=late.sent+s.lead)(z:Au)(y:Gh):
 wX s (more d A B late) z y=wX s d z y∧flw s (more d A B late) z y=flw s d z y:=by
 have w:=fun hr G L O=>akQ (d:=d) hd hl hw hr G L O
 have a:∀hr G L O,A4 s (more d A B late) hr z G L O=A4 s d hr z G L O:=fun hr G L O=>by unfold A4;rw[w]
 have f:∀hr G L O,F5 s (more d A B late) hr z G L O=F5 s d hr z G L O:=fun hr G L O=>by unfold F5;rw[a]
 have t:∀hr G L O,T2 s (more d A B late) hr G L O=T2 s d hr G L O:=fun _ _ _ _=>rfl
 have g:∀hr G L O fu,G6 s (more d A B late) hr z G L O fu=G6 s d hr z G L O fu:=fun hr G L O fu=>by unfold G6;rw[f,t]
 have o:∀hr G L O ow,Xp s (more d A B late) hr z G L O ow=Xp s d hr z G L O ow:=fun hr G L O ow=>by unfold Xp;rw[a]
 have l:∀hr G L O,L7 s (more d A B late) hr z G L O=L7 s d hr z G L O:=fun hr G L O=>by unfold L7;rw[f,w,a]
 exact⟨by unfold wX;rw[g,o,l,t],by unfold flw;rw[w,a,f,t]⟩
theorem qO{s:Ac}{d:An}{A B:List Bq}{late:Bq}(hd:d.noms=A++B)(hl:late.hour<late.sent+s.lead)(hw:IntKind.i64.wrap (late.sent+s.lead)=late.sent+s.lead):
 ∀k,Fg s (more d A B late) k=Fg s d k∧qM s (more d A B late) k=qM s d k
 |0=>⟨rfl,(jM hd hl hw _ _).2⟩
 |k+1=>by
  have e:Fg s (more d A B late) (k+1)=Fg s d (k+1):=by
   show wX s (more d A B late) (zI d k) (Fg s (more d A B late) k)=wX s d (zI d k) (Fg s d k)
   rw[(qO hd hl hw k).1,(jM hd hl hw _ _).1]
  refine⟨e,?_⟩
  show flw s (more d A B late) (zI d (k+1)) (Fg s (more d A B late) (k+1))=flw s d (zI d (k+1)) (Fg s d (k+1))
  rw[e,(jM hd hl hw _ _).2]
theorem _root_.Go.Ev.Ep.setx{st:Nat}{fl:Bool}{rows:List (List AV)}{v:AV}{g:Aa}{bx n:Nat}(h:Ep 0 st fl rows v g)(hov:∀a m r k,v=.slr a m r k→3≤m∧m≠bx∧m<n)(c:CB):Ep 0 st fl rows v (g.set bx c):=by
 rcases h with h|⟨b,w,h1,h2⟩
 ·exact .inl h
 ·exact .inr ⟨b,w,h1,by rw[ak9 (fun e=>(hov _ _ _ _ h1).2.1 (by omega))];exact h2⟩
theorem aoM{s:Ac}{d:An}(hs:s.small)(hd:d.small)(v1:Fj s=true)(v3:Kz s.cons.length d=true):
 ∃X Y,akC s d X Y∧RdT Bl 25 [.agg s.cells,.agg d.cells] [X,Y,.int .i64 0] 400:=by
 suffices k:Vg Bl 25 [.agg s.cells,.agg d.cells] [] fun o h'=>∃X Y outs R,akC s d X Y∧o=.ret (.tup outs)∧Nn (rd 6 (hf h')) outs=some ([X,Y,.int .i64 0],R)∧R.length≤400∧∀c∈h',Rnm c by
  obtain⟨o,h',e,X,Y,outs,R,hq,r⟩:=k
  exact⟨X,Y,hq,RdT.of ⟨o,h',e,outs,R,r⟩⟩
 have c1:=zS s hs
 have c2:=atT d hd s.cons.length
 rw[v1]at c1
 rw[v3]at c2
 obtain⟨nG,nL,K⟩:=alT s (by have:=(Ss v1).len;omega)
 have hD:d.hours.length≤48:=by
  simp only[Kz,acL,decide_eq_true_eq]at v3;exact v3.1.1.1.1.1
 have HB:Aa:=[]
 obtain⟨v,es,H1,R,e1,e2,e3,e4,e5,e6⟩:=K.cl (H:=[.live 6 false false [s.cells],.live 3 false false [d.cells],.live 6 false false [[.int .i64 0,.nils,.int .i64 0,.int .i64 0,.nils,.nils]]]) (args:=[.agg s.cells]) rfl
  (by
    have hs:bL [.live 6 false false [s.cells],.live 3 false false [d.cells],.live 6 false false [[.int .i64 0,.nils,.int .i64 0,.int .i64 0,.nils,.nils]]] (.agg s.cells)=some (.agg s.cells):=Hk _ (d:=8) (by omega) (by simp[Ac.cells,Jt,Qc,Da])
    simp only[Na,Py,hs,Jp]) (by simp[Jt,Qc,Da])
 obtain⟨xc,rfl,hx⟩:=pI e4
 obtain⟨gv,bv,ov,rfl,⟨p1,p1'⟩,⟨p2,p2'⟩,⟨p3,p3'⟩⟩:=Vl hx
 obtain⟨q,hq⟩:∃q,Fn.func 63=q:=⟨_,rfl⟩
 obtain⟨q2,hq2⟩:∃q,Fn.func 64=q:=⟨_,rfl⟩
 rw[hq]at e1
 have lent0:[AV.agg s.cells].flatMap (Aw 12 (hf [.live 6 false false [s.cells],.live 3 false false [d.cells],.live 6 false false [[.int .i64 0,.nils,.int .i64 0,.int .i64 0,.nils,.nils]]]))=[]:=by
  rw[acR,adO,Gg (d:=8) (v:=.agg s.cells) _ (by omega) (by simp[Ac.cells,Jt,Qc,Da])];rfl
 rw[lent0]at e3
 have b0:H1[0]?=some (.live 6 false false [s.cells]):=e3.same 0 (by simp) (by simp)
 have b1:H1[1]?=some (.live 3 false false [d.cells]):=e3.same 1 (by simp) (by simp)
 have b2:H1[2]?=some (.live 6 false false [[.int .i64 0,.nils,.int .i64 0,.int .i64 0,.nils,.nils]]):=e3.same 2 (by simp) (by simp)
 have hle:3≤H1.length:=e3.len
 have g1:=Bv b1
 have P0:∀w,aaG s d 0 H1.length .nils (H1++[.live 6 false w [[.int .i64 (Ux s nG nL).hour,gv,.int .i64 (Ux s nG nL).own,.int .i64 (Ux s nG nL).fuel,bv,ov]]]):=fun w=>
  ⟨_,R,[],[],nG,nL,false,[],⟨Bv b0 _,g1 _,Bv b2 _,hle,⟨w,by rw[adL (by omega),Nat.sub_self];rfl⟩,Zu hx (fun j hj z hz=>by
     show((H1++_)[j]?).bind Bw=_
     rw[adJ (eC (by omega) hx j hj)];exact hz),Ep.nil ..,fun _=>rfl,rfl,fun j hj=>by
     have a:=e6 j (by simpa using hj)
     have b:=eC (by omega) hx j (by simpa using hj)
     simp at a;omega,fun _ _ _ _ e=>by cases e⟩,fun j f hf=>by simp at hf,rfl,rfl,by omega,by simp⟩
 refine Nj rfl Tryz.func25 rfl rfl ?_
 simp only[Tryz.f25]
 refine Fe (fun KK iN hK=>?_)
 simp only[An.cells]at c2
 (have hb:=trivial;with_reducible repeat' (first|simp only[hb,Vc.down,seval,aeI.down,An.cells,c1,c2,hq,e1,e2,g1,aa9,p1,p2,p3,p1',p2',p3',adQ,aeY,ae4,ajX]|refine Ai ?_ ?_<;>intro hb|refine fd ?_|fail))
 refine Dm (Sj 45 d.hours (fun i (_:Unit) t h=>t 2=.ptr 0 0 0∧t 3=.ptr 1 0 0∧t 4=.ptr 2 0 0∧t 7=.ptr H1.length 0 0∧t 27=.int .i64 (d.hours.length:Nat)∧t 28=.int .i64 i∧aaG s d i H1.length (t 8) h) (fun _ _=>())
  (fun _ e t h=>e=.exit 0∧t 4=.ptr 2 0 0∧t 7=.ptr H1.length 0 0∧aaG s d d.hours.length H1.length (t 8) h) ?_ ?_ () _ _ ?_) (fun e t h hk=>?_)
 ·rintro _ t h Q' kQ ⟨h2,h3,h4,h7,h27,h28,hP⟩
  (have hb:=trivial;with_reducible repeat' (first|simp only[hb,Vc.down,seval,aeI.down,h27,h28,aj1,decide_false]|refine Ai ?_ ?_<;>intro hb|refine fd ?_|fail))
  exact kQ _ _ _ ⟨rfl,by simp[up,h4],by simp[up,h7],by simpa [up]using hP⟩
 ·rintro z rest i _ t h J Q' kJ kQ hx hi ⟨h2,h3,h4,h7,h27,h28,hP⟩
  have hdd:decide ((i:Int)<(d.hours.length:Int))=true:=decide_eq_true (by omega)
  have hw:=Ak hi (by unfold maxLen;omega)
  obtain⟨xv,h8⟩:∃xv,t 8=xv:=⟨_,rfl⟩
  rw[h8]at hP
  obtain⟨gv,bv,ow,w,es,H2,gv',bv',ow',a,b,c,e,hbx,hb0,hb1,ec,eh,⟨p1,p1'⟩,⟨p2,p2'⟩,⟨p3,p3'⟩,⟨p4,p4'⟩,⟨p5,p5'⟩,⟨p6,p6'⟩,⟨p7,p7'⟩,hbl,hb3,⟨w2,hbx2⟩,rows,hrl,hown,hov,hN⟩:=hP.call hx (fun g l o=>alZ v1 v3 ((sU v1 v3 i (by omega)).of rfl rfl rfl rfl rfl rfl) hx)
  rw[hq2]at ec
  have hA:=Bv hbx2
  have hS:=Nu hbl
  have ho2:=hown.setx hov (.live 6 false true [[.int .i64 (Fg s d (i+1)).hour,gv',.int .i64 (Fg s d (i+1)).own,.int .i64 (Fg s d (i+1)).fuel,bv',ow']])
  have hap:=fun(q:Aa) (r:List AV)=>qA ho2 (pre:=[]) rfl q r [] (by simp;omega)
  have hhp:=fun(q:Aa) (r:List (List AV)) (ba:Nat)=>iW ho2 (pre:=[]) rfl q 4 false r ba
  simp only[adM,acI,acV,abQ,alO,Nat.reduceAdd,hrl]at hap hhp
  simp only[An.cells]at ec hb1
  (have hb:=trivial;with_reducible repeat' (first|simp only[hb,Vc.down,seval,aeI.down,h2,h3,h7,h8,h27,h28,hdd,hw,hq2,hb0,hb1,hbx,ec,eh,hA,hS,cM,Sz,alO,hap,hhp,p1,p2,p3,p1',p2',p3',p4,p5,p6,p7,p4',p5',p6',p7',adQ,aeY,ae4,ajX]|refine Ai ?_ ?_<;>intro hb|refine fd ?_|fail))
  refine Aq (kJ _ _ () ⟨by simp[up,h2],by simp[up,h3],by simp[up,h4],by simp[up,h7],by simp[up,h27],by simp[up],?_⟩ rfl)
  exact hN _ _ _
 ·exact⟨by simp[up,Dj],by simp[up,Dj],by simp[up,Dj],by simp[up],by simp[up],by simp[up],P0 _⟩
 ·obtain⟨rfl,h4,h7,xc,Rx,rows,Ro,g,l,o,F,I,hF,hFl,hrl,hRx,hRo⟩:=hk
  obtain⟨xv,h8⟩:∃xv,t 8=xv:=⟨_,rfl⟩
  rw[h8]at I
  obtain⟨gv,bv,ow,rfl,⟨p1,p1'⟩,⟨p2,p2'⟩,⟨p3,p3'⟩⟩:=Vl I.x
  obtain⟨w,hbx⟩:=I.bxw
  have hb2:=I.b2
  have hs2:∀c,(h.set 2 c)[2]?=some c:=fun c=>List.getElem?_set_self (Gu I.b2)
  (have hb:=trivial;with_reducible repeat' (first|simp only[hb,Vc.down,seval,aeI.down,h4,h7,h8,hbx,hb2,hs2,p1,p2,p3,p1',p2',p3',adQ,aeY,ae4,ajX]|refine Ai ?_ ?_<;>intro hb|refine fd ?_|fail))
  have agr:∀(R:List Nat) c,(∀j∈R,3≤j)→Agr R (hf h) (hf (h.set 2 c)):=fun R c hR j hj z hz=>by
   show((h.set 2 c)[j]?).bind Bw=_
   rw[ak9 (by have:=hR j hj;omega)];exact hz
  have own:=I.own.setx (bx:=2) (n:=h.length) (fun a m r k e=>by obtain⟨q1,_,_,q2⟩:=I.dov a m r k e;exact⟨q1,by omega,q2⟩) (.live 6 false true [[.int .i64 ((Fg s d d.hours.length).as g l o).hour,gv,.int .i64 ((Fg s d d.hours.length).as g l o).own,.int .i64 ((Fg s d d.hours.length).as g l o).fuel,bv,ow]])
  obtain⟨R2,r1,r2⟩:=ap1 (d:=5) own (bA I.q (agr _ _ fun j hj=>(I.dx j (aoC _ hj)).1)) I.nil
  refine hK _ ?_
  rw[af6]
  refine ao9 (vs:=[.agg [.int .i64 ((Fg s d d.hours.length).as g l o).hour,gv,.int .i64 ((Fg s d d.hours.length).as g l o).own,.int .i64 ((Fg s d d.hours.length).as g l o).fuel,bv,ow],xv,.int .i64 0]) ?_ (akN (Ae (Jg (Zu I.x (agr _ _ fun j hj=>(I.dx j (ajZ _ hj)).1))) (Ae r1 (Ae (Gw ..) Ii))) ?_ rfl fun outs h' R' k1 k2 k3=>⟨_,_,outs,R',⟨g,l,o,F,rfl,rfl,hF,hFl⟩,rfl,k1,?_,k3⟩)
  ·simp only[Vc.down,seval,aeI.down,h4,hs2]
  ·simp only[acV,abQ]at r2 ⊢;omega
  ·rw[k2];simp only[acV,abQ]at r2 ⊢;omega
theorem anY(H:Aa)(s:Ac):bL H (.agg s.cells)=some (.agg s.cells):=Hk _ (d:=8) (by omega) (by simp[Ac.cells,Jt,Qc,Da])
theorem au5(H:Aa)(d:An):bL H (.agg d.cells)=some (.agg d.cells):=Hk _ (d:=8) (by omega) (by simp[An.cells,Jt,Da])
theorem apH(H:Aa)(s:Ac)(d:An):As (bL H) [.agg s.cells,.agg d.cells]=some [.agg s.cells,.agg d.cells]:=by simp only[Na,Py,anY,au5,Jp]
theorem afZ(s:Ac)(d:An):[AV.agg s.cells,AV.agg d.cells].all (Ba 8)=true:=by simp[Ac.cells,An.cells,Jt,Qc,Da]
theorem anQ(g:HF)(s:Ac)(d:An):[AV.agg s.cells,AV.agg d.cells].flatMap (Aw 12 g)=[]:=by
 rw[acR,acR,adO,Gg (d:=8) (v:=.agg s.cells) _ (by omega) (by simp[Ac.cells,Jt,Qc,Da]),Gg (d:=8) (v:=.agg d.cells) _ (by omega) (by simp[An.cells,Jt,Da])];rfl
theorem akC.got{s:Ac}{d:An}{X Y:AV}(hq:akC s d X Y){H:Aa}{a b:AV}{l:List AV}{R:List Nat}{xs:List AV}(h:Nn (rd 6 (hf H)) (a::b::l)=some (X::Y::xs,R)):
 ∃xc g l' o F R1 R2,a=.agg xc∧Nn (rd 5 (hf H)) xc=some (((Fg s d d.hours.length).as g l' o).cells,R1)∧rd 6 (hf H) b=some (Az 4 false false (F.map Lx.cells),R2)∧gJ s d F∧F.length=d.hours.length∧(∀j∈R1,j∈R)∧(∀j∈R2,j∈R):=by
 obtain⟨g,l',o,F,rfl,rfl,hF,hFl⟩:=hq
 obtain⟨a0,l0,R0,R0',e0,k0,h2,rfl⟩:=Em h
 obtain⟨a1,l1,R1,R1',e1,k1,h3,rfl⟩:=Em h2
 cases e0;cases e1
 obtain⟨xc,rfl,hx⟩:=pI k0
 exact⟨xc,g,l',o,F,R0,R1,rfl,hx,k1,hF,hFl,fun j hj=>ajZ _ hj,fun j hj=>aoC _ (ajZ _ hj)⟩
theorem aaB{s:Ac}{d:An}{H:Aa}{v:AV}{F:List Lx}{R:List Nat}{n i:Nat}(h:rd 6 (hf H) v=some (Az 4 false false (F.map Lx.cells),R))(hF:gJ s d F)(hn:F.length=n)(hi:i<n):
 ∃b x1 x2 x3 x4 f,v=.slr 4 b 0 n∧Nl (H[b]?) i=some [x1,x2,x3,x4]∧(∃w a l r,f=(qM s d i).as w a l r)∧∃R',Nn (rd 5 (hf H)) [x1,x2,x3,x4]=some (f.cells,R'):=by
 rcases uN h with⟨_,h0⟩|⟨b,rows',rfl,hb,_,_,hr⟩
 ·have:=an1.1 h0
  rw[this]at hn;simp at hn;omega
 ·obtain⟨R',hr⟩:=hr rfl
  have hfi:F[i]?=some (F[i]'(by omega)):=aoB _
  obtain⟨r,R2,k1,k2⟩:=jJ (i:=i) (X:=(F[i]'(by omega)).cells) hr (by show(F.map Lx.cells)[i]?=_;rw[aoL,hfi];rfl)
  obtain⟨a,b',c,e,rfl,_⟩:=yT k2
  exact⟨b,a,b',c,e,_,by rw[aa9,hn],by rw[amR hb,k1],hF i _ hfi,R2,k2⟩
theorem oC{g:HF}{v:AV}{F:List Lx}{R:List Nat}{n:Nat}(h:rd 6 g v=some (Az 4 false false (F.map Lx.cells),R))(hn:F.length=n):ln Tryz.prog 53 (some v)=some (.ret (.int .i64 (n:Int)),[]):=by
 rcases uN h with⟨rfl,h0⟩|⟨b,rows',rfl,_⟩
 ·have:n=0:=by rw[←hn,an1.1 h0];rfl
  subst this
  simp only[Vc.down,seval,TY9.down]
 ·simp only[Vc.down,seval,TY9.down,aa9,hn]
theorem am7{s:Ac}(h1:Fj s=true){d:An}(h3:Kz s.cons.length d=true){i:Nat}(hi:i<d.hours.length):(qM s d i).wants.length≤maxLen∧(qM s d i).grants.length≤maxLen∧(qM s d i).flows.length≤maxLen∧(qM s d i).refused.length≤maxLen:=by
 have hz:d.hours[i]?=some (zI d i):=by unfold zI;rw[aoB hi];rfl
 obtain⟨_,_,W⟩:=cO h1 h3 (sU h1 h3 i (by omega)) hz
 have hl:=(Ss h1).len
 have w:=W.len
 have ht:d.trades.length≤50:=by
  have p:=h3
  simp only[Kz,acL,decide_eq_true_eq]at p;omega
 have ol:=(sU h1 h3 i (by omega)).i.olen
 have hO1:(O1 s (Fg s d i).hour (Fg s d i).gas (Fg s d i).bills (Fg s d i).owed).length≤50:=by
  have:=List.length_filter_le (fun t:Ab=>decide (t.back≠(Fg s d i).hour)) (Fg s d i).owed
  unfold O1
  rw[Pg,adM];omega
 have t3:=(Pn s.cons (Fg s d i).hour d.trades 0 (G1 s (Fg s d i).hour (Fg s d i).gas (Fg s d i).bills (Fg s d i).owed) _ [] hO1).2.2
 unfold maxLen
 refine⟨?_,?_,?_,?_⟩
 ·show(W3 s d _ _ _ _).length≤_;omega
 ·show(A4 s d _ _ _ _ _).length≤_;omega
 ·show(F5 s d _ _ _ _ _).length≤_;omega
 ·refine Nat.le_trans t3 ?_;simp;omega
def ahJ(d:An):Bool:=decide (d.hours.length≤53)&&decide (d.noms.length≤210)&&decide (d.trades.length≤60)
theorem an0(d:An):Bl.call (.fn 23) [.agg d.cells] []=some (.ret (.bool (ahJ d)),[]):=by
 have l1:decide ((d.hours.length:Int)≤53)=decide (d.hours.length≤53):=by rw[decide_eq_decide];omega
 have l2:decide ((d.noms.length:Int)≤210)=decide (d.noms.length≤210):=by rw[decide_eq_decide];omega
 have l3:decide ((d.trades.length:Int)≤60)=decide (d.trades.length≤60):=by rw[decide_eq_decide];omega
 (refine ce Tryz.func23 ?_;simp only[Tryz.f23];(have hb:=trivial;with_reducible repeat' (first|simp only[hb,Va.down,seval,axQ.down,An.cells,aa9,l1,l2,l3]|refine Ai ?_ ?_<;>intro hb|refine fd ?_|fail)))
 all_goals (refine congrArg (fun b=>(Ea.ret (AV.bool b),([]:Aa))) ?_;simp_all[ahJ];try (intros;omega))
def akF(s:Ac)(d:An):Bool:=eB s.cons&&ahJ d&&decide (d.hours.length≤24)&&Fj s&&Kz s.cons.length d
theorem al9{s:Ac}{d:An}(h:akF s d=true):eB s.cons=true∧ahJ d=true∧decide ((24:Int)<(d.hours.length:Int))=false∧Fj s=true∧Kz s.cons.length d=true:=by
 simp only[akF,acL,decide_eq_true_eq]at h
 exact⟨h.1.1.1.1,h.1.1.1.2,decide_eq_false (by omega),h.1.2,h.2⟩
def sR(s:Ac)(d:An)(late:Bq)(at_:Int):Bool:=akF s d&&decide (d.noms.length<200)&&Yt s.cons.length late&& !decide (IntKind.i64.wrap (late.sent+s.lead)≤late.hour)&&decide (0≤at_)&&decide (at_≤d.noms.length)
theorem akI(hk:Bl.call (.fn 15) [] []=some (.ret (.bool true),[]))(s:Ac)(hs:s.small)(d:An)(hd:d.small)(late:Bq)(at_:Int)(h:sR s d late at_=false):
 Bl.call (.fn 7) [.agg s.cells,.agg d.cells,.agg [.int .i64 late.con,.int .i64 late.hour,.int .i64 late.sent,.int .i64 late.amount],.int .i64 at_] []=some (.ret (.bool true),[]):=by
 have h1:=zF (nn:=s.nn) hs.cons
 have h2:=an0 d
 have c1:=xU s hs
 have c3:=anX d hd s.cons.length
 have c4:=ahC late s.cons.length
 simp only[An.cells]at h2 c3
 have l1:decide ((24:Int)<(d.hours.length:Int))= !decide (d.hours.length≤24):=by rw[←decide_not,decide_eq_decide];omega
 have l2:decide ((200:Int)≤(d.noms.length:Int))= !decide (d.noms.length<200):=by rw[←decide_not,decide_eq_decide];omega
 have l3:decide (at_<0)= !decide (0≤at_):=by rw[←decide_not,decide_eq_decide];omega
 have l4:decide ((d.noms.length:Int)<at_)= !decide (at_≤(d.noms.length:Int)):=by rw[←decide_not,decide_eq_decide];omega
 have key:¬(eB s.cons=true∧ahJ d=true∧d.hours.length≤24∧Fj s=true∧Kz s.cons.length d=true∧d.noms.length<200∧Yt s.cons.length late=true∧decide (IntKind.i64.wrap (late.sent+s.lead)≤late.hour)=false∧0≤at_∧at_≤d.noms.length):=fun⟨a,b,c,e,f,g,i,j,k,l⟩=>by simp[sR,akF,a,b,c,e,f,g,i,j,k,l]at h
 (refine ce Tryz.func7 ?_;simp only[Tryz.f7];(have hb:=trivial;with_reducible repeat' (first|simp only[hb,Vc.down,seval,yJ.down,An.cells,Bq.cells,h1,h2,l1,l2,l3,l4,c1,c3,c4,hk,Vh,Qw,Qx,Zv,aa9]|refine Ai ?_ ?_<;>intro hb|refine fd ?_|fail)))
 all_goals (exfalso;refine key ⟨?_,?_,?_,?_,?_,?_,?_,?_,?_,?_⟩<;>clear key h<;>simp_all)
theorem alB(hk:Bl.call (.fn 15) [] []=some (.ret (.bool true),[]))(s:Ac)(hs:s.small)(d:An)(hd:d.small)(late:Bq)(at_:Int)(h:sR s d late at_=true):
 Bl.call (.fn 7) [.agg s.cells,.agg d.cells,.agg [.int .i64 late.con,.int .i64 late.hour,.int .i64 late.sent,.int .i64 late.amount],.int .i64 at_] []=some (.ret (.bool true),[]):=by
 simp only[sR,acL,Bool.not_eq_true',decide_eq_true_eq]at h
 obtain⟨⟨⟨⟨⟨h,n200⟩,hnb⟩,hlt⟩,hat0⟩,hat1⟩:=h
 obtain⟨g1,g2,g3,v1,v3⟩:=al9 h
 have h1:=zF (nn:=s.nn) hs.cons
 have h2:=an0 d
 rw[g1]at h1
 rw[g2]at h2
 have c1:=xU s hs
 have c3:=anX d hd s.cons.length
 have c4:=ahC late s.cons.length
 rw[v1]at c1
 rw[v3]at c3
 rw[hnb]at c4
 obtain⟨k,rfl⟩:∃k:Nat,at_=k:=⟨at_.toNat,by omega⟩
 have hk1:k≤d.noms.length:=by omega
 have l2:decide ((200:Int)≤(d.noms.length:Int))=false:=decide_eq_false (by omega)
 have l3:decide ((k:Int)<0)=false:=decide_eq_false (by omega)
 have l4:decide ((d.noms.length:Int)<(k:Int))=false:=decide_eq_false (by omega)
 have hl:=(Ss v1).len
 have hD:d.hours.length≤24:=by rw[decide_eq_false_iff_not]at g3;omega
 obtain⟨qR,hqR⟩:∃q,Fn.func 25=q:=⟨_,rfl⟩
 have hk':=hk
 obtain⟨qT,hqT⟩:∃q,Fn.func 27=q:=⟨_,rfl⟩
 obtain⟨qF,hqF⟩:∃q,Fn.func 28=q:=⟨_,rfl⟩
 have hAB:d.noms=d.noms.take k++d.noms.drop k:=(List.take_append_drop k d.noms).symm
 have hlA:(d.noms.take k).length=k:=by simp;omega
 have hlB:(d.noms.drop k).length=d.noms.length-k:=by simp
 have s45:SlT Tryz.prog 45 4:=⟨_,Tryz.underlying45,by kernel_rfl⟩
 have mt:(d.noms.map Bq.cells).take k=(d.noms.take k).map Bq.cells:=by rw[List.map_take]
 have md:(d.noms.map Bq.cells).drop k=(d.noms.drop k).map Bq.cells:=by rw[List.map_drop]
 have f1:=apM s45 true (d.noms.map Bq.cells) k (by simpa using hk1)
 have f2:=arP s45 true (d.noms.map Bq.cells) k (by simpa using hk1)
 rw[mt]at f1
 rw[md]at f2
 have m0:=aoU s45
 have m1:=aqU s45
 simp only[An.cells]at h2 c3
 have hsh:(d.noms=[]∧d.nn=false)∨Az 4 true d.nn (d.noms.map Bq.cells)=.imm 4 true (d.noms.map Bq.cells):=by
  cases hn:d.noms with
  |nil=>cases d.nn with
   |true=>exact .inr rfl
   |false=>exact .inl ⟨rfl,rfl⟩
  |cons=>exact .inr rfl
 generalize hA:d.noms.take k=A at *
 generalize hB:d.noms.drop k=B at *
 have hA39:(A.length≤549755813888)=True:=eq_true (by omega)
 have hfx:(zY Tryz.prog 45 (some (Az 4 true d.nn (d.noms.map Bq.cells))) (some none) (some (some (.int .i64 (k:Nat))))=some (.ret (.imm 4 true (A.map Bq.cells)),[])∧zY Tryz.prog 45 (some (Az 4 true d.nn (d.noms.map Bq.cells))) (some (some (.int .i64 (k:Nat)))) (some none)=some (.ret (.imm 4 true (B.map Bq.cells)),[]))∨
  (A=[]∧B=[]∧zY Tryz.prog 45 (some (Az 4 true d.nn (d.noms.map Bq.cells))) (some none) (some (some (.int .i64 (k:Nat))))=some (.ret .nils,[])∧zY Tryz.prog 45 (some (Az 4 true d.nn (d.noms.map Bq.cells))) (some (some (.int .i64 (k:Nat)))) (some none)=some (.ret .nils,[])):=by
  rcases hsh with⟨hn0,hn1⟩|hsh
  ·have hz:k=0:=by rw[hn0]at hk1;simpa using hk1
   subst hz
   rw[hn0]at hA hB ⊢
   rw[hn1]
   exact .inr ⟨by rw[←hA];rfl,by rw[←hB];rfl,m0,m1⟩
  ·rw[hsh];exact .inl ⟨f1,f2⟩
 clear f1 f2
 obtain⟨X,Y,hq1,K1⟩:=aoM hs hd v1 v3
 have hlt':late.hour<late.sent+s.lead∧IntKind.i64.wrap (late.sent+s.lead)=late.sent+s.lead:=by
  have ld:=(Ss v1).lead
  have q:=hnb
  simp only[Yt,Gp,acL,decide_eq_true_eq]at q
  have w:IntKind.i64.wrap (late.sent+s.lead)=late.sent+s.lead:=Ag (by omega) (by omega)
  rw[w,decide_eq_false_iff_not]at hlt
  exact⟨by omega,w⟩
 have v3':Kz s.cons.length (more d A B late)=true:=by
  have q:=v3
  simp only[Kz,acL,decide_eq_true_eq,adK]at q ⊢
  obtain⟨⟨⟨⟨⟨a1,a2⟩,a3⟩,a4⟩,a5⟩,a6⟩:=q
  refine⟨⟨⟨⟨⟨a1,?_⟩,a3⟩,a4⟩,fun n hn=>?_⟩,a6⟩
  ·show(A++late::B).length≤200
   simp;omega
  ·have hn':n∈A++late::B:=hn
   rcases List.mem_append.1 hn' with h|h
   ·exact a5 n (by rw[hAB];exact ajZ _ h)
   ·rcases List.mem_cons.1 h with rfl|h
    ·exact hnb
    ·exact a5 n (by rw[hAB];exact aoC _ h)
 have hd':(more d A B late).small:=⟨hd.hours,by show(A++late::B).length≤maxLen;unfold maxLen;simp;omega,hd.trades⟩
 obtain⟨X',Y',hq2,K2⟩:=aoM hs hd' v1 v3'
 refine ce Tryz.func7 ?_
 simp only[Tryz.f7]
 generalize hC5:Code.seq (Code.region 5 _ _) _=C5
 have key:∀(t:Tm) (h:Aa) (b n':Nat),n'=(A++late::B).length→t 4=.ptr 0 0 0→t 5=.ptr 1 0 0→t 9=.ptr 3 0 0→h[0]?=some (.live 6 false false [s.cells])→h[1]?=some (.live 3 false false [d.cells])→h[3]?=some (.live 3 false true [[Az 4 true d.nh (d.hours.map Au.cells),.slr 4 b 0 n',Az 5 true d.nt (d.trades.map Ab.cells)]])→h[b]?=some (.live 4 true false ((A++late::B).map Bq.cells))→
  FnE Tryz.prog 0 [.tmp 8] (fun o1 h1=>(o1,h1)=(Ea.ret (.bool true),[])) (Dc Bl Tryz.prog 4989 C5 [] ⟨mk 146 t,h⟩):=by
  intro t h b n' hn' h4 h5 h9 z0 z1 z3 zb
  rw[←hC5]
  have z0A:=Bv z0
  have z1A:=Bv z1
  simp only[An.cells]at z1 z1A
  (have hb:=trivial;with_reducible repeat' (first|simp only[hb,Vc.down,seval,yJ.down,An.cells,h4,h5,h9,z0,z1,hqR]|refine Ai ?_ ?_<;>intro hb|refine fd ?_|fail))
  generalize hE:cl Bl _ (some (.func qR [] [])) (some _)=E
  rw[←hqR]at hE
  obtain⟨outs,es,H1,R,rfl,eh,k1,k2,k3,k4⟩:=K1.at hE rfl (apH _ s d) (afZ s d)
  obtain⟨v1',l1,_,_,rfl,_,k2',_⟩:=Em k2
  obtain⟨yv,l2',_,_,rfl,_,k2',_⟩:=Em k2'
  obtain⟨v3',l3',_,_,rfl,k5,k2',_⟩:=Em k2'
  obtain⟨rfl,_⟩:=cS k2'
  obtain⟨rfl,_⟩:=lE k5
  obtain⟨xc,g,l,o,F,R1,R2,rfl,hx,hy,hF,hFl,hR1,hR2⟩:=hq1.got k2
  obtain⟨gv,bv,ov,rfl,⟨p1,p1'⟩,⟨p2,p2'⟩,⟨p3,p3'⟩⟩:=Vl hx
  rw[anQ]at k1
  have l0:=Gu z0
  have l3:=Gu z3
  have lb:=Gu zb
  have m0:=Bv ((k1.same 0 l0 (by simp)).trans z0)
  have m3:=Bv ((k1.same 3 l3 (by simp)).trans z3)
  have mb:=Bv ((k1.same b lb (by simp)).trans zb)
  (have hb:=trivial;with_reducible repeat' (first|simp only[hb,Vc.down,seval,yJ.down,eh,h4,h5,h9,p1,p2,p3,p1',p2',p3',adQ,aeY,ae4,ajX,m0,m3,hqR]|refine Ai ?_ ?_<;>intro hb|refine fd ?_|fail))
  have hrd:∀l,rd 6 (hf (H1++l)) (.slr 4 b 0 n')=some (.imm 4 true ((A++late::B).map Bq.cells),[b]):=fun l=>tW (by show((H1++l)[b]?).bind Bw=_;rw[mb];rfl) (by simpa using hn')
  have hm:∀l,bL (H1++l) (.agg [Az 4 true d.nh (d.hours.map Au.cells),.slr 4 b 0 n',Az 5 true d.nt (d.trades.map Ab.cells)])=some (.agg (more d A B late).cells):=fun l=>by
   show(As (Hh 11 (hf (H1++l))) _).map AV.agg=_
   have a1:Hh 11 (hf (H1++l)) (Az 4 true d.nh (d.hours.map Au.cells))=some (Az 4 true d.nh (d.hours.map Au.cells)):=Hk _ (d:=8) (by omega) (Da ..)
   have a2:Hh 11 (hf (H1++l)) (Az 5 true d.nt (d.trades.map Ab.cells))=some (Az 5 true d.nt (d.trades.map Ab.cells)):=Hk _ (d:=8) (by omega) (Da ..)
   simp only[Na,Py,a1,a2,Ue (show 6≤11 by omega) (hrd l),Jp,Option.map_some,An.cells,more,qE]
  generalize hE2:cl Bl _ (some (.func qR [] [])) (some _)=E2
  rw[←hqR]at hE2
  obtain⟨outs2,es2,H2,R',rfl,eh2,j1,j2,j3,j4⟩:=K2.at hE2 rfl (by simp only[Na,Py,anY,hm,Jp]) (afZ s (more d A B late))
  obtain⟨v1',l1,_,_,rfl,_,j2',_⟩:=Em j2
  obtain⟨yv2,l2',_,_,rfl,_,j2',_⟩:=Em j2'
  obtain⟨v3',l3',_,_,rfl,k6,j2',_⟩:=Em j2'
  obtain⟨rfl,_⟩:=cS j2'
  obtain⟨rfl,_⟩:=lE k6
  obtain⟨xc',g',l',o',F',R1',R2'',rfl,hx',hy',hF',hFl',_,_⟩:=hq2.got j2
  have es:=qO (s:=s) hAB hlt'.1 hlt'.2
  rw[show(more d A B late).hours=d.hours from rfl]at hx' hFl'
  rw[(es _).1]at hx'
  have hF2:gJ s d F':=fun j f hf=>by have:=hF' j f hf;rwa[(es j).2]at this
  obtain⟨gv2,bv2,ov2,rfl,⟨w1,w1'⟩,⟨w2,w2'⟩,⟨w3,w3'⟩⟩:=Vl hx'
  have hle0:=k1.len
  have hle:=j1.len
  simp only[acV,acI,abQ]at hle
  have hl2:∀j∈[AV.agg s.cells,.agg [Az 4 true d.nh (d.hours.map Au.cells),.slr 4 b 0 n',Az 5 true d.nt (d.trades.map Ab.cells)]].flatMap (Aw 12 (hf (H1++[.live 6 false true [[.int .i64 ((Fg s d d.hours.length).as g l o).hour,gv,.int .i64 ((Fg s d d.hours.length).as g l o).own,.int .i64 ((Fg s d d.hours.length).as g l o).fuel,bv,ov]]]))),j=b:=fun j hj=>by
   rw[acR,acR,adO,Gg (d:=8) (v:=.agg s.cells) _ (by omega) (by simp[Ac.cells,Jt,Qc,Da]),adM,adP]at hj
   have hj':j∈[Az 4 true d.nh (d.hours.map Au.cells),.slr 4 b 0 n',Az 5 true d.nt (d.trades.map Ab.cells)].flatMap (Aw 11 (hf (H1++[.live 6 false true [[.int .i64 ((Fg s d d.hours.length).as g l o).hour,gv,.int .i64 ((Fg s d d.hours.length).as g l o).own,.int .i64 ((Fg s d d.hours.length).as g l o).fuel,bv,ov]]]))):=hj
   rw[acR,acR,acR,adO,Gg (d:=8) (v:=Az 4 true d.nh _) _ (by omega) (Da ..),Gg (d:=8) (v:=Az 5 true d.nt _) _ (by omega) (Da ..),adM,adP,adP]at hj'
   have:=cY (hrd [.live 6 false true [[.int .i64 ((Fg s d d.hours.length).as g l o).hour,gv,.int .i64 ((Fg s d d.hours.length).as g l o).own,.int .i64 ((Fg s d d.hours.length).as g l o).fuel,bv,ov]]]) j hj'
   simpa using this
  have x5:H2[H1.length]?=some (.live 6 false true [[.int .i64 ((Fg s d d.hours.length).as g l o).hour,gv,.int .i64 ((Fg s d d.hours.length).as g l o).own,.int .i64 ((Fg s d d.hours.length).as g l o).fuel,bv,ov]]):=(j1.same H1.length (by simp) (fun hh=>by have:=hl2 _ hh;omega)).trans (by rw[adL (by omega),Nat.sub_self,List.getElem?_cons_zero])
  have y5:=Bv x5
  have hK:∀(j:Nat) z,j<H1.length→(hf H1 j).bind Bw=some z→∀l,(hf (H2++l) j).bind Bw=some z:=fun j z hj hz l=>by
   show((H2++l)[j]?).bind Bw=_
   rw[adJ (by omega)]
   refine(j1.rows j (by simp;omega)).trans ?_
   show((H1++_)[j]?).bind Bw=_
   rw[adJ hj];exact hz
  have hK2:∀(j:Nat) z,j<H2.length→(hf H2 j).bind Bw=some z→∀l,(hf (H2++l) j).bind Bw=some z:=fun j z hj hz l=>by
   show((H2++l)[j]?).bind Bw=_
   rw[adJ hj];exact hz
  have hxl:=fun l=>Zu hx (g':=hf (H2++l)) fun j hj z hz=>hK j z (eC (by omega) hx j hj) hz l
  have hxl':=fun l=>Zu hx' (g':=hf (H2++l)) fun j hj z hz=>hK2 j z (eC (by omega) hx' j hj) hz l
  have hyl:=fun l=>bJ hy (g':=hf (H2++l)) fun j hj z hz=>hK j z (iH hz) hz l
  have hyl':=fun l=>bJ hy' (g':=hf (H2++l)) fun j hj z hz=>hK2 j z (iH hz) hz l
  have Jn:=sU v1 v3 d.hours.length (Nat.le_refl _)
  have J1:=Jn.i.g.len
  have J2:=Jn.i.l
  have J3:=Jn.i.olen
  have hn1:=oC hy hFl
  have hn2:=oC hy' hFl'
  (have hb:=trivial;with_reducible repeat' (first|simp only[hb,Vc.down,seval,yJ.down,eh2,w1,w2,w3,w1',w2',w3',adQ,aeY,ae4,ajX,y5,hqT,Int.reduceBEq]|refine Ai ?_ ?_<;>intro hb|refine fd ?_|fail))
  generalize hE3:cl Bl _ (some (.func qT [] [])) (some _)=E3
  rw[←hqT]at hE3
  have hS:=hE3.symm.trans (sE (vs:=[.agg ((Fg s d d.hours.length).as g l o).cells,.agg ((Fg s d d.hours.length).as g' l' o').cells]) (v:=.bool true) rfl (by
   simp only[Na,Py,bL,Ue (show 6≤12 by omega) (Jg (hxl _)),Ue (show 6≤12 by omega) (Jg (hxl' _)),Jp]) (by simp[Jt,Qc,Da])
   (uG (hr:=(Fg s d d.hours.length).hour) (own:=(Fg s d d.hours.length).own) (fuel:=(Fg s d d.hours.length).fuel) (G:=(Fg s d d.hours.length).gas) (L:=(Fg s d d.hours.length).bills) (O:=(Fg s d d.hours.length).owed) (g1:=g) (l1:=l) (o1:=o) (g2:=g') (l2:=l') (o2:=o') (by unfold maxLen;omega) (by unfold maxLen;omega) (by unfold maxLen;omega)) rfl rfl)
  subst hS
  (have hb:=trivial;with_reducible repeat' (first|simp only[hb,Vc.down,seval,yJ.down,hn1,hn2,cT,Int.reduceBEq]|refine Ai ?_ ?_<;>intro hb|refine fd ?_|fail))
  refine Dm (Sj 146 d.hours (fun i (_:Unit) t h=>h=H2++[.live 6 false true [[.int .i64 ((Fg s d d.hours.length).as g' l' o').hour,gv2,.int .i64 ((Fg s d d.hours.length).as g' l' o').own,.int .i64 ((Fg s d d.hours.length).as g' l' o').fuel,bv2,ov2]]]∧t 11=yv∧t 14=yv2∧t 16=.int .i64 i) (fun _ _=>()) (fun _ e t h=>e=.exit 0) ?_ ?_ () _ _ ?_) (fun e t h hk=>?_)
  ·rintro _ t h Q' kQ ⟨rfl,h11,h14,h16⟩
   (have hb:=trivial;with_reducible repeat' (first|simp only[hb,Vc.down,seval,yJ.down,h11,h16,hn1,aj1,decide_false]|refine Ai ?_ ?_<;>intro hb|refine fd ?_|fail))
   exact kQ _ _ _ rfl
  ·rintro z rest i _ t h J Q' kJ kQ hz hi ⟨rfl,h11,h14,h16⟩
   have hdd:decide ((i:Int)<(d.hours.length:Int))=true:=decide_eq_true (by omega)
   have hw:=Ak hi (by unfold maxLen;omega)
   obtain⟨bo,x1,x2,x3,x4,f1,rfl,r1,a1⟩:=aaB (hyl [.live 6 false true [[.int .i64 ((Fg s d d.hours.length).as g' l' o').hour,gv2,.int .i64 ((Fg s d d.hours.length).as g' l' o').own,.int .i64 ((Fg s d d.hours.length).as g' l' o').fuel,bv2,ov2]]]) hF hFl hi
   obtain⟨bo',y1,y2,y3,y4,f2,rfl,r2,a2⟩:=aaB (hyl' [.live 6 false true [[.int .i64 ((Fg s d d.hours.length).as g' l' o').hour,gv2,.int .i64 ((Fg s d d.hours.length).as g' l' o').own,.int .i64 ((Fg s d d.hours.length).as g' l' o').fuel,bv2,ov2]]]) hF2 hFl' hi
   obtain⟨⟨w1,w2,w3,w4,rfl⟩,Q1,hr1⟩:=a1
   obtain⟨⟨u1,u2,u3,u4,rfl⟩,Q2,hr2⟩:=a2
   have hii:((i:Int)<(d.hours.length:Int))=True:=eq_true (by omega)
   obtain⟨m1,m2,m3,m4⟩:=am7 v1 v3 hi
   have qq:=vC (W:=(qM s d i).wants) (A:=(qM s d i).grants) (F:=(qM s d i).flows) (R:=(qM s d i).refused) (w1:=w1) (w2:=u1) (a1:=w2) (a2:=u2) (f1:=w3) (f2:=u3) (r1:=w4) (r2:=u4) m1 m2 m3 m4
   (have hb:=trivial;with_reducible repeat' (first|simp only[hb,Vc.down,seval,yJ.down,h11,h14,h16,hn1,hn2,hdd,hw,hii,r1,r2,hFl,hFl',hqF]|refine Ai ?_ ?_<;>intro hb|refine fd ?_|fail))
   generalize hE4:cl Bl _ (some (.func qF [] [])) (some _)=E4
   rw[←hqF]at hE4
   have hS4:=hE4.symm.trans (sE (vs:=[.agg ((qM s d i).as w1 w2 w3 w4).cells,.agg ((qM s d i).as u1 u2 u3 u4).cells]) (v:=.bool true) rfl (by
    simp only[Na,Py,bL,Ue (show 6≤12 by omega) (Jg hr1),Ue (show 6≤12 by omega) (Jg hr2),Jp]) (by simp[Jt,Da]) qq rfl rfl)
   subst hS4
   (have hb:=trivial;with_reducible repeat' (first|simp only[hb,Vc.down,seval,yJ.down,hw,h16]|refine Ai ?_ ?_<;>intro hb|refine fd ?_|fail))
   exact Aq (kJ _ _ () ⟨rfl,by simp[up,h11],by simp[up,h14],by simp[up]⟩ rfl)
  ·exact⟨rfl,by simp[up],by simp[up],by simp[up]⟩
  ·subst hk
   (have hb:=trivial;with_reducible repeat' (first|simp only[hb,Vc.down,seval,yJ.down,hk']|refine Ai ?_ ?_<;>intro hb|refine fd ?_|fail))
 rcases hfx with⟨f1,f2⟩|⟨rfl,rfl,f1,f2⟩
 ·cases A with
  |nil=>
   cases B with
   |nil=>
    simp only[acQ]at f1 f2
    (have hb:=trivial;with_reducible repeat' (first|simp only[hb,Vc.down,seval,yJ.down,An.cells,h1,h2,g3,l2,l3,l4,hlt,c1,c3,c4,Vh,Qw,Qx,Zv,f1,f2,aa9,acI,acV,abQ,adG,acQ]|refine Ai ?_ ?_<;>intro hb|refine fd ?_|fail))
    exact key _ _ 5 _ (by simp<;>omega) (by simp[up]) (by simp[up]) (by simp[up]) rfl rfl rfl (by simp[Bq.cells])
   |cons b0 B=>
    simp only[acI]at hlA hlB
    have hA40:(1+(B.length+1)≤549755813888)=True:=eq_true (by omega)
    have hA41:(B.length+1+1≤549755813888)=True:=eq_true (by omega)
    simp only[acQ]at f1
    (have hb:=trivial;with_reducible repeat' (first|simp only[hb,Vc.down,seval,yJ.down,An.cells,h1,h2,g3,l2,l3,l4,hlt,c1,c3,c4,Vh,Qw,Qx,Zv,f1,f2,hA40,hA41,aa9,acI,acV,abQ,adG,acQ]|refine Ai ?_ ?_<;>intro hb|refine fd ?_|fail))
    exact key _ _ 6 _ (by simp<;>omega) (by simp[up]) (by simp[up]) (by simp[up]) rfl rfl rfl (by simp[Bq.cells])
  |cons a0 A=>
   cases B with
   |nil=>
    simp only[acI]at hlA hlB
    have hA39:(A.length+1≤549755813888)=True:=eq_true (by omega)
    have hA40:(A.length+2≤549755813888)=True:=eq_true (by omega)
    have hA41:(A.length+1+1≤549755813888)=True:=eq_true (by omega)
    simp only[acQ]at f2
    (have hb:=trivial;with_reducible repeat' (first|simp only[hb,Vc.down,seval,yJ.down,An.cells,h1,h2,g3,l2,l3,l4,hlt,c1,c3,c4,Vh,Qw,Qx,Zv,f1,f2,hA39,hA40,hA41,aa9,acI,acV,abQ,adG,acQ]|refine Ai ?_ ?_<;>intro hb|refine fd ?_|fail))
    exact key _ _ 6 _ (by simp<;>omega) (by simp[up]) (by simp[up]) (by simp[up]) rfl rfl rfl (by simp[Bq.cells])
   |cons b0 B=>
    simp only[acI]at hlA hlB
    have hA39:(A.length+1≤549755813888)=True:=eq_true (by omega)
    have hA40:(A.length+2≤549755813888)=True:=eq_true (by omega)
    have hA41:(A.length+1+1≤549755813888)=True:=eq_true (by omega)
    have hA42:(A.length+(2+(B.length+1))≤549755813888)=True:=eq_true (by omega)
    (have hb:=trivial;with_reducible repeat' (first|simp only[hb,Vc.down,seval,yJ.down,An.cells,h1,h2,g3,l2,l3,l4,hlt,c1,c3,c4,Vh,Qw,Qx,Zv,f1,f2,hA39,hA40,hA41,hA42,aa9,acI,acV,abQ,adG,acQ]|refine Ai ?_ ?_<;>intro hb|refine fd ?_|fail))
    exact key _ _ 7 _ (by simp<;>omega) (by simp[up]) (by simp[up]) (by simp[up]) rfl rfl rfl (by simp[Bq.cells])
 ·(have hb:=trivial;with_reducible repeat' (first|simp only[hb,Vc.down,seval,yJ.down,An.cells,h1,h2,g3,l2,l3,l4,hlt,c1,c3,c4,Vh,Qw,Qx,Zv,f1,f2,aa9,acI,acV,abQ,adG,acQ]|refine Ai ?_ ?_<;>intro hb|refine fd ?_|fail))
  exact key _ _ 5 _ (by simp<;>omega) (by simp[up]) (by simp[up]) (by simp[up]) rfl rfl rfl (by simp[Bq.cells])
theorem ahG{n:Nat}{r:List AV}(h:Ty Tryz.prog (n+2) 111 r):∃x:Ab,r=x.cells∧True:=by
 unfold Ty at h
 simp only[Tryz.underlying111,hZ]at h
 obtain⟨a,b,rfl,h1,c,d,rfl,h2,e,f,rfl,h3,g,k,rfl,h4,p,q,rfl,h5,rfl⟩:=h
 obtain⟨x,rfl,_⟩:=Dl h1
 obtain⟨y,rfl,_⟩:=Dl h2
 obtain⟨z,rfl,_⟩:=Dl h3
 obtain⟨u,rfl,_⟩:=Dl h4
 obtain⟨v,rfl,_⟩:=Dl h5
 exact⟨⟨x,y,z,u,v⟩,rfl,trivial⟩
theorem aa2{n:Nat}{r:List AV}(h:Ty Tryz.prog (n+3) 46 r):∃(nn:Bool) (l:List Ab),r=[Az 5 true nn (l.map Ab.cells)]∧l.length≤maxLen:=by
 unfold Ty at h
 simp only[Tryz.underlying46]at h
 obtain⟨nn,rows,rfl,hl,hrows⟩:=h
 obtain⟨l,rfl,_⟩:=Zq (fun r hr=>ahG hr) hrows
 have e1:Tryz.prog.cellsOf 111=5:=by kernel_rfl
 have e2:iE Tryz.prog (n+2) 111=true:=by
  simp only[iE,Tryz.underlying111,Tryz.underlying3];rfl
 rw[e1,e2]
 exact⟨nn,l,rfl,by simpa using hl⟩
theorem ak5{n:Nat}{r:List AV}(h:Ty Tryz.prog (n+2) 59 r):∃x:Au,r=x.cells∧True:=by
 unfold Ty at h
 simp only[Tryz.underlying59,hZ]at h
 obtain⟨a,b,rfl,h1,c,d,rfl,h2,e,f,rfl,h3,g,k,rfl,h4,rfl⟩:=h
 obtain⟨x,rfl,_⟩:=Dl h1
 obtain⟨y,rfl,_⟩:=Dl h2
 obtain⟨z,rfl,_⟩:=Dl h3
 obtain⟨u,rfl,_⟩:=Dl h4
 exact⟨⟨x,y,z,u⟩,rfl,trivial⟩
theorem af2{n:Nat}{r:List AV}(h:Ty Tryz.prog (n+3) 44 r):∃(nn:Bool) (l:List Au),r=[Az 4 true nn (l.map Au.cells)]∧l.length≤maxLen:=by
 unfold Ty at h
 simp only[Tryz.underlying44]at h
 obtain⟨nn,rows,rfl,hl,hrows⟩:=h
 obtain⟨l,rfl,_⟩:=Zq (fun r hr=>ak5 hr) hrows
 have e1:Tryz.prog.cellsOf 59=4:=by kernel_rfl
 have e2:iE Tryz.prog (n+2) 59=true:=by
  simp only[iE,Tryz.underlying59,Tryz.underlying3];rfl
 rw[e1,e2]
 exact⟨nn,l,rfl,by simpa using hl⟩
theorem ap2{av:AV}(h:qN Tryz.prog 7 48 av):∃d:An,av=.agg d.cells∧d.small:=by
 unfold qN at h
 simp only[Tryz.underlying48]at h
 obtain⟨cs,rfl,h⟩:=h
 unfold Ty at h
 simp only[Tryz.underlying48,hZ]at h
 obtain⟨a0,b0,rfl,h0,a1,b1,rfl,h1,a2,b2,rfl,h2,rfl⟩:=h
 obtain⟨nh,hh,rfl,k0⟩:=af2 h0
 obtain⟨nn,n',rfl,k1⟩:=anJ h1
 obtain⟨nt,t,rfl,k2⟩:=aa2 h2
 exact⟨⟨nh,hh,nn,n',nt,t⟩,rfl,k0,k1,k2⟩
theorem arK{av:AV}(h:qN Tryz.prog 7 62 av):∃x:Bq,av=.agg x.cells:=by
 unfold qN at h
 simp only[Tryz.underlying62]at h
 obtain⟨cs,rfl,h⟩:=h
 unfold Ty at h
 simp only[Tryz.underlying62,hZ]at h
 obtain⟨a0,b0,rfl,h0,a1,b1,rfl,h1,a2,b2,rfl,h2,a3,b3,rfl,h3,rfl⟩:=h
 obtain⟨x0,rfl,_⟩:=Dl h0
 obtain⟨x1,rfl,_⟩:=Dl h1
 obtain⟨x2,rfl,_⟩:=Dl h2
 obtain⟨x3,rfl,_⟩:=Dl h3
 exact⟨⟨x0,x1,x2,x3⟩,rfl⟩
theorem wU(hk:Bl.call (.fn 15) [] []=some (.ret (.bool true),[])):∀avs,vK Tryz.prog 7 Tryz.f7.params.toList avs→Bl.call (.fn 7) avs []=some (.ret (.bool true),[]):=by
 intro avs h
 rw[show Tryz.f7.params.toList=[24,48,62,3]from rfl]at h
 match avs,h with
 | [a,c,e,f],h=>
   obtain⟨h1,h3,h4,h5,_⟩:=h
   obtain⟨s,rfl,hs⟩:=ad2 h1
   obtain⟨d,rfl,hd⟩:=ap2 h3
   obtain⟨late,rfl⟩:=arK h4
   obtain⟨at_,rfl,_⟩:=asO h5
   cases hg:sR s d late at_ with
   |false=>exact akI hk s hs d hd late at_ hg
   |true=>exact alB hk s hs d hd late at_ hg
 | [],h=>exact h.elim
 | [_],h=>exact h.2.elim
 | [_,_],h=>exact h.2.2.elim
 | [_,_,_],h=>exact h.2.2.2.elim
 |_::_::_::_::_::_,h=>exact h.2.2.2.2.elim
def aiT:List AV→Option Bi
 | [.int .i64 a,.int .i64 b,.int .i64 c]=>some ⟨a,b,c⟩
 |_=>none
def dSl{α:Type}(n:Nat)(fl:Bool)(d:List AV→Option α):AV→Option (Bool × List α)
 | .nils=>some (false,[])
 | .imm n' fl' rows=>if n'=n∧fl'=fl then(As d rows).map fun l=>(true,l)else none
 |_=>none
def anE:List AV→Option Ah
 | [.bool f,.int .i64 sp,.int .i64 lo,.int .i64 hi,r,.int .i64 g,.int .i64 fx,.int .i64 a,.int .i64 b,.int .i64 c,.int .i64 l]=>(dSl 3 true aiT r).map fun x=>⟨f,sp,lo,hi,x.1,x.2,g,fx,a,b,c,l⟩
 |_=>none
def wM:List AV→Option Ac
 | [.int .i64 sp,.int .i64 a,.int .i64 b,.int .i64 l,.int .i64 f,r]=>(dSl 11 false anE r).map fun x=>⟨sp,a,b,l,f,x.1,x.2⟩
 |_=>none
theorem af8{cs:List AV}{x:Bi}(h:aiT cs=some x):cs=x.cells:=by
 unfold aiT at h
 split at h
 ·cases h;rfl
 ·cases h
theorem tD{α:Type}{d:List AV→Option α}{f:α→List AV}(hd:∀cs x,d cs=some x→cs=f x):∀{rows:List (List AV)} {l:List α},As d rows=some l→rows=l.map f
 | [],l,h=>by simp[As]at h;subst h;rfl
 |r::rows,l,h=>by
  simp only[As,aoF,aj0]at h
  obtain⟨x,h1,l',h2,rfl⟩:=h
  rw[hd r x h1,tD hd h2];rfl
theorem wJ{α:Type}{n:Nat}{fl:Bool}{d:List AV→Option α}{f:α→List AV}(hd:∀cs x,d cs=some x→cs=f x){v:AV}{x:Bool × List α}(h:dSl n fl d v=some x):v=Az n fl x.1 (x.2.map f):=by
 unfold dSl at h
 split at h
 ·cases h;rfl
 ·split at h
  ·rename_i hq
   obtain⟨rfl,rfl⟩:=hq
   obtain⟨l,h1,rfl⟩:=aj0.1 h
   rw[tD hd h1]
   cases l<;>rfl
  ·cases h
 ·cases h
theorem yL{cs:List AV}{x:Ah}(h:anE cs=some x):cs=x.cells:=by
 unfold anE at h
 split at h
 ·obtain⟨y,h1,rfl⟩:=aj0.1 h
  rw[wJ (fun cs x=>af8) h1];rfl
 ·cases h
theorem abA{cs:List AV}{x:Ac}(h:wM cs=some x):cs=x.cells:=by
 unfold wM at h
 split at h
 ·obtain⟨y,h1,rfl⟩:=aj0.1 h
  rw[wJ (fun cs x=>yL) h1]
 ·cases h
def oY(l:List Ah):Bool:=decide (l.length≤1000)&&l.all fun c=>decide (c.rates.length≤1000)
theorem Xu{l:List Ah}(h:oY l=true):l.length≤maxLen∧∀c∈l,c.rates.length≤maxLen:=by
 simp only[oY,acL,decide_eq_true_eq,adK]at h
 unfold maxLen
 exact⟨by omega,fun c hc=>by have:=h.2 c hc;omega⟩
def ag0:List AV→Aa→Option (Ea × Aa)
 | [.agg cs],[]=>(wM cs).bind fun s=>if oY s.cons=true then some (.ret (.bool (Fj s)),[])else none
 |_,_=>none
def ad1(l:List Ah):Bool:=l.all fun c=> !c.rates.isEmpty&&decide (c.rates.length≤6)
def aoE:List AV→Aa→Option (Ea × Aa)
 | [v,.int .i64 h],[]=>(dSl 11 false anE v).bind fun x=>if(oY x.2&&ad1 x.2)=true then(match Pz h x.2 (0,0)with|(a,b)=>some (.ret (.tup [.int .i64 a,.int .i64 b]),[]))else none
 |_,_=>none
def pr2:Of:=⟨fun f=>if f=49 then some ag0 else if f=68 then some aoE else pr f,pr.md⟩
theorem arT:∀f p,pr2 f=some p→∀a h r,p a h=some r→Bl.call (.fn f) a h=some r:=by
 intro f p hp a h r hr
 simp only[pr2]at hp
 split at hp
 ·rename_i hf
  subst hf
  cases hp
  unfold ag0 at hr
  split at hr
  ·rename_i cs
   obtain⟨s,h1,h2⟩:=aoF.1 hr
   split at h2
   ·rename_i hs
    cases h2
    rw[abA h1]
    exact zS s ⟨(Xu hs).1,(Xu hs).2⟩
   ·cases h2
  ·cases hr
 ·split at hp
  ·rename_i hf
   subst hf
   cases hp
   unfold aoE at hr
   split at hr
   ·rename_i v hour
    obtain⟨x,h1,h2⟩:=aoF.1 hr
    split at h2
    ·rename_i hs
     simp only[acL]at hs
     cases h2
     rw[wJ (fun cs x=>yL) h1]
     exact ahD hour (Xu hs.1).1 (fun c hc=>by
      have:=adK.1 hs.2 c hc
      simp only[acL,decide_eq_true_eq,Bool.not_eq_eq_eq_not,Bool.not_true,List.isEmpty_eq_false_iff]at this
      exact this)
    ·cases h2
   ·cases hr
  ·exact aj7 hp hr
theorem adA:(Vd Tryz.prog pr2 100).call (.fn 15) [] []=some (.ret (.bool true),[]):=by kernel_rfl
theorem agI:Bl.call (.fn 15) [] []=some (.ret (.bool true),[]):=afN (pr:=pr) (pr2:=pr2) rfl (fun f hf=>by
 simp only[pr2]at hf
 split at hf
 ·cases hf
 ·split at hf
  ·cases hf
  ·exact hf) arT adA
end Go.Proofs.YtdbiogihimdpcaaGreatDoor
