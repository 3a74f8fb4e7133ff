/- The functions of the layer, walked. -/
import Derived.Test.YtfkokgjfpojeoaaPartAF
open List renaming length_map→acL,getElem?_set_ne→acR,length_cons→acZ,length_set→aqD,getElem?_append_left→aAM,getElem?_map→aAN,map_cons→aAO,replicate→aC7,getElem?_eq_getElem→aEO,length_nil→aER,length_append→aE9,range→aHJ,all_cons→aIC,take_add_one→aID,map_nil→aJZ,getElem?_append_right→aKM,map_append→aLD,mem_of_getElem?→aLF,getElem?_set_self→aLG,sum_cons→aLH,flatMap_cons→aLI,mem_map→aM9,take_length→aOD,map→aON,length→aOW,getElem?_cons_zero→aOX,length_range→aPA,getElem?_range→aPH,length_take→aQ7,take_of_length_le→aRF,getElem?_eq_none→aRG,map_set→aR1,map_eq_nil_iff→aR5,getElem?_replicate→aR6,range_succ→aS0,foldl_append→aTE,append_assoc→aVS,nil_append→aVT,ext_getElem?→aWA,range'_succ→aXO,getElem?_of_mem→aYH
open Nat renaming le_refl→aAP,le_trans→aC6,one_mul→aOY,mul_le_mul→aOZ,mul_assoc→aSY,le_mul_of_pos_right→aTP,mul_le_mul_right→aT3
open Option renaming map_some→aCF,some→aG6,bind_eq_some_iff→aLE,getD_some→aSU,map_eq_some_iff→aXG
open Int renaming lt_irrefl→aHM,toNat_natCast→aV9
open Bool renaming and_eq_true→aX2
set_option linter.unusedSimpArgs false
set_option linter.unusedVariables false
namespace Go.Proofs.Ytfkokgjfpojeoaa
open Go.Ev Go Go.Ev.Bfs
set_option maxRecDepth 100000
set_option maxHeartbeats 16000000
def RwB(h:Aa)(lo hi:Nat)(r:List Int)(u:AV):Prop:=(u=.nils∧r=[])∨∃c x,u=.slr 1 c 0 r.length∧r≠[]∧h[c]?=some (.live 1 true x (r.map iv))∧lo≤c∧c<hi
theorem RwB.keep{h h':Aa}{lo hi lo' hi':Nat}{r:List Int}{u:AV}(I:RwB h lo hi r u)(k:∀c s n,u=.slr 1 c s n→lo≤c→c<hi→h'[c]?=h[c]?)(hl:lo'≤lo)(hh:hi≤hi'):RwB h' lo' hi' r u:=by
 rcases I with h1|⟨c,x,rfl,h2,h3,h4,h5⟩
 ·exact .inl h1
 ·exact .inr ⟨c,x,rfl,h2,by rw[k c _ _ rfl h4 h5];exact h3,by omega,by omega⟩
structure RwH(h:Aa)(lo hi:Nat)(R:List (List Int))(b:Nat)(vs:List AV):Prop where
 ls:∃x,h[b]?=some (.live 1 false x (vs.map fun v=>[v]))
 ln:vs.length=R.length
 rw:∀(i:Nat) (u:AV) (r:List Int),vs[i]?=some u→R[i]?=some r→RwB h lo hi r u∧∀c s n,u=.slr 1 c s n→c≠b
 lob:lo≤b
 hib:b<hi
theorem RwH.keep{h h':Aa}{lo hi lo' hi':Nat}{R:List (List Int)}{b:Nat}{vs:List AV}(I:RwH h lo hi R b vs)(k:∀c,lo≤c→c<hi→h'[c]?=h[c]?)(hl:lo'≤lo)(hh:hi≤hi'):RwH h' lo' hi' R b vs:=
 ⟨by obtain⟨x,hx⟩:=I.ls;exact⟨x,by rw[k b I.lob I.hib];exact hx⟩,I.ln,fun i u r hu hr=>⟨(I.rw i u r hu hr).1.keep (fun c _ _ _ h1 h2=>k c h1 h2) hl hh,(I.rw i u r hu hr).2⟩,by have:=I.lob;omega,by have:=I.hib;omega⟩
theorem RwH.snoc{h G:Aa}{lo hi hi2:Nat}{R:List (List Int)}{b:Nat}{vs:List AV}(I:RwH h lo hi R b vs)(k:∀c,lo≤c→c<hi→c≠b→G[c]?=h[c]?){r:List Int}{u:AV}(hu:RwB G lo hi2 r u){b2:Nat}(hub:∀c s n,u=.slr 1 c s n→c≠b2)(hG:∃x,G[b2]?=some (.live 1 false x (vs.map (fun v=>[v])++[[u]])))(h1:hi≤b2)(h2:b2<hi2):RwH G lo hi2 (R++[r]) b2 (vs++[u]):=by
 have ln:=I.ln
 refine⟨?_,by simp[ln],fun i u' r' hu' hr'=>?_,by have:=I.lob;have:=I.hib;omega,h2⟩
 ·obtain⟨x,hx⟩:=hG
  exact⟨x,by rw[hx];simp⟩
 ·by_cases hi':i<vs.length
  ·rw[aAM hi']at hu'
   rw[aAM (by omega)]at hr'
   obtain⟨q1,q2⟩:=I.rw i u' r' hu' hr'
   refine⟨q1.keep (fun c s n e g1 g2=>k c g1 g2 (q2 c s n e)) (by omega) (by omega),fun c s n e=>?_⟩
   rcases q1 with⟨rfl,_⟩|⟨c',x,rfl,_,_,_,g⟩
   ·cases e
   ·cases e;omega
  ·rw[aKM (by omega)]at hu'
   rw[aKM (by omega)]at hr'
   have e0:i-vs.length=0:=by have:=rM hu';simp at this;omega
   rw[e0]at hu'
   rw[show i-R.length=0 by omega]at hr'
   simp only[aOX,aG6.injEq]at hu' hr'
   subst hu' hr'
   exact⟨hu,hub⟩
theorem RwH.one{G:Aa}{lo hi2:Nat}{r:List Int}{u:AV}(hu:RwB G lo hi2 r u){b2:Nat}(hub:∀c s n,u=.slr 1 c s n→c≠b2)(hG:∃x,G[b2]?=some (.live 1 false x [[u]]))(h1:lo≤b2)(h2:b2<hi2):RwH G lo hi2 [r] b2 [u]:=by
 refine⟨hG,rfl,fun i u' r' hu' hr'=>?_,h1,h2⟩
 have e0:i=0:=by have:=rM hu';simp at this;omega
 subst e0
 simp only[aOX,aG6.injEq]at hu' hr'
 subst hu' hr'
 exact⟨hu,hub⟩
def NxH(h:Aa)(lo hi:Nat)(R:List (List Int))(v:AV):Prop:=(R=[]∧v=.nils)∨∃b vs,v=.slr 1 b 0 R.length∧RwH h lo hi R b vs
def Jo(m:Ah)(d:Nat):List (List Int):=(kM m 0 d).foldl Wx [[]]
theorem amP(m:Ah)(d:Nat):Jo m (d+1)=Wx (Jo m d) (Nz m d):=by
 have:kM m 0 (d+1)=kM m 0 d++[Nz m d]:=by
  unfold kM
  rw[aS0,aLD]
  simp
 unfold Jo
 rw[this,aTE];rfl
theorem aJI(m:Ah):Jo m m.sens.length=Zl (kM m 0 m.sens.length):=by
 unfold Jo
 rw[aNA]
 simp
theorem aIE(rows:List (List Int))(l:List Int):(Wx rows l).length=rows.length*l.length:=by
 unfold Wx
 induction rows with
 |nil=>simp
 |cons r rows ih=>rw[aLI,aE9,ih,acL,acZ];rw[Nat.add_mul,aOY];omega
theorem aQB(R:List (List Int))(r:List Int)(E:List Int):Wx (R++[r]) E=Wx R E++E.map fun n=>r++[n]:=by simp[Wx]
theorem ahS(m:Ah)(d:Nat):(Jo m (d+1)).length=(Jo m d).length*(Nz m d).length:=by rw[amP,aIE]
theorem aJA(m:Ah)(k:Nat):1≤(Nz m k).length:=by simp[Nz]
theorem yE(m:Ah):∀d,1≤(Jo m d).length
 |0=>by simp[Jo,kM]
 |d+1=>by rw[ahS];exact aOZ (yE m d) (aJA m d)
theorem aGH(m:Ah){d:Nat}:∀k,(Jo m d).length≤(Jo m (d+k)).length
 |0=>aAP _
 |k+1=>by
  rw[←Nat.add_assoc,ahS]
  exact aC6 (aGH m k) (aTP _ (aJA m _))
theorem aIP(m:Ah):∀(d:Nat) (r:List Int),r∈Jo m d→r.length=d
 |0,r,h=>by simp[Jo,kM]at h;simp[h]
 |d+1,r,h=>by
  rw[amP]at h
  simp only[Wx,List.mem_flatMap,aM9]at h
  obtain⟨q,hq,n,_,rfl⟩:=h
  simp[aIP m d q hq]
theorem bdB{r:List Int}(h:r≠[])(hl:r.length≤100)(H:Aa):apK 1 H (some .nils) (some (true,r.map iv))=some (.ret (.slr 1 H.length 0 r.length),[.new H.length (.live 1 true false (r.map iv))]):=by
 cases r with
 |nil=>exact(h rfl).elim
 |cons a r=>
  have:=aw2 (k:=0) (pre:=[]) (jV.nil 0 1 true H) rfl [] (iv a) (r.map iv) (by simp at hl ⊢;omega)
  simpa [apE]using this
theorem abT(m:Ah):(Dy m).length=(Jo m m.sens.length).length*(Fg m).length:=by
 unfold Dy aH
 rw[←aJI]
 generalize Jo m m.sens.length=R
 induction R with
 |nil=>simp
 |cons r R ih=>rw[aLI,aE9,ih,acL,acZ];rw[Nat.add_mul,aOY];omega
def scC(x:List Int × Int):List AV:=[Ak 1 true false (x.1.map iv),.int .i64 x.2]
structure OtI(m:Ah)(HH:Nat)(RN:List (List Int))(b:Nat)(vs:List AV)(X:List (List Int × Int))(v:AV)(h:Aa):Prop where
 h0:∃x,h[0]?=some (.live 7 false x [m.cells])
 I:RwH h 1 HH RN b vs
 hl:HH≤h.length
 L:∃rows Ro,LLG 2 1 v h rows (X.map scC) Ro∧rows.length=X.length∧Ro.length≤X.length∧∀c∈Ro,c<HH
 hv:∀a c r n,v=.slr a c r n→HH≤c
theorem OtI.snoc{m:Ah}{HH:Nat}{RN:List (List Int)}{b:Nat}{vs:List AV}{X:List (List Int × Int)}{v:AV}{h:Aa}(O:OtI m HH RN b vs X v h){rows:List (List AV)}{Ro:List Nat}(L:LLG 2 1 v h rows (X.map scC) Ro)(hl1:rows.length=X.length)(hl2:Ro.length≤X.length)(hl3:∀c∈Ro,c<HH){k:Nat}{u:AV}{r:List Int}(hu:vs[k]?=some u)(hr:RN[k]?=some r)(c:Int)(a:CB):OtI m HH RN b vs (X++[(r,c)]) (.slr 2 (h.length+1) 0 (X.length+1)) (kl 0 v h++([a]++[.live 2 false false (rows++[[u,.int .i64 c]])])):=by
 have hkl:(kl 0 v h).length=h.length:=aBZ ..
 have gk:∀d,d<HH→(kl 0 v h++([a]++[CB.live 2 false false (rows++[[u,.int .i64 c]])]))[d]?=h[d]?:=fun d hd=>aZB _ (by have:=O.hl;omega) fun st c r n e e2=>by have:=O.hv _ _ _ _ e;omega
 have hG:(kl 0 v h++([a]++[CB.live 2 false false (rows++[[u,.int .i64 c]])]))[h.length+1]?=some (.live 2 false false (rows++[[u,.int .i64 c]])):=by
  rw[aKM (by omega),hkl,show h.length+1-h.length=1 by omega];rfl
 have hHl:=O.hl
 generalize kl 0 v h++([a]++[CB.live 2 false false (rows++[[u,.int .i64 c]])])=G at gk hG
 have I':RwH G 1 HH RN b vs:=O.I.keep (fun d _ hd=>gk d hd) (aAP _) (aAP _)
 have h1:1≤HH:=by have:=I'.lob;have:=I'.hib;omega
 have hGl:=Aw hG
 obtain⟨hU,_⟩:=I'.rw k u r hu hr
 obtain⟨R',q1,q2,q3⟩:∃R',cY (rd 5 (hf G)) [u,.int .i64 c]=some (scC (r,c),R')∧R'.length≤1∧∀d∈R',1≤d∧d<HH:=by
  rcases hU with⟨rfl,rfl⟩|⟨d,x,rfl,hn,g,g1,g2⟩
  ·exact⟨[],Xe (R1:=[]) rfl (Xe (aG2 ..) aCW),by simp,by simp⟩
  ·refine⟨[d],?_,by simp,fun e he=>by simp at he;omega⟩
   have hg:(hf G d).bind Dn=some (1,true,r.map iv):=by show(G[d]?).bind Dn=_;rw[g];rfl
   have:=Xe (avO (d:=4) (n:=r.length) hg (by simp)) (Xe (aG2 IntKind.i64 c) aCW)
   unfold scC
   rw[aE8 (by simpa using hn)]
   simpa using this
 refine⟨by obtain⟨x,hx⟩:=O.h0;exact⟨x,by rw[gk 0 (by omega)];exact hx⟩,I',by omega,⟨rows++[[u,.int .i64 c]],Ro++R',?_,by simp[hl1],by simp;omega,fun d hd=>?_⟩,fun st d r n e=>by cases e;omega⟩
 ·rw[aLD]
  exact L.step hG (fun j hj z hz=>by rw[gk j (hl3 j hj)];exact hz) q1 (fun d hd=>by have:=q3 d hd;omega) (by omega) (fun hd=>by have:=hl3 _ hd;omega) (by rw[hl1])
 ·rcases List.mem_append.1 hd with hd|hd
  ·exact hl3 d hd
  ·exact(q3 d hd).2
theorem aSS{m:Ah}(hs:m.small)(hm:Ce m=true)(hN:(Dy m).length≤4000):RdV Ec 59 [.agg m.cells] (Ak 2 false false ((Dy m).map scC)) 4001:=by
 have key:ClQ Ec 59 [.agg m.cells] [] fun o h'=>∃v R,o=.ret v∧rd 6 (hf h') v=some (Ak 2 false false ((Dy m).map scC),R)∧R.length≤4001∧∀c∈h',Rnm c:=by
  obtain⟨q,hq⟩:∃q,Fn.func 77=q:=⟨_,rfl⟩
  have hs6:=awF hm
  have hc4:=eT hm
  have hcl:=mP hm
  have hRN:∀d,d≤m.sens.length→(Jo m d).length≤4000:=fun d hd=>by
   have h1:=aGH m (d:=d) (m.sens.length-d)
   rw[show d+(m.sens.length-d)=m.sens.length by omega]at h1
   have h2:(Jo m m.sens.length).length≤(Jo m m.sens.length).length*(Fg m).length:=aTP _ (by omega)
   rw[abT]at hN
   omega
  refine aJT rfl Try.func59 rfl rfl ?_
  simp only[Try.f59]
  refine Jb (fun K iN hK=>?_)
  (have hb:=trivial;with_reducible repeat' (first|simp only[hb,Vc.down,seval,yY.down,acL]|refine Bm ?_ ?_<;>intro hb|refine fd ?_|fail))
  refine Eo (Wy 72 (aHJ m.sens.length) (fun i (_:Unit) t h=>∃b vs,t 1=.ptr 0 0 0∧t 3=.slr 1 b 0 (Jo m i).length∧t 4=.int .i64 i∧(∃x,h[0]?=some (.live 7 false x [m.cells]))∧RwH h 1 h.length (Jo m i) b vs) (fun _ _=>()) (fun _ e t h=>e=.exit 0∧∃b vs,t 1=.ptr 0 0 0∧t 3=.slr 1 b 0 (Jo m m.sens.length).length∧(∃x,h[0]?=some (.live 7 false x [m.cells]))∧RwH h 1 h.length (Jo m m.sens.length) b vs) ?_ ?_ () _ _ ?_) (fun e t h hk=>?_)
  ·rintro _ t h Q' kQ ⟨b,vs,c1,c3,c4,⟨x0,h0⟩,I⟩
   rw[aPA]at c3 c4 I
   (have hb:=trivial;with_reducible repeat' (first|simp only[hb,Vc.down,seval,yY.down,c1,c3,c4,h0,acL,aHM,decide_false]|refine Bm ?_ ?_<;>intro hb|refine fd ?_|fail))
   exact kQ _ _ _ ⟨rfl,b,vs,by simp[up,c1],by simp[up,c3],⟨x0,h0⟩,I⟩
  ·rintro k rest i _ t h J Q' kJ kQ hx hi ⟨rb,vs,c1,c3,c4,⟨x0,h0⟩,I⟩
   rw[aPA]at hi
   obtain rfl:i=k:=by rw[aPH hi]at hx;cases hx;rfl
   have hd:((i:Int)<(m.sens.length:Int))=True:=eq_true (by omega)
   have hw:=Bo hi hs.sens
   obtain⟨nn,KE⟩:=aX7 hs hm hi
   obtain⟨v,es,H1,R,e1,e2,K1,r1,r2,r3⟩:=KE.cl (H:=h) (args:=[.agg m.cells,.int .i64 (i:Int)]) (uA rfl) (by simp only[Ou,Um,aDK,Ly];rfl) (by simp[Vx,aIC,uV])
   rw[hq]at e1
   rw[aR2]at K1
   have hsm:∀c,c<h.length→H1[c]?=h[c]?:=fun c hc=>K1.same c hc (by simp)
   obtain⟨eb,cE,rfl,g1,g2,g3⟩:∃b c,v=.slr 1 b 0 (Nz m i).length∧H1[b]?=some c∧(∀k:Nat,Rq (some c) k=((Nz m i).map iv)[k]?)∧h.length≤b:=by
    rcases bO r1 with⟨_,h1⟩|⟨b,rows',rfl,w1,w2,w3,_⟩
    ·simp[Nz]at h1
    ·obtain⟨c,w5,w6⟩:=aLE.1 w1
     have w5':H1[b]?=some c:=w5
     have w7:=aEP w1
     refine⟨b,c,by simp,w5,fun k=>?_,?_⟩
     ·have:=w7 k
      rw[w5',w3 rfl]at this
      exact this
     ·have r4:=avO (d:=5) (n:=((Nz m i).map iv).length) (w3 rfl▸w1) rfl
      rw[r4]at r1
      simp only[aG6.injEq,Prod.mk.injEq]at r1
      exact r3 b (by rw[←r1.2];simp)
   have h01:H1[0]?=some (.live 7 false x0 [m.cells]):=by rw[hsm 0 (Aw h0)];exact h0
   have I1:RwH H1 1 H1.length (Jo m i) rb vs:=I.keep (fun c _ hc=>hsm c hc) (by omega) K1.len
   have hEl:(Nz m i).length≤4000:=by
    have h1:=hRN (i+1) (by omega)
    rw[ahS]at h1
    exact aC6 (Nat.le_mul_of_pos_left _ (yE m i)) h1
   have hRl:=hRN i (by omega)
   have hRl2:=hRN (i+1) (by omega)
   have hsucc:=amP m i
   generalize hR:Jo m i=RR at *
   generalize hE:Nz m i=EE at *
   generalize hR2:Jo m (i+1)=R2 at *
   subst hsucc
   (have hb:=trivial;with_reducible repeat' (first|simp only[hb,Vc.down,seval,yY.down,c1,c3,c4,h0,hd,hw,hq,e1,e2,acL]|refine Bm ?_ ?_<;>intro hb|refine fd ?_|fail))
   have hlp:∀k,k≤RR.length→(Wx (RR.take k) EE).length≤4000:=fun k hk=>by
    rw[aIE]at hRl2 ⊢
    exact aC6 (aT3 _ (by rw[aQ7];omega)) hRl2
   refine Eo (Wy 72 RR (fun k (_:Unit) t h=>∃v,t 1=.ptr 0 0 0∧t 3=.slr 1 rb 0 RR.length∧t 4=.int .i64 i∧t 5=.slr 1 eb 0 EE.length∧t 6=v∧t 7=.int .i64 k∧(∃x,h[0]?=some (.live 7 false x [m.cells]))∧RwH h 1 H1.length RR rb vs∧h[eb]?=some cE∧H1.length≤h.length∧NxH h H1.length h.length (Wx (RR.take k) EE) v) (fun _ _=>()) (fun _ e t h=>e=.exit 2∧∃v,t 1=.ptr 0 0 0∧t 4=.int .i64 i∧t 6=v∧(∃x,h[0]?=some (.live 7 false x [m.cells]))∧H1.length≤h.length∧NxH h H1.length h.length (Wx RR EE) v) ?_ ?_ () _ _ ?_) (fun e t h hk=>?_)
   ·rintro _ t h Q2 kQ2 ⟨v,c1,c3,c4,c5,c6,c7,h0,I,hEb,hl,N⟩
    rw[aOD]at N
    (have hb:=trivial;with_reducible repeat' (first|simp only[hb,Vc.down,seval,yY.down,c3,c7,aHM,decide_false]|refine Bm ?_ ?_<;>intro hb|refine fd ?_|fail))
    exact kQ2 _ _ _ ⟨rfl,v,by simp[up,c1],by simp[up,c4],by simp[up,c6],h0,hl,N⟩
   ·rintro r rest k _ t h J2 Q2 kJ2 kQ2 hx2 hk2 ⟨v,c1,c3,c4,c5,c6,c7,h0,I,hEb,hl,N⟩
    have hd2:((k:Int)<(RR.length:Int))=True:=eq_true (by omega)
    have hw2:=Bo hk2 (show RR.length≤maxLen by unfold maxLen;omega)
    have htk2:Wx (RR.take (k+1)) EE=Wx (RR.take k) EE++EE.map fun n=>r++[n]:=by rw[aID,hx2];exact aQB _ _ _
    have hlk:=hlp (k+1) (by omega)
    rw[htk2]at hlk
    (have hb:=trivial;with_reducible repeat' (first|simp only[hb,Vc.down,seval,yY.down,c3,c7,hd2]|refine Bm ?_ ?_<;>intro hb|refine fd ?_|fail))
    refine Eo (Wy 72 EE (fun n (_:Unit) t h=>∃v,t 1=.ptr 0 0 0∧t 3=.slr 1 rb 0 RR.length∧t 4=.int .i64 i∧t 5=.slr 1 eb 0 EE.length∧t 6=v∧t 7=.int .i64 k∧t 8=.int .i64 n∧(∃x,h[0]?=some (.live 7 false x [m.cells]))∧RwH h 1 H1.length RR rb vs∧h[eb]?=some cE∧H1.length≤h.length∧NxH h H1.length h.length (Wx (RR.take k) EE++(EE.take n).map fun n=>r++[n]) v) (fun _ _=>()) (fun _ e t h=>e=.exit 4∧∃v,t 1=.ptr 0 0 0∧t 3=.slr 1 rb 0 RR.length∧t 4=.int .i64 i∧t 5=.slr 1 eb 0 EE.length∧t 6=v∧t 7=.int .i64 k∧(∃x,h[0]?=some (.live 7 false x [m.cells]))∧RwH h 1 H1.length RR rb vs∧h[eb]?=some cE∧H1.length≤h.length∧NxH h H1.length h.length (Wx (RR.take k) EE++EE.map fun n=>r++[n]) v) ?_ ?_ () _ _ ?_) (fun e t h hk=>?_)
    ·rintro _ t h Q3 kQ3 ⟨v,c1,c3,c4,c5,c6,c7,c8,h0,I,hEb,hl,N⟩
     rw[aOD]at N
     (have hb:=trivial;with_reducible repeat' (first|simp only[hb,Vc.down,seval,yY.down,c5,c8,aHM,decide_false]|refine Bm ?_ ?_<;>intro hb|refine fd ?_|fail))
     exact kQ3 _ _ _ ⟨rfl,v,by simp[up,c1],by simp[up,c3],by simp[up,c4],by simp[up,c5],by simp[up,c6],by simp[up,c7],h0,I,hEb,hl,N⟩
    ·rintro n rest j _ t h J3 Q3 kJ3 kQ3 hx3 hk3 ⟨v,c1,c3,c4,c5,c6,c7,c8,h0,I,hEb,hl,N⟩
     have hd3:((j:Int)<(EE.length:Int))=True:=eq_true (by omega)
     have hw3:=Bo hk3 (show EE.length≤maxLen by unfold maxLen;omega)
     have htk4:Wx (RR.take k) EE++(EE.take (j+1)).map (fun n=>r++[n])=(Wx (RR.take k) EE++(EE.take j).map (fun n=>r++[n]))++[r++[n]]:=by rw[aID,hx3,aLD,←aVS];rfl
     have htk3:(EE.take (j+1)).map (fun n=>r++[n])=(EE.take j).map (fun n=>r++[n])++[r++[n]]:=by rw[aID,hx3,aLD];rfl
     have gE:Rq (some cE) j=some [.int .i64 n]:=by rw[g2 j,aAN,hx3];rfl
     have hlj:(Wx (RR.take k) EE++(EE.take j).map fun n=>r++[n]).length≤4000:=by
      refine aC6 ?_ hlk
      simp only[aE9,acL,aQ7]
      omega
     obtain⟨xl,hls⟩:=I.ls
     obtain⟨u,hu⟩:∃u,vs[k]?=some u:=⟨_,aEO (by rw[I.ln];omega)⟩
     have gu:(vs.map fun v=>[v])[k]?=some [u]:=by rw[aAN,hu];rfl
     obtain⟨hU,hUb⟩:=I.rw k u r hu hx2
     have hr0:rb<h.length:=Aw hls
     have he0:eb<h.length:=Aw hEb
     have hrl:r.length=i:=aIP m i r (by rw[hR];exact aLF hx2)
     have hr39:(r.length+1≤549755813888)=True:=eq_true (by omega)
     have heb1:=Aw g1
     generalize Wx (RR.take k) EE++(EE.take j).map (fun n=>r++[n])=NX at N hlj c6 htk4
     have hkp:∀l:Aa,∀c,c<h.length→(h++l)[c]?=h[c]?:=fun l c hc=>aAM hc
     have hkd:∀(vb:Nat) (l:Aa) c,c<h.length→c≠vb→(h.set vb CB.dead++l)[c]?=h[c]?:=fun vb l c hc hn=>by
      rw[aAM (by simpa using hc),acR (fun e=>hn e.symm)]
     have hH1:=Aw h01
     obtain⟨x0',h0⟩:=h0
     have Ug:∀h':Aa,h.length≤h'.length→(∀c,c<H1.length→h'[c]?=h[c]?)→(∃x,h'[0]?=some (.live 7 false x [m.cells]))∧RwH h' 1 H1.length RR rb vs∧h'[eb]?=some cE∧H1.length≤h'.length:=fun h' hl' hk'=>⟨⟨x0',by rw[hk' 0 hH1];exact h0⟩,I.keep (fun c _ hc=>hk' c hc) (aAP _) (aAP _),by rw[hk' eb heb1];exact hEb,by omega⟩
     have hrb1:=I.hib
     rcases hU with⟨rfl,rfl⟩|⟨ub,xu,rfl,hrn,gub,ub1,ub2⟩
     ·rcases N with⟨hn,rfl⟩|⟨vb,vvs,rfl,N⟩
      ·obtain⟨sf,s1,s2,sn,sk⟩:∃sf:Nat→Nat,sf rb=1∧sf eb=1∧sf h.length=10∧∀k,sf (h.length+k)=k+10:=⟨fun b=>if h.length≤b then b-h.length+10 else 1,by simp;omega,by simp;omega,by simp,fun k=>by simp⟩
       (have hb:=trivial;with_reducible repeat' (first|simp only[hb,Vc.down,seval,yY.down,c3,c5,c6,c7,c8,hd2,hd3,hls,hu,aCF,hEb,gE,Ae hls,Ae hEb,hw3,acL]|refine Bm ?_ ?_<;>intro hb|((refine oC (eR (sf) ?_) ?_);(simp (discharger:=decide) only[oL,bW,aAO,aJZ,Ry,oD,oV,nZ,nY,Rz,acZ,aER,s1,s2,sn,sk];kernel_rfl);intro _)|refine fdq ?_|fail))
       obtain⟨k1,k2,k3,k4⟩:=Ug (h++[CB.live 1 true false [[AV.int IntKind.i64 n]],CB.live 1 true false [[AV.int IntKind.i64 n]],CB.live 1 false false [[AV.slr 1 (h.length+1) 0 1]],CB.live 1 false false [[AV.slr 1 (h.length+1) 0 1]]]) (by simp) (fun c hc=>hkp _ c (by omega))
       refine Bn (kJ3 _ _ () ⟨.slr 1 (h.length+3) 0 1,by simp[up,c1],by simp[up,c3],by simp[up,c4],by simp[up,c5],by simp[up],by simp[up,c7],by simp[up],k1,k2,k3,k4,?_⟩ rfl)
       rw[htk4]
       subst hn
       exact .inr ⟨h.length+3,[AV.slr 1 (h.length+1) 0 1],by simp,.one (.inr ⟨h.length+1,false,by simp,by simp,(Qg _ _ 1).trans rfl,by omega,by simp⟩) (fun c s n e=>by cases e;omega) ⟨false,(Qg _ _ 3).trans rfl⟩ (by omega) (by simp)⟩
      ·obtain⟨xv,gvb⟩:=N.ls
       have hvl:=Aw gvb
       have hv1:=N.lob
       obtain⟨sf,s1,s2,s4,sn,sk⟩:∃sf:Nat→Nat,sf rb=1∧sf eb=1∧sf vb=4∧sf h.length=10∧∀k,sf (h.length+k)=k+10:=⟨fun b=>if h.length≤b then b-h.length+10 else if b=vb then 4 else 1,by show(if _ then _ else _)=_;rw[if_neg (by omega),if_neg (by omega)],by show(if _ then _ else _)=_;rw[if_neg (by omega),if_neg (by omega)],by show(if _ then _ else _)=_;rw[if_neg (by omega),if_pos rfl],by simp,fun k=>by simp⟩
       have hB:=Ae gvb
       have hSb:=Jj hvl
       have h39:(vvs.length+1≤549755813888)=True:=eq_true (by rw[N.ln];omega)
       rw[←N.ln]at c6
       (have hb:=trivial;with_reducible repeat' (first|simp only[hb,Vc.down,seval,yY.down,c3,c5,c6,c7,c8,hd2,hd3,hls,hu,aCF,hEb,gE,Ae hls,Ae hEb,hw3,gvb,hB,hSb,h39,Oa,Gl,aqD,acL]|refine Bm ?_ ?_<;>intro hb|((refine oC (eR (sf) ?_) ?_);(simp (discharger:=decide) only[oL,bW,aAO,aJZ,Ry,oD,oV,nZ,nY,Rz,acZ,aER,s1,s2,s4,sn,sk];kernel_rfl);intro _)|refine fdq ?_|fail))
       obtain⟨k1,k2,k3,k4⟩:=Ug (h.set vb CB.dead++[CB.live 1 true false [[AV.int IntKind.i64 n]],CB.live 1 true false [[AV.int IntKind.i64 n]],CB.live 1 false false [[AV.slr 1 (h.length+1) 0 1]],CB.live 1 false false (aON (fun v=>[v]) vvs++[[AV.slr 1 (h.length+1) 0 1]])]) (by simp) (fun c hc=>hkd vb _ c (by omega) (by omega))
       refine Bn (kJ3 _ _ () ⟨.slr 1 (h.length+3) 0 (vvs.length+1),by simp[up,c1],by simp[up,c3],by simp[up,c4],by simp[up,c5],by simp[up],by simp[up,c7],by simp[up],k1,k2,k3,k4,?_⟩ rfl)
       rw[htk4]
       exact .inr ⟨h.length+3,vvs++[AV.slr 1 (h.length+1) 0 1],by simp[N.ln],N.snoc (fun c _ h2 h3=>hkd vb _ c h2 h3) (.inr ⟨h.length+1,false,by simp,by simp,(Gl _ _ 1).trans rfl,by omega,by simp⟩) (fun c s n e=>by cases e;omega) ⟨false,(Gl _ _ 3).trans rfl⟩ (by omega) (by simp)⟩
     ·have gubA:=Ae gub
      have hcp:=bdB hrn (by omega)
      have htk:List.take r.length (r.map iv)=r.map iv:=aRF (by simp)
      rcases N with⟨hn,rfl⟩|⟨vb,vvs,rfl,N⟩
      ·obtain⟨sf,s1,s2,s3,sn,sk⟩:∃sf:Nat→Nat,sf rb=1∧sf eb=1∧sf ub=1∧sf h.length=10∧∀k,sf (h.length+k)=k+10:=⟨fun b=>if h.length≤b then b-h.length+10 else 1,by simp;omega,by simp;omega,by simp;omega,by simp,fun k=>by simp⟩
       (have hb:=trivial;with_reducible repeat' (first|simp only[hb,Vc.down,seval,yY.down,c3,c5,c6,c7,c8,hd2,hd3,hls,hu,aCF,hEb,gE,Ae hls,Ae hEb,hw3,gub,gubA,htk,hcp,hr39,acL]|refine Bm ?_ ?_<;>intro hb|((refine oC (eR (sf) ?_) ?_);(simp (discharger:=decide) only[oL,bW,aAO,aJZ,Ry,oD,oV,nZ,nY,Rz,acZ,aER,s1,s2,s3,sn,sk];kernel_rfl);intro _)|refine fdq ?_|fail))
       obtain⟨k1,k2,k3,k4⟩:=Ug (h++[CB.dead,CB.live 1 true false [[AV.int IntKind.i64 n]],CB.live 1 true false (aON iv r++[[AV.int IntKind.i64 n]]),CB.live 1 false false [[AV.slr 1 (h.length+2) 0 (r.length+1)]],CB.live 1 false false [[AV.slr 1 (h.length+2) 0 (r.length+1)]]]) (by simp) (fun c hc=>hkp _ c (by omega))
       refine Bn (kJ3 _ _ () ⟨.slr 1 (h.length+4) 0 1,by simp[up,c1],by simp[up,c3],by simp[up,c4],by simp[up,c5],by simp[up],by simp[up,c7],by simp[up],k1,k2,k3,k4,?_⟩ rfl)
       rw[htk4]
       subst hn
       exact .inr ⟨h.length+4,[AV.slr 1 (h.length+2) 0 (r.length+1)],by simp,.one (.inr ⟨h.length+2,false,by simp,by simp,(Qg _ _ 2).trans (by simp[iv]),by omega,by simp⟩) (fun c s n e=>by cases e;omega) ⟨false,(Qg _ _ 4).trans rfl⟩ (by omega) (by simp)⟩
      ·obtain⟨xv,gvb⟩:=N.ls
       have hvl:=Aw gvb
       have hv1:=N.lob
       obtain⟨sf,s1,s2,s3,s4,sn,sk⟩:∃sf:Nat→Nat,sf rb=1∧sf eb=1∧sf ub=1∧sf vb=4∧sf h.length=10∧∀k,sf (h.length+k)=k+10:=⟨fun b=>if h.length≤b then b-h.length+10 else if b=vb then 4 else 1,by show(if _ then _ else _)=_;rw[if_neg (by omega),if_neg (by omega)],by show(if _ then _ else _)=_;rw[if_neg (by omega),if_neg (by omega)],by show(if _ then _ else _)=_;rw[if_neg (by omega),if_neg (by omega)],by show(if _ then _ else _)=_;rw[if_neg (by omega),if_pos rfl],by simp,fun k=>by simp⟩
       have hB:=Ae gvb
       have hSb:=Jj hvl
       have h39:(vvs.length+1≤549755813888)=True:=eq_true (by rw[N.ln];omega)
       rw[←N.ln]at c6
       (have hb:=trivial;with_reducible repeat' (first|simp only[hb,Vc.down,seval,yY.down,c3,c5,c6,c7,c8,hd2,hd3,hls,hu,aCF,hEb,gE,Ae hls,Ae hEb,hw3,gub,gubA,htk,hcp,hr39,gvb,hB,hSb,h39,Oa,Gl,aqD,acL]|refine Bm ?_ ?_<;>intro hb|((refine oC (eR (sf) ?_) ?_);(simp (discharger:=decide) only[oL,bW,aAO,aJZ,Ry,oD,oV,nZ,nY,Rz,acZ,aER,s1,s2,s3,s4,sn,sk];kernel_rfl);intro _)|refine fdq ?_|fail))
       obtain⟨k1,k2,k3,k4⟩:=Ug (h.set vb CB.dead++[CB.dead,CB.live 1 true false [[AV.int IntKind.i64 n]],CB.live 1 true false (aON iv r++[[AV.int IntKind.i64 n]]),CB.live 1 false false [[AV.slr 1 (h.length+2) 0 (r.length+1)]],CB.live 1 false false (aON (fun v=>[v]) vvs++[[AV.slr 1 (h.length+2) 0 (r.length+1)]])]) (by simp) (fun c hc=>hkd vb _ c (by omega) (by omega))
       refine Bn (kJ3 _ _ () ⟨.slr 1 (h.length+4) 0 (vvs.length+1),by simp[up,c1],by simp[up,c3],by simp[up,c4],by simp[up,c5],by simp[up],by simp[up,c7],by simp[up],k1,k2,k3,k4,?_⟩ rfl)
       rw[htk4]
       exact .inr ⟨h.length+4,vvs++[AV.slr 1 (h.length+2) 0 (r.length+1)],by simp[N.ln],N.snoc (fun c _ h2 h3=>hkd vb _ c h2 h3) (.inr ⟨h.length+2,false,by simp,by simp,(Gl _ _ 2).trans (by simp[iv]),by omega,by simp⟩) (fun c s n e=>by cases e;omega) ⟨false,(Gl _ _ 4).trans rfl⟩ (by omega) (by simp)⟩
    ·exact⟨v,by simp[up,c1],by simp[up,c3],by simp[up,c4],by simp[up,c5],by simp[up,c6],by simp[up,c7],by simp[up],h0,I,hEb,hl,by simpa using N⟩
    ·obtain⟨rfl,v,c1,c3,c4,c5,c6,c7,h0,I,hEb,hl,N⟩:=hk
     (have hb:=trivial;with_reducible repeat' (first|simp only[hb,Vc.down,seval,yY.down,c7,hw2]|refine Bm ?_ ?_<;>intro hb|refine fd ?_|fail))
     exact Bn (kJ2 _ _ () ⟨v,by simp[up,c1],by simp[up,c3],by simp[up,c4],by simp[up,c5],by simp[up,c6],by simp[up]<;>omega,h0,I,hEb,hl,by rw[htk2];exact N⟩ rfl)
   ·exact⟨.nils,by simp[up,c1],by simp[up,c3],by simp[up,c4],by simp[up],by simp[up],by simp[up],⟨x0,h01⟩,I1,g1,aAP _,.inl ⟨by simp[Wx],rfl⟩⟩
   ·obtain⟨rfl,v,c1,c4,c6,h0,hl,N⟩:=hk
    rcases N with⟨hn,_⟩|⟨b,vs',rfl,N⟩
    ·have h1:=yE m (i+1)
     rw[hR2,hn]at h1
     simp at h1
    ·(have hb:=trivial;with_reducible repeat' (first|simp only[hb,Vc.down,seval,yY.down,c4,c6,hw]|refine Bm ?_ ?_<;>intro hb|refine fd ?_|fail))
     exact Bn (kJ _ _ () ⟨b,vs',by simp[up,c1],by simp[up,hR2],by simp[up]<;>omega,h0,by exact N.keep (fun _ _ _=>rfl) (by have:=Aw h01;omega) (aAP _)⟩ rfl)
  ·exact⟨1,[.nils],by simp[up,Fe],by simp[up,Jo,kM],by simp[up],⟨false,rfl⟩,.one (.inl ⟨rfl,rfl⟩) (by simp) ⟨false,rfl⟩ (by omega) (by simp)⟩
  ·obtain⟨rfl,b,vs,c1,c3,h0,I⟩:=hk
   have hRl:=hRN m.sens.length (aAP _)
   have hall:Dy m=aH (Fg m) (Jo m m.sens.length):=by rw[aJI];rfl
   rw[hall]at hN hK
   generalize Jo m m.sens.length=RN at *
   have hC5:(Fg m).length≤5:=by omega
   have hwl:∀k,k≤RN.length→(aH (Fg m) (RN.take k)).length≤4000:=fun k hk=>by
    refine aC6 ?_ hN
    unfold aH
    rw[←List.take_append_drop k RN,List.flatMap_append,aE9]
    simp
   obtain⟨HH,hHH⟩:∃HH,h.length=HH:=⟨_,rfl⟩
   have O0:OtI m HH RN b vs [] .nils h:=⟨h0,hHH▸I,by omega,⟨[],[],LLG.none,rfl,by simp,by simp⟩,fun _ _ _ _ e=>by cases e⟩
   (have hb:=trivial;with_reducible repeat' (first|simp only[hb,Vc.down,seval,yY.down]|refine Bm ?_ ?_<;>intro hb|refine fd ?_|fail))
   refine Eo (Wy 72 RN (fun k (_:Unit) t h=>∃v,t 1=.ptr 0 0 0∧t 3=.slr 1 b 0 RN.length∧t 9=v∧t 10=.int .i64 k∧OtI m HH RN b vs (aH (Fg m) (RN.take k)) v h) (fun _ _=>()) (fun _ e t h=>e=.exit 6∧∃v,t 9=v∧OtI m HH RN b vs (aH (Fg m) RN) v h) ?_ ?_ () _ _ ?_) (fun e t h hk=>?_)
   ·rintro _ t h Q2 kQ2 ⟨v,c1,c3,c9,c10,O⟩
    rw[aOD]at O
    (have hb:=trivial;with_reducible repeat' (first|simp only[hb,Vc.down,seval,yY.down,c3,c10,aHM,decide_false]|refine Bm ?_ ?_<;>intro hb|refine fd ?_|fail))
    exact kQ2 _ _ _ ⟨rfl,v,by simp[up,c9],O⟩
   ·rintro r rest k _ t h J2 Q2 kJ2 kQ2 hx2 hk2 ⟨v,c1,c3,c9,c10,O⟩
    have hd2:((k:Int)<(RN.length:Int))=True:=eq_true (by omega)
    have hw2:=Bo hk2 (show RN.length≤maxLen by unfold maxLen;omega)
    have htk2:aH (Fg m) (RN.take (k+1))=aH (Fg m) (RN.take k)++(Fg m).map fun c=>(r,c):=by rw[aID,hx2];simp[aH]
    have hlk:=hwl (k+1) (by omega)
    rw[htk2]at hlk
    obtain⟨u,hu⟩:∃u,vs[k]?=some u:=⟨_,aEO (by rw[O.I.ln];omega)⟩
    (have hb:=trivial;with_reducible repeat' (first|simp only[hb,Vc.down,seval,yY.down,c3,c10,hd2]|refine Bm ?_ ?_<;>intro hb|refine fd ?_|fail))
    generalize hX0:aH (Fg m) (RN.take k)=X0 at O hlk htk2
    refine Eo (Wy 72 (Fg m) (fun j (_:Unit) t h=>∃v,t 1=.ptr 0 0 0∧t 3=.slr 1 b 0 RN.length∧t 9=v∧t 10=.int .i64 k∧t 11=.int .i64 ((j:Int)-1)∧OtI m HH RN b vs (X0++((Fg m).take j).map fun c=>(r,c)) v h) (fun _ _=>()) (fun _ e t h=>e=.exit 8∧∃v,t 1=.ptr 0 0 0∧t 3=.slr 1 b 0 RN.length∧t 9=v∧t 10=.int .i64 k∧OtI m HH RN b vs (X0++(Fg m).map fun c=>(r,c)) v h) ?_ ?_ () _ _ ?_) (fun e t h hk=>?_)
    ·rintro _ t h Q3 kQ3 ⟨v,c1,c3,c9,c10,c11,O⟩
     rw[aOD]at O
     obtain⟨x0,h0⟩:=O.h0
     have hdd:decide (((Fg m).length:Int)-1<m.cmds)=false:=decide_eq_false (by omega)
     (have hb:=trivial;with_reducible repeat' (first|simp only[hb,Vc.down,seval,yY.down,c1,c11,h0,hdd]|refine Bm ?_ ?_<;>intro hb|refine fd ?_|fail))
     exact kQ3 _ _ _ ⟨rfl,v,by simp[up,c1],by simp[up,c3],by simp[up,c9],by simp[up,c10],O⟩
    ·rintro c rest j _ t h J3 Q3 kJ3 kQ3 hx3 hk3 ⟨v,c1,c3,c9,c10,c11,O⟩
     obtain⟨x0,h0⟩:=O.h0
     have hce:=aH3 hx3
     have hdd:decide ((j:Int)-1<m.cmds)=true:=decide_eq_true (by omega)
     rw[←hce]at c11 hdd
     have hww:IntKind.i64.wrap (c+1)=c+1:=Dz (by omega) (by omega)
     have htk3:X0++((Fg m).take (j+1)).map (fun c=>(r,c))=(X0++((Fg m).take j).map (fun c=>(r,c)))++[(r,c)]:=by rw[aID,hx3,aLD,←aVS];rfl
     have hXl:(X0++((Fg m).take j).map fun c=>(r,c)).length≤4000:=by
      refine aC6 ?_ hlk
      simp only[aE9,acL,aQ7]
      omega
     generalize X0++((Fg m).take j).map (fun c=>(r,c))=X at O htk3 hXl
     obtain⟨rows,Ro,L,l1,l2,l3⟩:=O.L
     obtain⟨xl,hls⟩:=O.I.ls
     have own':=L.own
     have hap:=fun(q:Aa) (r:List AV)=>aw2 own' (pre:=[]) rfl q r [] (by simp;omega)
     have hhp:=fun(q:Aa) (r:List (List AV)) (ba:Nat)=>aE0 own' (pre:=[]) rfl q 2 false r ba
     simp only[aVT]at hap hhp
     rw[l1]at hap
     have hac:Bd u=[u]:=by rcases(O.I.rw k u r hu hx2).1 with⟨rfl,_⟩|⟨d,x,rfl,_⟩<;>rfl
     have hic:u.isCell=true:=by rcases(O.I.rw k u r hu hx2).1 with⟨rfl,_⟩|⟨d,x,rfl,_⟩<;>rfl
     (have hb:=trivial;with_reducible repeat' (first|simp only[hb,Vc.down,seval,yY.down,c1,c3,c9,c10,c11,h0,hdd,hww,hls,hu,hd2,hac,hic,aCF,hap,hhp,acL]|refine Bm ?_ ?_<;>intro hb|refine fd ?_|fail))
     refine Bn (kJ3 _ _ () ⟨.slr 2 (h.length+1) 0 (X.length+1),by simp[up,c1],by simp[up,c3],by simp[up],by simp[up,c10],by simp[up]<;>omega,?_⟩ rfl)
     rw[htk3]
     exact O.snoc L l1 l2 l3 hu hx2 c _
    ·exact⟨v,by simp[up,c1],by simp[up,c3],by simp[up,c9],by simp[up,c10],by simp[up],by simpa using O⟩
    ·obtain⟨rfl,v,c1,c3,c9,c10,O⟩:=hk
     (have hb:=trivial;with_reducible repeat' (first|simp only[hb,Vc.down,seval,yY.down,c10,hw2]|refine Bm ?_ ?_<;>intro hb|refine fd ?_|fail))
     exact Bn (kJ2 _ _ () ⟨v,by simp[up,c1],by simp[up,c3],by simp[up,c9],by simp[up]<;>omega,by rw[htk2];exact O⟩ rfl)
   ·exact⟨.nils,by simp[up,c1],by simp[up,c3],by simp[up],by simp[up],by simpa [aH]using O0⟩
   ·obtain⟨rfl,v,c9,O⟩:=hk
    obtain⟨rows,Ro,L,l1,l2,l3⟩:=O.L
    obtain⟨R,r1,_,r2⟩:=L.read
    (have hb:=trivial;with_reducible repeat' (first|simp only[hb,Vc.down,seval,yY.down,c9]|refine Bm ?_ ?_<;>intro hb|refine fd ?_|fail))
    refine hK _ ?_
    rw[aFF]
    refine aK8 (vs:=[v]) (by simp only[Vc.down,seval,yY.down,c9]) (aGW r1 (by omega) fun v' h' R' k1 k2 k3=>⟨v',R',rfl,k1,by omega,k3⟩)
 obtain⟨o,h',e,v,R,rfl,k1,k2,k3⟩:=key
 exact⟨v,h',R,e,k1,k2,k3⟩
def iK(y:Nat):Int × Int:=(((y / 11:Nat):Int),((y % 11:Nat):Int))
def dH(v:Int × Int):Nat:=v.1.toNat*11+v.2.toNat
def Ia(m:Ah):Nat:=m.states.toNat*11
theorem fA{m:Ah}{v:Int × Int}(h:okN m v):iK (dH v)=v:=by
 obtain⟨h1,h2,h3,h4⟩:=h
 unfold iK dH
 have e1:(v.1.toNat*11+v.2.toNat) / 11=v.1.toNat:=by omega
 have e2:(v.1.toNat*11+v.2.toNat) % 11=v.2.toNat:=by omega
 rw[e1,e2]
 exact Prod.ext (by simp only;omega) (by simp only;omega)
theorem afI{m:Ah}{v:Int × Int}(h:okN m v):dH v<Ia m:=by
 obtain⟨h1,h2,h3,h4⟩:=h
 unfold dH Ia
 have:v.1.toNat+1≤m.states.toNat:=by omega
 have:=aT3 11 this
 omega
theorem a6T{m:Ah}{v:Int × Int}(h:okN m v):(dH v:Int)=v.1*11+v.2:=by
 obtain⟨h1,h2,h3,h4⟩:=h
 unfold dH;omega
theorem aQN{m:Ah}(hm:Ce m=true):Ia m≤88∧(Ia m:Int)=m.states*11∧11≤Ia m:=by
 have:=Kv hm
 unfold Ia;omega
theorem aEJ{y:Nat}:dH (iK y)=y:=by
 unfold iK dH;simp only[aV9];omega
theorem a85{m:Ah}{y:Nat}(h:y<Ia m):okN m (iK y):=by
 unfold Ia at h
 refine⟨?_,?_,?_,?_⟩<;>simp only[iK]<;>omega
theorem a50{y z:Nat}(h:iK y=iK z):y=z:=by rw[←aEJ (y:=y),h,aEJ]
def Ud(D:List ((Int × Int) × List Nat))(y:Nat):Option (List Nat):=aDY D (iK y)
theorem aeI(D:List ((Int × Int) × List Nat))(v:Int × Int)(p:List Nat)(w:Int × Int):aDY (D++[(v,p)]) w=match aDY D w with
 |some q=>some q
 |none=>if v=w then some p else none:=by
 unfold aDY
 rw[List.find?_append]
 cases hf:D.find? fun x=>decide (x.1=w)with
 |some x=>simp
 |none=>
  by_cases e:v=w
  ·simp[e]
  ·simp[e]
theorem aBN{D:List ((Int × Int) × List Nat)}{w:Int × Int}:aDY D w=none↔w∉D.map (·.1):=by
 unfold aDY
 rw[Option.map_eq_none_iff,List.find?_eq_none]
 constructor
 ·intro h hw
  obtain⟨x,hx,e⟩:=aM9.1 hw
  have:=h x hx
  simp[e]at this
 ·intro h x hx e
  simp only[decide_eq_true_eq]at e
  exact h (aM9.2 ⟨x,hx,e⟩)
def isT(m:Ah)(D:List ((Int × Int) × List Nat)):List Bool:=(aHJ (Ia m)).map fun y=>(Ud D y).isSome
theorem aaA(m:Ah)(D:List ((Int × Int) × List Nat)):(isT m D).length=Ia m:=by simp[isT]
theorem aEH{m:Ah}(D:List ((Int × Int) × List Nat)){y:Nat}(h:y<Ia m):(isT m D)[y]?=some (Ud D y).isSome:=by
 unfold isT;rw[aAN,aPH h];rfl
theorem aRK{m:Ah}{D:List ((Int × Int) × List Nat)}{v:Int × Int}(hv:okN m v)(hn:v∉D.map (·.1))(p:List Nat):isT m (D++[(v,p)])=(isT m D).set (dH v) true:=by
 refine aWA fun i=>?_
 by_cases hi:i<Ia m
 ·rw[aEH _ hi]
  by_cases e:dH v=i
  ·subst e
   rw[aLG (by rw[aaA];exact hi)]
   unfold Ud
   rw[fA hv,aeI,aBN.2 hn]
   simp
  ·rw[acR e,aEH _ hi]
   unfold Ud
   rw[aeI]
   have:v≠iK i:=fun h=>e (by rw[h,aEJ])
   cases aDY D (iK i)<;>simp[this]
 ·rw[aRG (by rw[aaA];omega),aRG (by rw[aqD,aaA];omega)]
theorem aWU{m:Ah}{D:List ((Int × Int) × List Nat)}{v:Int × Int}(hv:okN m v)(hn:v∉D.map (·.1))(p:List Nat)(y:Nat):Ud (D++[(v,p)]) y=if y=dH v then some p else Ud D y:=by
 unfold Ud
 by_cases e:y=dH v
 ·subst e
  rw[if_pos rfl,fA hv,aeI,aBN.2 hn]
  simp
 ·rw[if_neg e,aeI]
  have:v≠iK y:=fun h=>e (by rw[h,aEJ])
  cases aDY D (iK y)<;>simp[this]
def PwB(h:Aa)(srow:Nat→List AV)(lo lb:Nat)(p:List Nat)(u:AV):Prop:=(u=.nils∧p=[])∨∃c x,u=.slr 2 c 0 p.length∧p≠[]∧h[c]?=some (.live 2 false x (p.map srow))∧lo≤c∧c≠lb
theorem PwB.keep{h h':Aa}{srow:Nat→List AV}{lo lb lb':Nat}{p:List Nat}{u:AV}(I:PwB h srow lo lb p u)(k:∀c,lo≤c→c<h.length→c≠lb→h'[c]?=h[c]?)(hb:h.length≤lb'∨lb'=lb):PwB h' srow lo lb' p u:=by
 rcases I with h1|⟨c,x,rfl,h2,h3,h4,h5⟩
 ·exact .inl h1
 ·have:=Aw h3
  exact .inr ⟨c,x,rfl,h2,by rw[k c h4 this h5];exact h3,h4,by omega⟩
structure PzH(m:Ah)(X:List (List Int × Int))(H1:Aa)(srow:Nat→List AV)(D:List ((Int × Int) × List Nat))(i j lb:Nat)(PS:List AV)(h:Aa):Prop where
 B:BF (fun v i=>stp m v (gS X i)) X.length (m.bgn,0) D i j
 len:H1.length≤h.length
 kp:∀c,c<H1.length→c≠1→c≠2→h[c]?=H1[c]?
 ps:∃x,h[1]?=some (.live 1 false x (PS.map fun v=>[v]))
 pl:PS.length=Ia m
 pr:∀(y:Nat) (u:AV),PS[y]?=some u→PwB h srow H1.length lb ((Ud D y).getD []) u
 is_:∃x,h[2]?=some (.live 1 true x ((isT m D).map fun b=>[.bool b]))
 ln:∃x,h[lb]?=some (.live 1 true x (D.map fun x=>[.int .i64 (dH x.1)]))
 lbl:H1.length≤lb
theorem PzH.new{m:Ah}{X:List (List Int × Int)}{H1:Aa}{srow:Nat→List AV}{D:List ((Int × Int) × List Nat)}{i j lb:Nat}{PS:List AV}{h:Aa}(F:PzH m X H1 srow D i j lb PS h){v:Int × Int}(hv:okN m v)(hn:v∉D.map (·.1)){p:List Nat}(B:BF (fun v i=>stp m v (gS X i)) X.length (m.bgn,0) (D++[(v,p)]) i (j+1)){G:Aa}{u:AV}{lb':Nat}(hl:h.length≤G.length)(h3:3≤H1.length)(k:∀c,c<h.length→c≠1→c≠2→c≠lb→G[c]?=h[c]?)(g1:∃x,G[1]?=some (.live 1 false x ((PS.set (dH v) u).map fun v=>[v])))(g2:∃x,G[2]?=some (.live 1 true x (((isT m D).set (dH v) true).map fun b=>[.bool b])))(g3:∃x,G[lb']?=some (.live 1 true x (D.map (fun x=>[.int .i64 (dH x.1)])++[[.int .i64 (dH v)]])))(hlb:h.length≤lb')(hu:PwB G srow H1.length lb' p u):PzH m X H1 srow (D++[(v,p)]) i (j+1) lb' (PS.set (dH v) u) G:=by
 obtain⟨_,len,kp,_,pl,pr,_,_,lbl⟩:=F
 refine⟨B,by omega,fun c c1 c2 c3=>by rw[k c (by omega) c2 c3 (by omega)];exact kp c c1 c2 c3,g1,by rw[aqD,pl],fun y u' hu'=>?_,by rw[aRK hv hn];exact g2,by simpa using g3,by omega⟩
 rw[aWU hv hn]
 by_cases e:y=dH v
 ·subst e
  rw[aLG (by rw[pl];exact afI hv)]at hu'
  cases hu'
  rw[if_pos rfl]
  exact hu
 ·rw[acR (fun h=>e h.symm)]at hu'
  rw[if_neg e]
  exact(pr y u' hu').keep (fun c c1 c2 c3=>k c c2 (by omega) (by omega) c3) (.inl hlb)
theorem aLB{m:Ah}(hm:Ce m=true){v:Int × Int}(h:okN m v):Ec.call (.fn 61) [.int .i64 v.1,.int .i64 v.2] []=some (.ret (.int .i64 (dH v)),[]):=by
 have hst:=Kv hm
 have h1:=a6T h
 obtain⟨h2,h3,h4,h5⟩:=h
 have w1:IntKind.i64.wrap (v.1*11)=v.1*11:=Dz (by omega) (by omega)
 have w2:IntKind.i64.wrap (v.1*11+v.2)=(dH v:Int):=by rw[Dz (by omega) (by omega)];exact h1.symm
 (refine ce Try.func61 ?_;simp only[Try.f61];(have hb:=trivial;with_reducible repeat' (first|simp only[hb,Vc.down,seval,w1,w2]|refine Bm ?_ ?_<;>intro hb|refine fd ?_|fail)))
theorem aeT{f:AV→Option (AV × List Nat)}:∀{l:List (List AV)} {p:List (List AV) × List Nat} {i:Nat} {X:List AV},Ek f l=some p→p.1[i]?=some X→∃r R,l[i]?=some r∧cY f r=some (X,R)∧∀b∈R,b∈p.2
 | [],p,i,X,h,hx=>by simp[Ek]at h;subst h;simp at hx
 |a::l,p,i,X,h,hx=>by
  simp only[Ek,aLE,aXG]at h
  obtain⟨q,hq,r,hr,rfl⟩:=h
  cases i with
  |zero=>
   simp only[aOX,aG6.injEq]at hx
   subst hx
   exact⟨a,q.2,rfl,hq,fun b hb=>List.mem_append_left _ hb⟩
  |succ i=>
   simp only[List.getElem?_cons_succ]at hx
   obtain⟨r',R,k1,k2,k3⟩:=aeT hr hx
   exact⟨r',R,by simpa using k1,k2,fun b hb=>List.mem_append_right _ (k3 b hb)⟩
theorem aR3(H:Aa)(n:Int):rdV H (.int .i64 n)=some (.int .i64 n):=rfl
theorem PzH.grow{m:Ah}{X:List (List Int × Int)}{H1:Aa}{srow:Nat→List AV}{D:List ((Int × Int) × List Nat)}{i j lb:Nat}{PS:List AV}{h:Aa}(F:PzH m X H1 srow D i j lb PS h){v:Int × Int}(hv:okN m v)(hn:v∉D.map (·.1)){p:List Nat}(B:BF (fun v i=>stp m v (gS X i)) X.length (m.bgn,0) (D++[(v,p)]) i (j+1))(h3:3≤H1.length)(u:AV)(l:Aa){n:Nat}(hl:n=h.length+l.length)(hu:∃k x,u=.slr 2 (h.length+k) 0 p.length∧p≠[]∧l[k]?=some (.live 2 false x (p.map srow))):
 PzH m X H1 srow (D++[(v,p)]) i (j+1) n (PS.set (dH v) u) (((h.set 2 (.live 1 true true (((isT m D).map fun b=>[AV.bool b]).set (dH v) [.bool true]))).set 1 (.live 1 false true ((PS.map fun v=>[v]).set (dH v) [u]))).set lb .dead++(l++[.live 1 true false (D.map (fun x=>[AV.int .i64 (dH x.1)])++[[.int .i64 (dH v)]])])):=by
 have hlen:=F.len
 have hlbl:=F.lbl
 obtain⟨k,x,rfl,hp,hk⟩:=hu
 have hkl:=Aw hk
 obtain⟨A,hA⟩:∃A,CB.live 1 true true (((isT m D).map fun b=>[AV.bool b]).set (dH v) [.bool true])=A:=⟨_,rfl⟩
 obtain⟨C,hC⟩:∃C,CB.live 1 false true ((PS.map fun v=>[v]).set (dH v) [.slr 2 (h.length+k) 0 p.length])=C:=⟨_,rfl⟩
 rw[hA,hC]
 have hat:∀(q:Nat) (ll:Aa),(((h.set 2 A).set 1 C).set lb CB.dead++ll)[h.length+q]?=ll[q]?:=fun q ll=>by
  rw[aKM (by simp only[aqD];omega)]
  simp only[aqD]
  congr 1;omega
 refine F.new hv hn B (by simp) h3 (fun c c1 c2 c4 c5=>?_) ⟨true,?_⟩ ⟨true,?_⟩ ⟨false,?_⟩ (by omega) (.inr ⟨h.length+k,x,rfl,hp,?_,by omega,by omega⟩)
 ·rw[aAM (by simpa using c1),acR (fun e=>c5 e.symm),acR (fun e=>c2 e.symm),acR (fun e=>c4 e.symm)]
 ·rw[aAM (by simp only[aqD];omega),acR (by omega),aLG (by simp only[aqD];omega),←hC,aR1]
 ·rw[aAM (by simp only[aqD];omega),acR (by omega),acR (by omega),aLG (by omega),←hA,aR1]
 ·rw[hl,hat,aKM (aAP _),Nat.sub_self];rfl
 ·rw[hat,aAM hkl];exact hk
theorem a74{st:Nat}{fl:Bool}{r:List (List AV)}(h:r≠[])(hl:r.length≤1000)(H:Aa):apK st H (some .nils) (some (fl,r))=some (.ret (.slr st H.length 0 r.length),[.new H.length (.live st fl false r)]):=by
 cases r with
 |nil=>exact(h rfl).elim
 |cons a r=>
  have:=aw2 (k:=0) (pre:=[]) (jV.nil 0 st fl H) rfl [] a r (by simp at hl ⊢;omega)
  simpa [apE]using this
def bbS:Nat→Nat
 |0=>0
 |n+1=>bbS n+(n+1)
theorem aRQ{l:List Nat}(h:∀k x,l[k]?=some x→x≤k+1):∀n,(l.take n).sum≤bbS n
 |0=>by simp
 |n+1=>by
  have ih:=aRQ h n
  rw[aID,List.sum_append]
  unfold bbS
  cases hx:l[n]? with
  |none=>simp;omega
  |some x=>have:=h n x hx;simp;omega
def wN(D:List ((Int × Int) × List Nat))(y:Nat):Nat:=((Ud D y).map fun p=>p.length+1).getD 0
theorem a0Q:∀(D:List ((Int × Int) × List Nat)) (L:List Nat),L.Nodup→(L.map (wN D)).sum≤(D.map fun x=>x.2.length+1).sum
 | [],L,_=>by
   have h0:∀L:List Nat,(L.map (wN [])).sum=0:=by
    intro L
    induction L with
    |nil=>rfl
    |cons a L ih=>rw[aAO,aLH,ih];rfl
   rw[h0];exact Nat.zero_le _
 |x::D,L,hL=>by
  have ih:=a0Q D L hL
  have e:∀y,wN (x::D) y=if x.1=iK y then x.2.length+1 else wN D y:=fun y=>by
   unfold wN Ud aDY
   rw[List.find?_cons]
   by_cases h:x.1=iK y
   ·simp[h]
   ·simp[h]
  have key:∀L:List Nat,L.Nodup→(L.map (wN (x::D))).sum≤(x.2.length+1)+(L.map (wN D)).sum∧((∀y∈L,x.1≠iK y)→(L.map (wN (x::D))).sum≤(L.map (wN D)).sum):=by
   intro L
   induction L with
   |nil=>intro _;simp
   |cons y L ih2=>
    intro hn
    obtain⟨n1,n2⟩:=List.nodup_cons.1 hn
    obtain⟨i1,i2⟩:=ih2 n2
    rw[aAO,aAO,aLH,aLH,e y]
    by_cases h:x.1=iK y
    ·rw[if_pos h]
     have:=i2 fun z hz hxz=>n1 (by rw[a50 (h.symm.trans hxz)];exact hz)
     exact⟨by omega,fun hh=>absurd h (hh y (by simp))⟩
    ·rw[if_neg h]
     exact⟨by omega,fun hh=>by have:=i2 fun z hz=>hh z (by simp[hz]);omega⟩
  rw[aAO,aLH]
  have:=(key L hL).1
  omega
theorem aFS{f:AV→Option (AV × List Nat)}{val:Nat→AV}{w:Nat→Nat}:∀(PS:List AV) (k:Nat),(∀(y:Nat) (u:AV),PS[y]?=some u→∃R,f u=some (val (k+y),R)∧R.length≤w (k+y))→∃R,Ek f (PS.map fun v=>[v])=some ((List.range' k PS.length).map fun y=>[val y],R)∧R.length≤((List.range' k PS.length).map w).sum
 | [],k,_=>⟨[],rfl,by simp⟩
 |u::PS,k,h=>by
  obtain⟨R1,a1,a2⟩:=h 0 u rfl
  obtain⟨R2,b1,b2⟩:=aFS PS (k+1) fun y v hv=>by
   have:=h (y+1) v (by simpa using hv)
   rwa[show k+(y+1)=k+1+y by omega]at this
  rw[Nat.add_zero]at a1 a2
  refine⟨R1++R2,?_,?_⟩
  ·simp[Ek,cY,a1,b1,aXO]
  ·rw[acZ,aXO,aAO,aLH,aE9]
   omega
theorem aCZ{f:AV→Option (AV × List Nat)}{srow g:Nat→List AV}:∀(p:List Nat),(∀k∈p,∃R,cY f (srow k)=some (g k,R)∧R.length≤1)→∃R,Ek f (p.map srow)=some (p.map g,R)∧R.length≤p.length
 | [],_=>⟨[],rfl,by simp⟩
 |k::p,h=>by
  obtain⟨R1,a1,a2⟩:=h k (by simp)
  obtain⟨R2,b1,b2⟩:=aCZ p fun j hj=>h j (by simp[hj])
  exact⟨R1++R2,by simp[Ek,a1,b1],by simp;omega⟩
def aYL(m:Ah)(p:List Nat):AV:=Ak 2 false false (p.map fun i=>scC (gS (Dy m) i))
theorem a4Y{m:Ah}(hs:m.small)(hm:Ce m=true)(hN:(Dy m).length≤200):∃E,Fnd m (Dy m) E∧RdT Ec 58 [.agg m.cells] [Ak 1 false false ((aHJ (Ia m)).map fun y=>[aYL m ((Ud E y).getD [])]),Ak 1 true false ((isT m E).map fun b=>[.bool b])] 4500:=by
 have key:ClQ Ec 58 [.agg m.cells] [] fun o h'=>∃E outs R,Fnd m (Dy m) E∧o=.ret (.tup outs)∧cY (rd 6 (hf h')) outs=some ([Ak 1 false false ((aHJ (Ia m)).map fun y=>[aYL m ((Ud E y).getD [])]),Ak 1 true false ((isT m E).map fun b=>[.bool b])],R)∧R.length≤4500∧∀c∈h',Rnm c:=by
  obtain⟨q,hq⟩:∃q,Fn.func 59=q:=⟨_,rfl⟩
  obtain⟨qp,hqp⟩:∃q,Fn.func 61=q:=⟨_,rfl⟩
  obtain⟨qs,hqs⟩:∃q,Fn.func 17=q:=⟨_,rfl⟩
  have hst:=Kv hm
  have hpl:=aQN hm
  have hw0:IntKind.i64.wrap (m.states*11)=(Ia m:Int):=by rw[Dz (by omega) (by omega)];exact hpl.2.1.symm
  have hP0:((0:Int)≤(Ia m:Int))=True:=eq_true (by omega)
  have hP1:((Ia m:Int)≤1099511627776)=True:=eq_true (by omega)
  have KS:=aSS hs hm (by omega)
  obtain⟨v,es,H1,R,e1,e2,K1,r1,r2,r3⟩:=KS.cl (H:=[.live 7 false false [m.cells],.live 1 false false (aC7 (Ia m) [.nils]),.live 1 true false (aC7 (Ia m) [.bool false])]) (args:=[.agg m.cells]) (uA rfl) (by simp only[Ou,Um,aDK,Ly]) (by simp[Vx,aIC])
  rw[hq]at e1
  rw[show([AV.agg m.cells].flatMap (Dk 12 (hf [CB.live 7 false false [m.cells],.live 1 false false (aC7 (Ia m) [.nils]),.live 1 true false (aC7 (Ia m) [.bool false])])))=[]from by rw[aLI,Vk _ (show 8≤12 by omega) (Vx m)];rfl]at K1
  have hXl:1≤(Dy m).length:=by
   rw[abT]
   exact aOZ (yE m m.sens.length) (show 1≤(Fg m).length by have:=mP hm;have:=eT hm;omega)
  have hS:=Xo hm
  obtain⟨X,hX⟩:∃X,Dy m=X:=⟨_,rfl⟩
  have hPlc:∀{v:Int × Int},okN m v→∀H:Aa,cl Ec H (some (.func qp [] [])) (some [.int .i64 v.1,.int .i64 v.2])=some (.ret (.int .i64 (dH v)),[]):=fun h H=>by
   rw[←hqp]
   exact af0 (O:=Ec) (H:=H) (uA rfl) (by simp only[Ou,Um,aR3,Ly]) (by simp[uV,aIC]) (aLB hm h) rfl rfl
  have hb0:=hPlc (aKG hm)
  have hH1l:=K1.len
  simp only[acZ,aER]at hH1l
  have g0:H1[0]?=some (.live 7 false false [m.cells]):=K1.same 0 (by simp) (by simp)
  have g1:H1[1]?=some (.live 1 false false (aC7 (Ia m) [.nils])):=K1.same 1 (by simp) (by simp)
  have g2:H1[2]?=some (.live 1 true false (aC7 (Ia m) [.bool false])):=K1.same 2 (by simp) (by simp)
  have hs0:∀c,(H1.set 2 c)[0]?=some (.live 7 false false [m.cells]):=fun c=>by rw[acR (by omega)];exact g0
  have hb1:=afI (aKG hm)
  have hb2:((dH (m.bgn,0):Int)<(Ia m:Int))=True:=eq_true (by omega)
  rw[hX]at r1 hXl hN hS
  rcases bO r1 with⟨_,h1⟩|⟨sb,rows',rfl,w2,w3,_,w5⟩
  ·have:X=[]:=aR5.1 h1
   subst this;simp at hXl
  obtain⟨R',w6⟩:=w5 rfl
  rw[acL]at *
  refine aJT rfl Try.func58 rfl rfl ?_
  simp only[Try.f58]
  refine Jb (fun K iN hK=>?_)
  (have hb:=trivial;with_reducible repeat' (first|simp only[hb,Vc.down,seval,aHE.down,hw0,hP0,hP1,Int.le_refl,hq,hqp,e1,e2,g0,g1,g2,hb0,hb1,hb2,hs0,aV9,aR6,acL]|refine Bm ?_ ?_<;>intro hb|refine fd ?_|fail))
  have srw:∀k,k<X.length→∃v0,rows'[k]?=some [v0,.int .i64 (gS X k).2]∧((v0=.nils∧(gS X k).1=[])∨∃b,v0=.slr 1 b 0 (gS X k).1.length∧(gS X k).1≠[]∧(H1[b]?).bind Dn=some (1,true,(gS X k).1.map iv)∧b<H1.length∧b≠1∧b≠2):=fun k hk=>by
   obtain⟨r,R7,k1,k2,_⟩:=aeT w6 (i:=k) (X:=scC (gS X k)) (by rw[aAN,aEO hk,pJ (aEO hk)];rfl)
   obtain⟨v0,l1,R10,R11,rfl,w9,w10,_⟩:=pN (show cY (rd 5 (hf H1)) r=some (Ak 1 true false ((gS X k).1.map iv)::[.int .i64 (gS X k).2],R7)from k2)
   obtain⟨v1,l2,R12,R13,rfl,w11,w12,_⟩:=pN w10
   obtain⟨rfl,_⟩:=aK2 w12
   obtain⟨rfl,_⟩:=a0D w11
   refine⟨v0,k1,?_⟩
   rcases bO w9 with⟨rfl,h1⟩|⟨b,rows2,rfl,y1,y2,y3,_⟩
   ·exact .inl ⟨rfl,aR5.1 h1⟩
   ·have y4:=y3 rfl
    subst y4
    rw[acL]
    have y1':(H1[b]?).bind Dn=some (1,true,(gS X k).1.map iv):=y1
    by_cases hne:(gS X k).1=[]
    ·rw[hne]at w9 y1'
     have:=(avO (d:=4) (n:=0) (show(hf H1 b).bind Dn=some (1,true,[])from y1') rfl).symm.trans (show rd 5 (hf H1) (.slr 1 b 0 0)=some (Ak 1 true false [],R10)from w9)
     simp[Ak]at this
    ·refine .inr ⟨b,rfl,hne,y1',?_,?_,?_⟩
     ·obtain⟨c,hc,_⟩:=aLE.1 y1'
      exact Aw hc
     ·rintro rfl
      rw[g1]at y1'
      simp[Dn]at y1'
     ·rintro rfl
      rw[g2]at y1'
      obtain⟨z,l,hz⟩:=List.exists_cons_of_ne_nil hne
      obtain⟨n,hn⟩:∃n,Ia m=n+1:=⟨Ia m-1,by omega⟩
      rw[hz,hn]at y1'
      simp[Dn,List.replicate_succ,iv]at y1'
  obtain⟨srow,hsr⟩:∃srow:Nat→List AV,∀k,k<X.length→∃v0,srow k=[v0,.int .i64 (gS X k).2]∧Rq (H1[sb]?) k=some (srow k)∧((v0=.nils∧(gS X k).1=[])∨∃b,v0=.slr 1 b 0 (gS X k).1.length∧(gS X k).1≠[]∧(H1[b]?).bind Dn=some (1,true,(gS X k).1.map iv)∧b<H1.length∧b≠1∧b≠2):=⟨fun k=>(rows'[k]?).getD [],fun k hk=>by
   obtain⟨v0,a1,a2⟩:=srw k hk
   exact⟨v0,by simp[a1],by rw[show Rq (H1[sb]?) k=rows'[k]? from aEP w2 k];simp only[a1,aSU],a2⟩⟩
  have w2':(H1[sb]?).bind Dn=some (2,false,rows'):=w2
  have hsb0:sb≠0:=by rintro rfl;rw[g0]at w2';simp[Dn]at w2'
  have hsb1:sb≠1:=by rintro rfl;rw[g1]at w2';simp[Dn]at w2'
  have hsb2:sb≠2:=by rintro rfl;rw[g2]at w2';simp[Dn]at w2'
  have hsbl:sb<H1.length:=by obtain⟨c,hc,_⟩:=aLE.1 w2';exact Aw hc
  have hrd:∀G:Aa,(∀c,c<H1.length→c≠1→c≠2→G[c]?=H1[c]?)→∀k,k<X.length→∃R,(∀d,cY (rd (d+1) (hf G)) (srow k)=some (scC (gS X k),R))∧R.length≤1:=fun G hG k hk=>by
   obtain⟨v0,s1,_,s3⟩:=hsr k hk
   rw[s1]
   rcases s3 with⟨rfl,h1⟩|⟨b,rfl,h1,h2,h3,h4,h5⟩
   ·refine⟨[],fun d=>?_,by simp⟩
    unfold scC
    rw[h1]
    exact Xe (R1:=[]) rfl (Xe (aG2 ..) aCW)
   ·refine⟨[b],fun d=>?_,by simp⟩
    unfold scC
    rw[aE8 (by simpa using h1)]
    exact Xe (avO (show(G[b]?).bind Dn=_ by rw[hG b h3 h4 h5];exact h2) (by simp)) (Xe (aG2 ..) aCW)
  have hz:okN m (m.bgn,0):=aKG hm
  have F0:PzH m X H1 srow [((m.bgn,0),[])] 0 0 H1.length (aC7 (Ia m) .nils) (H1.set 2 (.live 1 true true ((aC7 (Ia m) [.bool false]).set (dH (m.bgn,0)) [.bool true]))++[.live 1 true false [[.int .i64 (dH (m.bgn,0))]]]):=by
   refine⟨BF.start _ _ _,by simp,fun c c1 _ c3=>?_,⟨false,?_⟩,by simp,fun y u hu=>.inl ⟨?_,?_⟩,⟨true,?_⟩,⟨false,?_⟩,aAP _⟩
   ·rw[aAM (by simpa using c1),acR (fun e=>c3 e.symm)]
   ·rw[aAM (by simp;omega),acR (by omega),g1];simp
   ·rw[aR6]at hu
    split at hu
    ·simpa using hu.symm
    ·cases hu
   ·unfold Ud
    rw[show [((m.bgn,(0:Int)),([]:List Nat))]=[]++[((m.bgn,0),[])]from rfl,aeI]
    simp only[aDY,List.find?_nil,Option.map_none]
    split<;>rfl
   ·rw[aAM (by simp;omega),aLG (by omega)]
    have:=aRK (D:=[]) hz (by simp) []
    rw[aVT]at this
    rw[this,aR1]
    have h0:(isT m []).map (fun b=>[AV.bool b])=aC7 (Ia m) [.bool false]:=by
     unfold isT
     rw[List.map_map]
     refine aWA fun i=>?_
     rw[aAN,aR6]
     by_cases hi:i<Ia m
     ·rw[aPH hi,if_pos hi];rfl
     ·rw[aRG (by simpa using hi),if_neg hi];rfl
    rw[h0]
   ·simp
  refine Eo (cnt 92 (fun n (_:Unit) t h=>∃D i lb PS,n+i=89∧i≤D.length∧t 1=.ptr 0 0 0∧t 4=.slr 1 1 0 (Ia m)∧t 5=.slr 1 2 0 (Ia m)∧t 6=.slr 2 sb 0 X.length∧t 7=.slr 1 lb 0 D.length∧t 8=.int .i64 i∧PzH m X H1 srow D i 0 lb PS h) (fun _ _=>()) (fun _ e t h=>e=.exit 0∧∃D lb PS,t 4=.slr 1 1 0 (Ia m)∧t 5=.slr 1 2 0 (Ia m)∧PzH m X H1 srow D D.length 0 lb PS h) ?_ ?_ 89 () _ _ ?_) (fun e t h hk=>?_)
  ·rintro _ t h Q' kQ ⟨D,i,lb,PS,hni,hiD,_,_,_,_,_,_,F⟩
   have:=Qw hm F.B
   omega
  ·rintro n _ t h J Q' kJ kQ ⟨D,i,lb,PS,hni,hiD,c1,c4,c5,c6,c7,c8,F⟩
   by_cases hlt:i<D.length
   ·obtain⟨⟨u,pth⟩,hDi⟩:∃z,D[i]?=some z:=⟨_,aEO hlt⟩
    have hd:((i:Int)<(D.length:Int))=True:=eq_true (by omega)
    obtain⟨xl,hln⟩:=F.ln
    have hw:IntKind.i64.wrap ((i:Int)+1)=((i+1:Nat):Int):=by have:=Qw hm F.B;rw[Dz (by omega) (by omega)];rfl
    (have hb:=trivial;with_reducible repeat' (first|simp only[hb,Vc.down,seval,aHE.down,c1,c4,c5,c6,c7,c8,hd,hln,hDi,aCF,aAN]|refine Bm ?_ ?_<;>intro hb|refine fd ?_|fail))
    refine Eo (Wy 92 X (fun j (_:Unit) t h=>∃D lb PS,(∃pth,D[i]?=some (u,pth))∧t 1=.ptr 0 0 0∧t 4=.slr 1 1 0 (Ia m)∧t 5=.slr 1 2 0 (Ia m)∧t 6=.slr 2 sb 0 X.length∧t 7=.slr 1 lb 0 D.length∧t 8=.int .i64 i∧t 9=.int .i64 (dH u)∧t 10=.int .i64 j∧PzH m X H1 srow D i j lb PS h) (fun _ _=>()) (fun _ e t h=>e=.exit 2∧∃D lb PS,(∃pth,D[i]?=some (u,pth))∧t 1=.ptr 0 0 0∧t 4=.slr 1 1 0 (Ia m)∧t 5=.slr 1 2 0 (Ia m)∧t 6=.slr 2 sb 0 X.length∧t 7=.slr 1 lb 0 D.length∧t 8=.int .i64 i∧PzH m X H1 srow D i X.length lb PS h) ?_ ?_ () _ _ ?_) (fun e t h hk=>?_)
    ·rintro _ t h Q2 kQ2 ⟨D,lb,PS,hDi,c1,c4,c5,c6,c7,c8,c9,c10,F⟩
     (have hb:=trivial;with_reducible repeat' (first|simp only[hb,Vc.down,seval,aHE.down,c6,c10,aHM,decide_false]|refine Bm ?_ ?_<;>intro hb|refine fd ?_|fail))
     exact kQ2 _ _ _ ⟨rfl,D,lb,PS,hDi,by simp[up,c1],by simp[up,c4],by simp[up,c5],by simp[up,c6],by simp[up,c7],by simp[up,c8],F⟩
    ·rintro x rest j _ t h J2 Q2 kJ2 kQ2 hx hj ⟨D,lb,PS,⟨pth,hDi⟩,c1,c4,c5,c6,c7,c8,c9,c10,F⟩
     have hlt:=rM hDi
     have hd2:((j:Int)<(X.length:Int))=True:=eq_true (by omega)
     have hw2:IntKind.i64.wrap ((j:Int)+1)=((j+1:Nat):Int):=by rw[Dz (by omega) (by omega)];rfl
     have hgx:gS X j=x:=pJ hx
     obtain⟨v0,s1,s2,s3⟩:=hsr j hj
     rw[hgx]at s1 s3
     obtain⟨cS,hcS⟩:∃c,H1[sb]?=some c:=⟨_,aEO hsbl⟩
     rw[hcS,s1]at s2
     have hSb:h[sb]?=some cS:=(F.kp sb hsbl hsb1 hsb2).trans hcS
     have h0:h[0]?=some (.live 7 false false [m.cells]):=(F.kp 0 (by omega) (by omega) (by omega)).trans g0
     have hu:=aFI hm F.B (aLF hDi)
     simp only at hu
     have hu2:=apH hm hu x
     have hui:=a6T hu
     have hq1:((dH u:Int)).tdiv 11=u.1:=by rw[hui];obtain⟨a1,a2,a3,a4⟩:=hu;rw[Int.tdiv_eq_ediv_of_nonneg (by omega)];omega
     have hq2:((dH u:Int)).tmod 11=u.2:=by rw[hui];obtain⟨a1,a2,a3,a4⟩:=hu;rw[Int.tmod_eq_emod_of_nonneg (by omega)];omega
     have hwu:IntKind.i64.wrap u.1=u.1:=by obtain⟨a1,a2,a3,a4⟩:=hu;exact Dz (by omega) (by omega)
     obtain⟨R5,hR5,_⟩:=hrd h F.kp j hj
     rw[s1,hgx]at hR5
     have hlx:=aNO hm (hS.leg x (aLF hx))
     have hrx:aE7 m x.1=true:=by simp only[aRV,aX2]at hlx;exact hlx.1
     have hrv:rdV h (.agg [v0,.int .i64 x.2])=some (.agg (scC x)):=aAE (show 6≤12 by omega) (a6D (hR5 4))
     have hstp:cl Ec h (some (.func qs [] [])) (some [.agg m.cells,.int .i64 u.1,.int .i64 u.2,.agg [v0,.int .i64 x.2]])=some (.ret (.tup [.int .i64 (stp m u x).1,.int .i64 (stp m u x).2]),[]):=by
      rw[←hqs]
      exact af0 (O:=Ec) (H:=h) (uA rfl) (by simp only[Ou,Um,aDK,aR3,hrv,Ly];rfl) (by simp[Vx,uV,aCN,azE.cells,Xy,aIC]) (aX1 m u.1 u.2 ⟨false,x.1,x.2⟩ hs hm hrx) rfl rfl
     have hpv:=hPlc hu2 h
     have hpl2:=afI hu2
     have hBo:=F.B
     obtain⟨v',hv'⟩:∃v',stp m u x=v':=⟨_,rfl⟩
     rw[hv']at hstp hpv hpl2 hu2
     have hgj:stp m u (gS X j)=v':=by rw[hgx,hv']
     have hd3:((dH v':Int)<(Ia m:Int))=True:=eq_true (by omega)
     obtain⟨xi,his⟩:=F.is_
     have hit:=aEH D hpl2
     cases hin:(Ud D (dH v')).isSome with
     |true=>
      rw[hin]at hit
      (have hb:=trivial;with_reducible repeat' (first|simp only[hb,Vc.down,seval,aHE.down,c1,c4,c5,c6,c7,c8,c9,c10,hd2,h0,hSb,s2,hq1,hq2,hwu,hqs,hqp,hstp,hpv,hd3,his,hit,hw2,aCF,aAN]|refine Bm ?_ ?_<;>intro hb|refine fd ?_|fail))
      obtain⟨p',hp'⟩:=Option.isSome_iff_exists.1 hin
      unfold Ud at hp'
      rw[fA hu2]at hp'
      obtain⟨kz,hkz⟩:=aYH ((oG F.B).1 hp')
      exact Bn (kJ2 _ _ () ⟨D,lb,PS,⟨pth,hDi⟩,by simp[up,c1],by simp[up,c4],by simp[up,c5],by simp[up,c6],by simp[up,c7],by simp[up,c8],by simp[up,c9],by simp[up],{ F with B:=F.B.old hDi hkz hgj.symm }⟩ rfl)
     |false=>
      rw[hin]at hit
      have hnd:v'∉D.map (·.1):=by
       rw[←aBN]
       unfold Ud at hin
       rw[fA hu2]at hin
       simpa using hin
      have hBn:=F.B.new hDi hj (fun k z hz e=>hnd (by rw[hgj]at e;exact aM9.2 ⟨z,aLF hz,e⟩))
      rw[hgj]at hBn
      have hdu:((dH u:Int)<(Ia m:Int))=True:=eq_true (by have:=afI hu;omega)
      obtain⟨xp,hps⟩:=F.ps
      obtain⟨xl,hln⟩:=F.ln
      have hlbl:=F.lbl
      have hhl:=F.len
      have hlb3:=Aw hln
      obtain⟨pu,hpu⟩:∃pu,PS[dH u]?=some pu:=⟨_,aEO (by rw[F.pl];exact afI hu)⟩
      obtain⟨pq,hpq⟩:∃pq,PS[dH v']?=some pq:=⟨_,aEO (by rw[F.pl];exact hpl2)⟩
      have hPu:=F.pr _ _ hpu
      have htu:Ud D (dH u)=some pth:=by
       unfold Ud
       rw[fA hu,oG F.B]
       exact aLF hDi
      rw[htu,aSU]at hPu
      have h88:=Qw hm F.B
      have h88n:=Qw hm hBn
      simp only[aE9,acZ,aER]at h88n
      have hpw:=a6X F.B i _ hDi
      simp only at hpw
      obtain⟨G2,hG2⟩:∃G2,h.set 2 (.live 1 true true (((isT m D).map fun b=>[AV.bool b]).set (dH v') [.bool true]))=G2:=⟨_,rfl⟩
      have hG2l:G2.length=h.length:=by rw[←hG2,aqD]
      have kG2:∀c,c≠2→G2[c]?=h[c]?:=fun c hc=>by rw[←hG2,acR (fun e=>hc e.symm)]
      have a1:G2[1]?=some (.live 1 false xp (PS.map fun v=>[v])):=by rw[kG2 1 (by omega)];exact hps
      have aS:G2[sb]?=some cS:=by rw[kG2 sb hsb2];exact hSb
      have s1g:=Jj (show 1<G2.length by omega)
      have hac:Bd v0=[v0]:=by rcases s3 with⟨rfl,_⟩|⟨d,rfl,_⟩<;>rfl
      have hic:v0.isCell=true:=by rcases s3 with⟨rfl,_⟩|⟨d,rfl,_⟩<;>rfl
      have hl39:(D.length+1≤549755813888)=True:=eq_true (by omega)
      have hp39:(pth.length+1≤549755813888)=True:=eq_true (by omega)
      rcases hPu with⟨rfl,hp0⟩|⟨c,xc,rfl,hpn,hcb,hcl,hclb⟩
      ·obtain⟨sf,t1,t2,tn,tk⟩:∃sf:Nat→Nat,sf 1=4∧sf sb=1∧sf h.length=10∧∀k,sf (h.length+k)=k+10:=⟨fun b=>if h.length≤b then b-h.length+10 else if b=1 then 4 else 1,by show(if _ then _ else _)=_;rw[if_neg (by omega),if_pos rfl],by show(if _ then _ else _)=_;rw[if_neg (by omega),if_neg hsb1],by simp,fun k=>by simp⟩
       obtain⟨G3,hG3⟩:∃G3,G2.set 1 (.live 1 false true ((PS.map fun v=>[v]).set (dH v') [.slr 2 (h.length+1) 0 1]))=G3:=⟨_,rfl⟩
       have hG3l:G3.length=h.length:=by rw[←hG3,aqD,hG2l]
       have kG3:∀c,c≠1→G3[c]?=G2[c]?:=fun c hc=>by rw[←hG3,acR (fun e=>hc e.symm)]
       have aL:G3[lb]?=some (.live 1 true xl (D.map fun x=>[AV.int .i64 (dH x.1)])):=by rw[kG3 lb (by omega),kG2 lb (by omega)];exact hln
       have sLg:=Jj (show lb<G3.length by omega)
       have n0:∀l:Aa,(G3++l)[h.length]?=l[0]?:=fun l=>by rw[←hG3l];exact Qg G3 l 0
       have nk:∀(l:Aa) (k:Nat),(G3++l)[h.length+k]?=l[k]?:=fun l k=>by rw[←hG3l];exact Qg G3 l k
       have m0:∀l:Aa,(G2++l)[h.length]?=l[0]?:=fun l=>by rw[←hG2l];exact Qg G2 l 0
       have mk_:∀(l:Aa) (k:Nat),(G2++l)[h.length+k]?=l[k]?:=fun l k=>by rw[←hG2l];exact Qg G2 l k
       have aLa:=Ae aL
       have a1a:=Ae a1
       have aSa:=Ae aS
       (have hb:=trivial;with_reducible repeat' (first|simp only[hb,Vc.down,seval,aHE.down,c1,c4,c5,c6,c7,c8,c9,c10,hd2,h0,hSb,s2,hq1,hq2,hwu,hqs,hqp,hstp,hpv,hd3,his,hit,hw2,hG2,hG2l,a1,a1a,aS,aSa,s1g,hac,hic,hdu,hpu,hpq,hG3,hG3l,aL,aLa,sLg,n0,nk,m0,mk_,hl39,aCF,aAN]|refine Bm ?_ ?_<;>intro hb|((refine oC (eR (sf) ?_) ?_);(simp (discharger:=decide) only[oL,bW,aAO,aJZ,Ry,oD,oV,nZ,nY,Rz,acZ,aER,t1,t2,tn,tk];kernel_rfl);intro _)|refine fdq ?_|fail))
       rw[←hG3,←hG2]
       subst hp0
       exact Bn (kJ2 _ _ () ⟨D++[(v',[]++[j])],h.length+3,PS.set (dH v') (.slr 2 (h.length+1) 0 1),⟨[],aFP hDi _⟩,by simp[up,c1],by simp[up,c4],by simp[up,c5],by simp[up,c6],by simp[up],by simp[up,c8],by simp[up,c9],by simp[up],F.grow hu2 hnd hBn (by omega) _ [CB.live 2 false false [[v0,AV.int IntKind.i64 x.2]],CB.live 2 false false [[v0,AV.int IntKind.i64 x.2]],CB.live 1 true false [[AV.int IntKind.i64 (dH v')]]] rfl ⟨1,false,rfl,by simp,by simp[s1]⟩⟩ rfl)
      ·have hcL:=Aw hcb
       have hc2:c≠2:=by omega
       have hc1:c≠1:=by omega
       have aC:G2[c]?=some (.live 2 false xc (pth.map srow)):=by rw[kG2 c hc2];exact hcb
       have aCa:=Ae aC
       have hcp:=a74 (st:=2) (fl:=false) (r:=pth.map srow) (by simpa using hpn) (by simp;omega)
       have htk:List.take pth.length (pth.map srow)=pth.map srow:=aRF (by simp)
       rw[acL]at hcp
       obtain⟨sf,t1,t2,t3,tn,tk⟩:∃sf:Nat→Nat,sf 1=4∧sf sb=1∧sf c=1∧sf h.length=10∧∀k,sf (h.length+k)=k+10:=⟨fun b=>if h.length≤b then b-h.length+10 else if b=1 then 4 else 1,by show(if _ then _ else _)=_;rw[if_neg (by omega),if_pos rfl],by show(if _ then _ else _)=_;rw[if_neg (by omega),if_neg hsb1],by show(if _ then _ else _)=_;rw[if_neg (by omega),if_neg hc1],by simp,fun k=>by simp⟩
       obtain⟨G3,hG3⟩:∃G3,G2.set 1 (.live 1 false true ((PS.map fun v=>[v]).set (dH v') [.slr 2 (h.length+2) 0 (pth.length+1)]))=G3:=⟨_,rfl⟩
       have hG3l:G3.length=h.length:=by rw[←hG3,aqD,hG2l]
       have kG3:∀c,c≠1→G3[c]?=G2[c]?:=fun c hc=>by rw[←hG3,acR (fun e=>hc e.symm)]
       have aL:G3[lb]?=some (.live 1 true xl (D.map fun x=>[AV.int .i64 (dH x.1)])):=by rw[kG3 lb (by omega),kG2 lb (by omega)];exact hln
       have sLg:=Jj (show lb<G3.length by omega)
       have n0:∀l:Aa,(G3++l)[h.length]?=l[0]?:=fun l=>by rw[←hG3l];exact Qg G3 l 0
       have nk:∀(l:Aa) (k:Nat),(G3++l)[h.length+k]?=l[k]?:=fun l k=>by rw[←hG3l];exact Qg G3 l k
       have m0:∀l:Aa,(G2++l)[h.length]?=l[0]?:=fun l=>by rw[←hG2l];exact Qg G2 l 0
       have mk_:∀(l:Aa) (k:Nat),(G2++l)[h.length+k]?=l[k]?:=fun l k=>by rw[←hG2l];exact Qg G2 l k
       have hsn:∀(l:Aa) (x:CB),(G2++l).set h.length x=G2++l.set 0 x:=fun l x=>(List.set_append_right _ _ (by omega)).trans (by rw[hG2l,Nat.sub_self])
       have aLa:=Ae aL
       have a1a:=Ae a1
       have aSa:=Ae aS
       (have hb:=trivial;with_reducible repeat' (first|simp only[hb,Vc.down,seval,aHE.down,c1,c4,c5,c6,c7,c8,c9,c10,hd2,h0,hSb,s2,hq1,hq2,hwu,hqs,hqp,hstp,hpv,hd3,his,hit,hw2,hG2,hG2l,a1,a1a,aS,aSa,s1g,hac,hic,hdu,hpu,hpq,hG3,hG3l,aL,aLa,sLg,n0,nk,m0,mk_,hl39,hp39,aC,aCa,hcp,htk,hsn,List.set_cons_zero,acL,aCF,aAN]|refine Bm ?_ ?_<;>intro hb|((refine oC (eR (sf) ?_) ?_);(simp (discharger:=decide) only[oL,bW,aAO,aJZ,Ry,oD,oV,nZ,nY,Rz,acZ,aER,t1,t2,t3,tn,tk];kernel_rfl);intro _)|refine fdq ?_|fail))
       rw[←hG3,←hG2]
       exact Bn (kJ2 _ _ () ⟨D++[(v',pth++[j])],h.length+4,PS.set (dH v') (.slr 2 (h.length+2) 0 (pth.length+1)),⟨pth,aFP hDi _⟩,by simp[up,c1],by simp[up,c4],by simp[up,c5],by simp[up,c6],by simp[up],by simp[up,c8],by simp[up,c9],by simp[up],by
        have:=F.grow hu2 hnd hBn (by omega) (.slr 2 (h.length+2) 0 (pth++[j]).length) [CB.dead,CB.live 2 false false [[v0,AV.int IntKind.i64 x.2]],CB.live 2 false false (pth.map srow++[[v0,AV.int IntKind.i64 x.2]]),CB.live 1 true false [[AV.int IntKind.i64 (dH v')]]] rfl ⟨2,false,rfl,by simp,by simp[s1]⟩
        rw[show(pth++[j]).length=pth.length+1 by simp]at this
        exact this⟩ rfl)
    ·exact⟨D,lb,PS,⟨pth,hDi⟩,by simp[up,c1],by simp[up,c4],by simp[up,c5],by simp[up,c6],by simp[up,c7],by simp[up,c8],by simp[up],by simp[up],F⟩
    ·obtain⟨rfl,D,lb,PS,⟨pth,hDi⟩,c1,c4,c5,c6,c7,c8,F⟩:=hk
     have hlt':=rM hDi
     (have hb:=trivial;with_reducible repeat' (first|simp only[hb,Vc.down,seval,aHE.down,c8,hw]|refine Bm ?_ ?_<;>intro hb|refine fd ?_|fail))
     exact Bn (kJ _ _ () ⟨D,i+1,lb,PS,by omega,by omega,by simp[up,c1],by simp[up,c4],by simp[up,c5],by simp[up,c6],by simp[up,c7],by simp[up]<;>omega,{ F with B:=F.B.next }⟩ rfl)
   ·have hDl:i=D.length:=by omega
    subst hDl
    (have hb:=trivial;with_reducible repeat' (first|simp only[hb,Vc.down,seval,aHE.down,c7,c8,aHM,decide_false]|refine Bm ?_ ?_<;>intro hb|refine fd ?_|fail))
    exact kQ _ _ _ ⟨rfl,D,lb,PS,by simp[up,c4],by simp[up,c5],F⟩
  ·exact⟨_,0,H1.length,_,rfl,by simp,by simp[up,Fe],by simp[up],by simp[up],by simp[up],by simp[up],by simp[up],F0⟩
  ·obtain⟨rfl,D,lb,PS,c4,c5,F⟩:=hk
   obtain⟨xp,hps⟩:=F.ps
   obtain⟨xi,his⟩:=F.is_
   have h88:=Qw hm F.B
   obtain⟨R1,p1,p2⟩:=aFS (f:=rd 5 (hf h)) (val:=fun y=>aYL m ((Ud D y).getD [])) (w:=wN D) PS 0 fun y u hu=>by
    rw[Nat.zero_add]
    have hy:y<Ia m:=by have:=rM hu;rw[F.pl]at this;exact this
    rcases F.pr y u hu with⟨rfl,h1⟩|⟨c,x,rfl,h1,h2,_,_⟩
    ·rw[h1]
     exact⟨[],rfl,by simp⟩
    ·obtain⟨p,hp⟩:∃p,Ud D y=some p:=by
      cases hp:Ud D y with
      |none=>rw[hp]at h1;simp at h1
      |some p=>exact⟨p,rfl⟩
     rw[hp,aSU]at h1 h2 ⊢
     have hpX:∀k∈p,k<X.length:=by
      obtain⟨kz,hkz⟩:=aYH ((oG F.B).1 hp)
      exact(F.B.way kz _ hkz).2
     obtain⟨R,r1,r2⟩:=aCZ (f:=rd 4 (hf h)) (srow:=srow) (g:=fun i=>scC (gS X i)) p fun k hk=>by
      obtain⟨R,q1,q2⟩:=hrd h F.kp k (hpX k hk)
      exact⟨R,q1 3,q2⟩
     have ow:jV 0 2 false (p.map srow) (.slr 2 c 0 p.length) h:=jV.blk h2 rfl (by simp)
     obtain⟨R2,q1,q2⟩:=aXI ow (d:=4) r1 (fun e=>absurd (aR5.1 e) h1)
     refine⟨R2,?_,by unfold wN;rw[hp];simp at q2 ⊢;omega⟩
     unfold aYL
     rw[hX];exact q1
   rw[F.pl,←List.range_eq_range']at p1 p2
   have p3:R1.length≤3916:=by
    refine aC6 p2 (aC6 (a0Q D _ List.nodup_range) ?_)
    have:=aRQ (l:=D.map fun x=>x.2.length+1) (fun k x hx=>by
     rw[aAN]at hx
     obtain⟨z,hz,rfl⟩:=aXG.1 hx
     have:=a6X F.B k z hz
     omega) 88
    rw[aRF (by simpa using h88)]at this
    exact aC6 this (by decide)
   have ow:jV 0 1 false (PS.map fun v=>[v]) (.slr 1 1 0 (Ia m)) h:=jV.blk hps rfl (by rw[acL,F.pl])
   obtain⟨R2,q1,q2⟩:=aXI ow (d:=5) p1 (fun e=>by
    have h1:=congrArg aOW e
    rw[acL,F.pl]at h1
    simp at h1;omega)
   have q3:rd 6 (hf h) (.slr 1 2 0 (Ia m))=some (Ak 1 true false ((isT m D).map fun b=>[.bool b]),[2]):=by
    rw[aE8 (by
     intro e
     have h1:=congrArg aOW e
     rw[acL,aaA]at h1
     simp at h1;omega)]
    exact avO (show(h[2]?).bind Dn=_ by rw[his];rfl) (by rw[acL,aaA])
   (have hb:=trivial;with_reducible repeat' (first|simp only[hb,Vc.down,seval,aHE.down,c4,c5]|refine Bm ?_ ?_<;>intro hb|refine fd ?_|fail))
   refine hK _ ?_
   rw[aFF]
   refine aK8 (vs:=[.slr 1 1 0 (Ia m),.slr 1 2 0 (Ia m)]) (by simp only[Vc.down,seval,aHE.down]) (a32 (Xe q1 (Xe q3 aCW)) (by simp at q2 ⊢;omega) rfl fun outs h' R' k1 k2 k3=>⟨D,outs,R',by rw[hX];exact F.B,rfl,k1,by simp at q2 k2;omega,k3⟩)
 obtain⟨o,h',e,E,outs,R,hF,rfl,k1,k2,k3⟩:=key
 exact⟨E,hF,outs,h',R,e,k1,k2,k3⟩
theorem aW7{m:Ah}(hm:Ce m=true){v:Int × Int}(h:okN m v)(H:Aa):cl Ec H (some (.func (.func 61) [] [])) (some [.int .i64 v.1,.int .i64 v.2])=some (.ret (.int .i64 (dH v)),[]):=
 af0 (O:=Ec) (H:=H) (uA rfl) (by simp only[Ou,Um,aR3,Ly]) (by simp[uV,aIC]) (aLB hm h) rfl rfl
theorem aPF{g:HF}{d st b n:Nat}{rows X':List (List AV)}{X:AV}{R R':List Nat}(h1:(g b).bind Dn=some (st,false,rows))(h2:Ek (rd d g) rows=some (X',R'))(h:rd (d+1) g (.slr st b 0 n)=some (X,R)):R.length=R'.length+1:=by
 simp only[rd,h1,h2,Option.bind_some,cond_false,aCF]at h
 split at h
 ·simp only[aG6.injEq,Prod.mk.injEq]at h
  rw[←h.2,acZ]
 ·cases h
theorem a0T{m:Ah}(hs:m.small)(hm:Ce m=true)(hN:(Dy m).length≤200)(H:Aa):∃E,Fnd m (Dy m) E∧∃pb rows R cI ib es H1,cl Ec H (some (.func (.func 58) [] [])) (some [.agg m.cells])=some (.ret (.tup [.slr 1 pb 0 (Ia m),.slr 1 ib 0 (Ia m)]),es)∧Eh H es=H1∧(∀c,c<H.length→H1[c]?=H[c]?)∧H.length≤H1.length∧H1[ib]?=some cI∧(∀y,y<Ia m→Rq (some cI) y=some [.bool (Ud E y).isSome])∧H.length≤ib∧(hf H1 pb).bind Dn=some (1,false,rows)∧Ek (rd 5 (hf H1)) rows=some ((aHJ (Ia m)).map fun y=>[aYL m ((Ud E y).getD [])],R)∧R.length≤4500:=by
 obtain⟨E,hE,KP⟩:=a4Y hs hm hN
 have hpl:=aQN hm
 obtain⟨outs,es,H1,R,e1,e2,K1,r1,r2,r3⟩:=KP.cl (H:=H) (args:=[.agg m.cells]) (uA rfl) (by simp only[Ou,Um,aDK,Ly]) (by simp[Vx,aIC])
 rw[show([AV.agg m.cells].flatMap (Dk 12 (hf H)))=[]from by rw[aLI,Vk _ (show 8≤12 by omega) (Vx m)];rfl]at K1
 obtain⟨v1,l1,R1,R2,rfl,w1,w2,rfl⟩:=pN r1
 obtain⟨v2,l2,R3,R4,rfl,w3,w4,rfl⟩:=pN w2
 obtain⟨rfl,rfl⟩:=aK2 w4
 refine⟨E,hE,?_⟩
 rcases bO w1 with⟨_,h1⟩|⟨pb,rows,rfl,a1,a2,_,a4⟩
 ·have:=congrArg aOW h1
  simp at this;omega
 rcases bO w3 with⟨_,h1⟩|⟨ib,rows2,rfl,b1,b2,b3,_⟩
 ·have:=congrArg aOW h1
  rw[acL,aaA]at this
  simp at this;omega
 obtain⟨R',a5⟩:=a4 rfl
 have b4:=b3 rfl
 subst b4
 have b1':(H1[ib]?).bind Dn=some (1,true,(isT m E).map fun b=>[AV.bool b]):=b1
 obtain⟨cI,c1,c2⟩:=aLE.1 b1'
 have hq:=avO (d:=5) (n:=(isT m E).length) b1 (by simp)
 rw[acL]at w3
 rw[hq]at w3
 simp only[aG6.injEq,Prod.mk.injEq]at w3
 refine⟨pb,rows,R',cI,ib,es,H1,?_,e2,fun c hc=>K1.same c hc (by simp),K1.len,c1,fun y hy=>?_,r3 ib (by rw[←w3.2];simp),a1,a5,?_⟩
 ·rw[e1,acL,acL,aPA,aaA]
 ·have:=aEP b1 y
  rw[c1,aAN,aEH E hy]at this
  exact this
 ·have:=aPF a1 a5 w1
  simp at r2;omega
theorem bcR{g:HF}{d st:Nat}{fl nn:Bool}{v:AV}{rows:List (List AV)}{R:List Nat}(h:rd (d+1) g v=some (Ak st fl nn rows,R)):v.isCell=true∧Bd v=[v]:=by
 rcases bO h with⟨rfl,_⟩|⟨b,rows',rfl,_⟩<;>exact⟨rfl,rfl⟩
theorem aYD{m:Ah}(hm:Ce m=true)(h3:m.sens.length≤3):aRR m=((Dy m).length:Int):=by
 have hc:=eT hm
 have hcl:=mP hm
 have hE:∀k,(Nz m k).length≤20001:=fun k=>by
  unfold Nz
  rw[acZ]
  split
  ·simp
  ·have:=List.length_filter_le (fun n=>decide (n∈aTC m k)) (upN 20000 (-9999))
   rw[ahQ]at this
   omega
 have key:∀d,d≤3→(aHJ d).foldl (fun n k=>IntKind.i64.wrap (n*((Nz m k).length:Int))) (IntKind.i64.wrap (m.cmds+1))=(((Jo m d).length*(Fg m).length:Nat):Int)∧(Jo m d).length*(Fg m).length≤5*20001 ^ d:=by
  intro d
  induction d with
  |zero=>
   intro _
   have h1:(Jo m 0).length=1:=by simp[Jo,kM]
   rw[h1,aOY]
   refine⟨?_,by omega⟩
   show IntKind.i64.wrap (m.cmds+1)=_
   rw[Dz (by omega) (by omega)]
   omega
  |succ d ih=>
   intro hd
   obtain⟨i1,i2⟩:=ih (by omega)
   have e1:(Jo m (d+1)).length*(Fg m).length=(Jo m d).length*(Fg m).length*(Nz m d).length:=by
    rw[ahS,aSY,Nat.mul_comm (Nz m d).length,←aSY]
   have e2:(Jo m d).length*(Fg m).length*(Nz m d).length≤5*20001 ^ (d+1):=by
    rw[Nat.pow_succ,←aSY]
    exact aOZ i2 (hE d)
   have e3:5*20001 ^ (d+1)≤5*20001 ^ 3:=Nat.mul_le_mul_left _ (Nat.pow_le_pow_right (by omega) hd)
   have e4:5*20001 ^ 3≤4611686018427387904:=by decide
   rw[aS0,aTE,i1,e1]
   refine⟨?_,e2⟩
   simp only[List.foldl_cons,List.foldl_nil]
   rw[←Int.natCast_mul,Dz (by omega) (by omega)]
 unfold aRR
 rw[(key m.sens.length h3).1,abT]
theorem aUC{m:Ah}(hm:Ce m=true){n:Nat}(h:aEW m (n:Int)=true):(Dy m).length≤n:=by
 unfold aEW at h
 rw[hm]at h
 simp only[Bool.not_true,Bool.false_or,aX2,decide_eq_true_eq]at h
 have:=aYD hm h.2.1
 omega
end Go.Proofs.Ytfkokgjfpojeoaa
